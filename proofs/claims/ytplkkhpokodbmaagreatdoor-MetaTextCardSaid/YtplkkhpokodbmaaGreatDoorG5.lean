/-
  Heaps of the reference. Each law says its conditions.
-/
import Derived.Test.YtplkkhpokodbmaaGreatDoorG4
section
set_option linter.unusedSimpArgs false
set_option linter.unusedVariables false
set_option maxRecDepth 100000
set_option maxHeartbeats 2000000
namespace Go.Proofs.YtplkkhpokodbmaaGreatDoor
open Go.Hp Go.J Go.S
open Go.Mem (Ty KTy blk elemAt pre suf blk_pre blk_suf aget aset strK aggDesc)
open Go.Mem (adel apos aget_aset aget_adel)
structure Sv where
  p : Option Addr
  len : Nat
  cap : Nat
abbrev Sv.v (s : Sv) : Value := .slice s.p s.len s.cap
/-- An element of the reference's list: an object (none: a removed one), and where its parts lie. -/
structure Rx where
  o : Option Hob
  tp : Nat
  uv : Sv
  rv : Sv
def Rx.v : Rx → Value
  | ⟨some o, tp, uv, rv⟩ => .agg #[.int .i64 o.kind, .int .i64 o.tag, .string o.name, tabV (0, tp) o, .int .i64 o.mt.kind, .int .i64 o.mt.p, .int .i64 o.mt.q, .string o.mt.str, .int .i64 o.mt.ref, uv.v, rv.v]
  | ⟨none, _, _, _⟩ => .agg #[.int .i64 0, .int .i64 0, .string ByteArray.empty, .pointer none, .int .i64 0, .int .i64 0, .int .i64 0, .string ByteArray.empty, .int .i64 0, .slice none 0 0, .slice none 0 0]
theorem tabV_one (q : Nat × Nat) (o : Hob) : (tabV q o).oneCell' = true := by unfold tabV; split <;> rfl
theorem tabV_tab {q : Nat × Nat} {o : Hob} (h : o.kind = 4) : tabV q o = ptrV q.2 := by unfold tabV; rw [if_pos h]
def RxT : Ty Rx := ⟨110, 11, 136, true, Rx.v, ⟨none, 0, ⟨none, 0, 0⟩, ⟨none, 0, 0⟩⟩⟩
theorem RxT_ok : RxT.Ok Tryz.prog := ok_of RxT _ Tryz.t110 (by decide) (fun x => by obtain ⟨o, _, _, _⟩ := x; cases o <;> rfl) (fun x u hu => by
  obtain ⟨o, tp, uv, rv⟩ := x
  cases o with
  | none => simp [Ty.enc, RxT, Rx.v, Value.cells] at hu; repeat (first | (rcases hu with rfl | hu; rfl) | (subst hu; rfl))
  | some o =>
    simp [Ty.enc, RxT, Rx.v, Value.cells] at hu
    rcases hu with rfl | rfl | rfl | rfl | rfl | rfl | rfl | rfl | rfl | rfl | rfl <;> first | rfl | exact tabV_one _ _) (fun x => by obtain ⟨o, _, _, _⟩ := x; cases o <;> rfl) Tryz.underlying110 rfl (fun h => by cases h) (by kernel_rfl) (by kernel_rfl) (by kernel_rfl) (by kernel_rfl)
def usr (o : Hob) : List Vl := if o.kind = 8 then o.vals else []
def rfs (o : Hob) : List Vl := if o.kind = 8 then [] else o.vals
def rtO (tp : Nat) (o : Hob) : Asr := star (if o.kind = 4 then [rtA tp o.tab.list o.tab.rest] else [])
/-- The parts of an element. -/
def roP : Rx → Asr
  | ⟨some o, tp, uv, rv⟩ => star [own VlT uv.v (usr o), own VlT rv.v (rfs o), rtO tp o]
  | ⟨none, _, _, _⟩ => star []
def rallP (L : List Rx) : Asr := star (L.map roP)
/-- A heap of the reference in memory. -/
def rhA (b : Nat) (st : Hst) : Asr := exA fun v => exA fun tv => exA fun L => stA (HInv st ∧ L.map Rx.o = st.objs) [blkA b #[v, .int .i64 (st.count : Int), tv] 105, own RxT v L, own bTy tv st.tch, rallP L]
section
variable {Z : Zone} {F : List Asr} {H : Heap} {b : Nat} {st : Hst} {L : List Rx} {id : Int} {o o' : Hob} {i tp : Nat} {uv rv : Sv}
theorem rh_open (h : Holds Z (rhA b st :: F) H) : ∃ (v tv : Value) (L : List Rx), (HInv st ∧ L.map Rx.o = st.objs) ∧ Holds Z (blkA b #[v, .int .i64 (st.count : Int), tv] 105 :: own RxT v L :: own bTy tv st.tch :: rallP L :: F) H := by
  obtain ⟨v, h⟩ := h.open_ex
  obtain ⟨tv, h⟩ := h.open_ex
  obtain ⟨L, h⟩ := h.open_ex
  exact ⟨v, tv, L, h.open_st⟩
theorem rh_shut {v tv : Value} {n : Int} {T : List Bool} (hp : ((HInv st ∧ L.map Rx.o = st.objs) ∧ n = (st.count : Int)) ∧ T = st.tch) (h : Holds Z (blkA b #[v, .int .i64 n, tv] 105 :: own RxT v L :: own bTy tv T :: rallP L :: F) H) : Holds Z (rhA b st :: F) H := by
  obtain ⟨⟨h1, rfl⟩, rfl⟩ := hp
  exact Holds.shut_ex v (Holds.shut_ex tv (Holds.shut_ex L (Holds.shut_st h1 h)))
theorem rh_inv (h : Holds Z (rhA b st :: F) H) : HInv st := by
  obtain ⟨_, _, _, h, _⟩ := rh_open h; exact h.1
theorem rx_len (hL : L.map Rx.o = st.objs) : L.length = st.objs.length := by rw [← hL, List.length_map]
theorem rx_get (hL : L.map Rx.o = st.objs) (ho : st.get id = some o) : ∃ tp uv rv, L[(id - 1).toNat]? = some ⟨some o, tp, uv, rv⟩ := by
  obtain ⟨_, h1, h2, h3⟩ := get_mem ho
  rw [← hL, List.getElem?_map, show id.toNat - 1 = (id - 1).toNat by omega] at h3
  cases hx : L[(id - 1).toNat]? with
  | none => rw [hx] at h3; cases h3
  | some x =>
    rw [hx] at h3
    obtain ⟨ox, tp, uv, rv⟩ := x
    simp at h3
    exact ⟨tp, uv, rv, by rw [← h3]⟩
theorem rx_cases (hL : L.map Rx.o = st.objs) (h1 : 1 ≤ id) (h2 : id ≤ (L.length : Int)) : (∃ tp uv rv, L[(id - 1).toNat]? = some ⟨none, tp, uv, rv⟩ ∧ st.get id = none) ∨ ∃ o tp uv rv, L[(id - 1).toNat]? = some ⟨some o, tp, uv, rv⟩ ∧ st.get id = some o := by
  have hlt : (id - 1).toNat < L.length := by omega
  obtain ⟨x, hx⟩ : ∃ x, L[(id - 1).toNat]? = some x := ⟨_, List.getElem?_eq_getElem hlt⟩
  have hg : st.get id = x.o := by
    unfold Hst.get
    rw [if_pos h1, ← hL, List.getElem?_map, show id.toNat - 1 = (id - 1).toNat by omega, hx]; rfl
  obtain ⟨o, tp, uv, rv⟩ := x
  cases o with
  | none => exact .inl ⟨tp, uv, rv, hx, hg⟩
  | some o => exact .inr ⟨o, tp, uv, rv, hx, hg⟩
theorem rtO_open (h4 : o.kind = 4) (h : Holds Z (rtO tp o :: F) H) : Holds Z (rtA tp o.tab.list o.tab.rest :: F) H := by
  unfold rtO at h
  rw [if_pos h4] at h
  exact h.star_out
theorem rtO_shut {T : Tb} (h4 : o.kind = 4) (h : Holds Z (rtA tp T.list T.rest :: F) H) : Holds Z (rtO tp { o with tab := T } :: F) H := by
  unfold rtO
  rw [if_pos h4]
  exact Holds.star_in (L := [_]) h
theorem rtO_none (h4 : o.kind ≠ 4) (h : Holds Z F H) : Holds Z (rtO tp o :: F) H := by
  unfold rtO
  rw [if_neg h4]
  exact h.star_nil
theorem rall_out (hy : L[i]? = some ⟨some o, tp, uv, rv⟩) (h : Holds Z (rallP L :: F) H) : Holds Z (own VlT uv.v (usr o) :: own VlT rv.v (rfs o) :: rtO tp o :: rallP (L.eraseIdx i) :: F) H := (h.star_get hy).star_out
theorem rall_in (hy : L[i]? = some ⟨some o, tp, uv, rv⟩) {uv' rv' : Sv} (h : Holds Z (own VlT uv'.v (usr o') :: own VlT rv'.v (rfs o') :: rtO tp o' :: rallP (L.eraseIdx i) :: F) H) : Holds Z (rallP (L.set i ⟨some o', tp, uv', rv'⟩) :: F) H := by
  have h1 : Holds Z (roP ⟨some o', tp, uv', rv'⟩ :: star ((L.eraseIdx i).map roP) :: F) H := Holds.star_in (L := [_, _, _]) h
  have hi := (List.getElem?_eq_some_iff.1 hy).1
  unfold rallP
  rw [List.map_set]
  rw [← erase_map, ← del_eq] at h1
  have := Holds.star_push (i := i) (A := roP ⟨some o, tp, uv, rv⟩) (by rw [gt_eq, List.getElem?_map, hy]; rfl) h1
  rwa [upd_eq] at this
theorem own_flat {α : Type} {T : Ty α} {v : Value} {A B : List α} (hl : A.length = B.length) (hf : T.flat A = T.flat B) (h : Holds Z (own T v A :: F) H) : Holds Z (own T v B :: F) H := h.imp fun S ⟨S1, S2, h1, h2, hd, hS⟩ => ⟨S1, S2, ⟨by
  obtain ⟨hw, _⟩ := h1
  unfold Ow at hw ⊢
  rw [← hl, ← hf]
  rcases hw with ⟨a, b⟩ | hw
  · exact .inl ⟨a, List.eq_nil_of_length_eq_zero (by rw [← hl, b]; rfl)⟩
  · exact .inr hw, h1.2⟩, h2, hd, hS⟩
theorem flat_set {α : Type} {T : Ty α} {A : List α} {x y : α} (hx : A[i]? = some x) (he : T.enc y = T.enc x) : T.flat (A.set i y) = T.flat A := by
  obtain ⟨hi, e⟩ := List.getElem?_eq_some_iff.1 hx
  have h1 : A.set i y = A.take i ++ ([y] ++ A.drop (i + 1)) := by rw [List.set_eq_take_append_cons_drop, if_pos hi]; rfl
  have h2 : A = A.take i ++ ([x] ++ A.drop (i + 1)) := by
    have : A.drop i = A[i] :: A.drop (i + 1) := List.drop_eq_getElem_cons hi
    rw [← e]; show A = A.take i ++ (A[i] :: A.drop (i + 1)); rw [← this, List.take_append_drop]
  have hs : T.flat [y] = T.flat [x] := by show T.enc y ++ T.flat [] = T.enc x ++ T.flat []; rw [he]
  rw [h1]
  conv => rhs; rw [h2]
  simp only [Ty.flat_append, hs]
theorem own_set {α : Type} {T : Ty α} {v : Value} {A : List α} {x y : α} (hx : A[i]? = some x) (he : T.enc y = T.enc x) (h : Holds Z (own T v A :: F) H) : Holds Z (own T v (A.set i y) :: F) H := own_flat (by simp) (flat_set hx he).symm h
theorem rx_set {x : Rx} (hL : L.map Rx.o = st.objs) (ho : st.get id = some o) (hx : x.o = some o') : (L.set (id - 1).toNat x).map Rx.o = (st.put id o').objs := by
  obtain ⟨_, h1, h2, _⟩ := get_mem ho
  unfold Hst.put
  rw [List.map_set, hL, hx, show id.toNat - 1 = (id - 1).toNat by omega]
theorem rx_snoc {x : Rx} (hL : L.map Rx.o = st.objs) (hx : x.o = some o') (tch : List Bool) : (L ++ [x]).map Rx.o = (⟨st.objs ++ [some o'], tch⟩ : Hst).objs := by rw [List.map_append, hL]; simp [hx]
theorem rall_same {x : Rx} (hy : L[i]? = some x) (h : Holds Z (rallP (L.set i x) :: F) H) : Holds Z (rallP L :: F) H := by
  rw [set_same hy] at h; exact h
theorem rall_add {x : Rx} (h : Holds Z (roP x :: rallP L :: F) H) : Holds Z (rallP (L ++ [x]) :: F) H := by
  unfold rallP
  rw [List.map_append]
  exact Holds.star_add h
/-- A value denotes an object. -/
def denB (st : Hst) (v : Vl) : Bool := (hfind st v).isSome
theorem den_zero (hi : HInv st) {v : Vl} (h : v.kind = 0) : denB st v = false := by
  unfold denB
  cases hf : hfind st v with
  | none => rfl
  | some o =>
    obtain ⟨h1, h2⟩ := hfind_some hf
    have := (hi.obs o (get_mem h1).1).kind
    rw [h2, h] at this; cases this
theorem den_none {v : Vl} (h : st.get v.ref = none) : denB st v = false := by unfold denB; rw [hfind_none h]; rfl
theorem get_low {id : Int} (h : ¬ 1 ≤ id) : st.get id = none := by unfold Hst.get; rw [if_neg h]
theorem get_high {id : Int} (h : (st.objs.length : Int) < id) : st.get id = none := by unfold Hst.get; rw [if_pos (by omega), List.getElem?_eq_none (by omega)]; rfl
theorem den_kind {v : Vl} (h : st.get v.ref = some o) (hk : o.kind ≠ v.kind) : denB st v = false := by unfold denB; rw [hfind_kind h hk]; rfl
theorem den_yes (hi : HInv st) {v : Vl} (h : st.get v.ref = some o) (hk : o.kind = v.kind) : isRef v.kind = denB st v := by
  unfold denB; rw [hfind_is h hk, ← hk]; exact (hi.obs o (get_mem h).1).kind
theorem is_cases (st : Hst) (v : Vl) (k : Int) : ((denB st v && decide (v.kind = k)) = false ∧ (hfind st v = none ∨ v.kind ≠ k)) ∨ ∃ o, (denB st v && decide (v.kind = k)) = true ∧ hfind st v = some o ∧ st.get v.ref = some o ∧ o.kind = v.kind ∧ v.kind = k := by
  unfold denB
  cases hf : hfind st v with
  | none => exact .inl ⟨rfl, .inl rfl⟩
  | some o =>
    obtain ⟨h1, h2⟩ := hfind_some hf
    by_cases hk : v.kind = k
    · exact .inr ⟨o, by simp [hk], rfl, h1, h2, hk⟩
    · exact .inl ⟨by simp [hk], .inr hk⟩
theorem tabE_cases (st : Hst) (v : Vl) : (htab st v = none ∧ hgetE st v = 8) ∨ ∃ o, htab st v = some o.tab ∧ st.get v.ref = some o ∧ o.kind = 4 ∧ v.kind = 4 ∧ hgetE st v = 0 := by
  cases ht : htab st v with
  | none => exact .inl ⟨rfl, hgetE_none ht⟩
  | some T =>
    obtain ⟨o, _, h1, h2, h3, h4⟩ := htab_some ht
    exact .inr ⟨o, by rw [h4], h1, h2, h3, hgetE_some ht⟩
theorem tab_of_is {v : Vl} (h : (denB st v && decide (v.kind = 4)) = false) : hgetE st v = 8 := by
  refine hgetE_none ?_
  cases hf : hfind st v with
  | none => exact htab_none hf
  | some o =>
    unfold denB at h
    rw [hf] at h
    simp at h
    exact htab_not hf (by rw [(hfind_some hf).2]; exact h)
theorem tab_of_is2 {v : Vl} (h : hfind st v = some o) (hk : o.kind = v.kind) (h4 : v.kind = 4) : hgetE st v = 0 := hgetE_some (htab_is h (by omega))
end
theorem rref_s {Z : Zone} (v : Vl) : SF Tryz.prog 131 #[v.v] Z [] fun r Bs => r = .bool (isRef v.kind) ∧ Bs = [] := by
 refine sf_enter Tryz.func131 21 [(0, .agg #[.int .i64 v.kind, .int .i64 v.p, .int .i64 v.q, .string v.str, .int .i64 v.ref])] (fun w0 => ?_)
 refine k_sr ?_
 refine s_box #[.int .i64 v.kind, .int .i64 v.p, .int .i64 v.q, .string v.str, .int .i64 v.ref] (fun g1 => ?_)
 refine sp (.bool false) ?_
 refine s_nr ?_
 refine sp (pB g1 0) ?_
 refine s_lt (t_load 0 (.int .i64 v.kind)) ?_
 refine s_lt t_cmp ?_
 refine sp (.bool (decide (v.kind = 4))) ?_
 refine s_fork 6 (decide (v.kind = 4)) (fun c2 => ?_) (fun c2 => ?_)
 ·
  have p3 := of_decide_eq_true c2
  refine s_skip ?_
  refine s_skip ?_
  refine s_skip ?_
  refine sp (.bool true) ?_
  refine sp (.bool true) ?_
  refine s_skip ?_
  refine s_skip ?_
  refine s_skip ?_
  refine sp (.bool true) ?_
  refine sp (.bool true) ?_
  refine s_skip ?_
  refine s_skip ?_
  refine s_skip ?_
  refine sp (.bool true) ?_
  refine sp (.bool true) ?_
  refine s_nt ?_
  refine k_ret ?_
  refine xs_fin [.bool true] [] (SI.tmp 2 SI.nil) (fun _ h => h.re [] [0]) ⟨congrArg Value.bool ?_, rfl⟩
  unfold isRef; simp [c2, p3]
 ·
  have p4 := of_decide_eq_false c2
  refine sp (pB g1 0) ?_
  refine s_lt (t_load 0 (.int .i64 v.kind)) ?_
  refine s_lt t_cmp ?_
  refine sp (.bool (decide (v.kind = 5))) ?_
  refine sp (.bool (decide (v.kind = 5))) ?_
  refine s_fork 11 (decide (v.kind = 5)) (fun c5 => ?_) (fun c5 => ?_)
  ·
   have p6 := of_decide_eq_true c5
   refine s_skip ?_
   refine s_skip ?_
   refine s_skip ?_
   refine sp (.bool true) ?_
   refine sp (.bool true) ?_
   refine s_skip ?_
   refine s_skip ?_
   refine s_skip ?_
   refine sp (.bool true) ?_
   refine sp (.bool true) ?_
   refine s_nt ?_
   refine k_ret ?_
   refine xs_fin [.bool true] [] (SI.tmp 2 SI.nil) (fun _ h => h.re [] [0]) ⟨congrArg Value.bool ?_, rfl⟩
   unfold isRef; simp [c2, c5, p4, p6]
  ·
   have p7 := of_decide_eq_false c5
   refine sp (pB g1 0) ?_
   refine s_lt (t_load 0 (.int .i64 v.kind)) ?_
   refine s_lt t_cmp ?_
   refine sp (.bool (decide (v.kind = 7))) ?_
   refine sp (.bool (decide (v.kind = 7))) ?_
   refine s_fork 16 (decide (v.kind = 7)) (fun c8 => ?_) (fun c8 => ?_)
   ·
    have p9 := of_decide_eq_true c8
    refine s_skip ?_
    refine s_skip ?_
    refine s_skip ?_
    refine sp (.bool true) ?_
    refine sp (.bool true) ?_
    refine s_nt ?_
    refine k_ret ?_
    refine xs_fin [.bool true] [] (SI.tmp 2 SI.nil) (fun _ h => h.re [] [0]) ⟨congrArg Value.bool ?_, rfl⟩
    unfold isRef; simp [c2, c5, c8, p4, p7, p9]
   ·
    have p10 := of_decide_eq_false c8
    refine sp (pB g1 0) ?_
    refine s_lt (t_load 0 (.int .i64 v.kind)) ?_
    refine s_lt t_cmp ?_
    refine sp (.bool (decide (v.kind = 8))) ?_
    refine sp (.bool (decide (v.kind = 8))) ?_
    refine s_nt ?_
    refine k_ret ?_
    refine xs_fin [.bool (decide (v.kind = 8))] [] (SI.tmp 2 SI.nil) (fun _ h => h.re [] [0]) ⟨congrArg Value.bool ?_, rfl⟩
    unfold isRef; simp [c2, c5, c8, p4, p7, p10]
theorem rden_s {Z : Zone} {F : List Asr} {b : Nat} {st : Hst} (hl : st.objs.length ≤ 1000000) (v : Vl) : SF Tryz.prog 113 #[.pointer (some ⟨b, 0, none⟩), v.v] Z (rhA b st :: F) fun r Bs => r = .bool (denB st v) ∧ Bs = rhA b st :: F := by
 refine sf_enter Tryz.func113 46 [(0, pB b 0), (1, .agg #[.int .i64 v.kind, .int .i64 v.p, .int .i64 v.q, .string v.str, .int .i64 v.ref])] (fun w0 => ?_)
 refine k_fact (fun H h => rh_inv (h.re [0] [])) (fun hi0 => ?_)
 refine k_sr ?_
 refine s_box #[.int .i64 v.kind, .int .i64 v.p, .int .i64 v.q, .string v.str, .int .i64 v.ref] (fun g1 => ?_)
 refine sp (.bool false) ?_
 refine s_nt ?_
 refine k_seq ?_
 refine k_draw ?_
 refine sp (pB b 0) ?_
 refine sp (.bool true) ?_
 refine sp (.bool true) ?_
 refine sp (pB g1 0) ?_
 refine s_lt (t_load 0 (.int .i64 v.kind)) ?_
 refine s_lt t_cmp ?_
 refine sp (.bool (decide (v.kind ≠ 0))) ?_
 refine sp (.bool (decide (v.kind ≠ 0))) ?_
 refine s_fork 12 (decide (v.kind ≠ 0)) (fun c2 => ?_) (fun c2 => ?_)
 ·
  have p3 := of_decide_eq_true c2
  refine sp (pB g1 4) ?_
  refine s_lt (t_load 0 (.int .i64 v.ref)) ?_
  refine s_lt t_cmp ?_
  refine sp (.bool (decide ((1 : Int) ≤ v.ref))) ?_
  refine sp (.bool (decide ((1 : Int) ≤ v.ref))) ?_
  refine s_fork 17 (decide ((1 : Int) ≤ v.ref)) (fun c4 => ?_) (fun c4 => ?_)
  ·
   have p5 := of_decide_eq_true c4
   refine sp (pB g1 4) ?_
   refine s_lt (t_load 0 (.int .i64 v.ref)) ?_
   refine sp (pB b 0) ?_
   refine sp (pB b 0) ?_
   refine sp (pB b 0) ?_
   refine s_mem3 (fun H h => rh_open (h.re [1] [])) (fun v6 tv7 L8 hw => ?_)
   obtain ⟨hi9, hL10⟩ := hw
   have hln11 := rx_len hL10
   have htl12 := hi9.tch
   refine s_lt (t_load 0 v6) ?_
   refine s_fact (fun H h => ((Acc.own (T := RxT) (L := L8) 1 rfl) H h).form) (fun hf13 => ?_)
   refine s_lt (t_len RxT_ok Tryz.underlying102 (.own 1)) ?_
   refine s_lt t_cmp ?_
   refine sp (.bool (decide (v.ref ≤ (L8.length : Int)))) ?_
   refine sp (.bool (decide (v.ref ≤ (L8.length : Int)))) ?_
   refine s_fork 27 (decide (v.ref ≤ (L8.length : Int))) (fun c14 => ?_) (fun c14 => ?_)
   ·
    have p15 := of_decide_eq_true c14
    refine sp (pB b 0) ?_
    refine sp (pB b 0) ?_
    refine sp (pB b 0) ?_
    refine s_lt (t_load 0 v6) ?_
    refine sp (pB g1 4) ?_
    refine s_lt (t_load 4 (.int .i64 v.ref)) ?_
    refine s_lt (t_sub v.ref 1 (by (try simp only [lnm]); omega)) ?_
    refine s_lt (t_index RxT_ok Tryz.underlying102 (.own 1) (v.ref - 1) (((v.ref - 1)).toNat) (by omega) (by (try simp only [lnm]); omega) (by omega)) ?_
    refine sp (.pointer (some (elemAt RxT.size v6 (((v.ref - 1)).toNat)))) ?_
    rcases rx_cases hL10 (by omega : 1 ≤ v.ref) (by omega) with ⟨tp16, uv17, rv18, hy19, hg20⟩ | ⟨o21, tp22, uv23, rv24, hy25, hg26⟩
    ·
     refine s_lt (t_loadF 0 RxT_ok (.own 1) hy19) ?_
     refine sp (pB g1 0) ?_
     refine s_lt (t_load 4 (.int .i64 v.kind)) ?_
     refine s_lt t_cmp ?_
     refine sp (.bool (decide ((0 : Int) = v.kind))) ?_
     refine sp (.bool (decide ((0 : Int) = v.kind))) ?_
     refine s_fork 42 (decide ((0 : Int) = v.kind)) (fun c27 => ?_) (fun c27 => ?_)
     ·
      have p28 := of_decide_eq_true c27
      refine s_lt (t_loadA 4 #[.int .i64 v.kind, .int .i64 v.p, .int .i64 v.q, .string v.str, .int .i64 v.ref]) ?_
      refine s_vcall (fun _ h => rref_s v) ?_
      rintro _ rfl
      refine sp (.bool (isRef v.kind)) ?_
      refine sp (.bool (isRef v.kind)) ?_
      refine s_nil ?_
      refine x_dynS (fun _ h => by obtain ⟨_, _, e⟩ := hf13; subst e; kernel_rfl) ?_
      refine xs_then ?_
      refine k_ret ?_
      refine xs_mem (fun _ h => rh_shut (st := st) (n := (st.count : Int)) (T := st.tch) ⟨⟨⟨hi9, hL10⟩, rfl⟩, rfl⟩ (h.re [0, 0, 0, 0] [])) ?_
      refine xs_fin [.bool (isRef v.kind)] (rhA b st :: F) (SI.tmp 4 SI.nil) (fun _ h => h.re [0] [1]) ⟨congrArg Value.bool ?_, rfl⟩
      exfalso; omega
     ·
      have p29 := of_decide_eq_false c27
      refine s_skip ?_
      refine s_skip ?_
      refine sp (.bool false) ?_
      refine sp (.bool false) ?_
      refine s_nil ?_
      refine x_dynS (fun _ h => by obtain ⟨_, _, e⟩ := hf13; subst e; kernel_rfl) ?_
      refine xs_then ?_
      refine k_ret ?_
      refine xs_mem (fun _ h => rh_shut (st := st) (n := (st.count : Int)) (T := st.tch) ⟨⟨⟨hi9, hL10⟩, rfl⟩, rfl⟩ (h.re [0, 0, 0, 0] [])) ?_
      refine xs_fin [.bool false] (rhA b st :: F) (SI.tmp 4 SI.nil) (fun _ h => h.re [0] [1]) ⟨congrArg Value.bool ?_, rfl⟩
      exact (den_none hg20).symm
    ·
     refine s_lt (t_loadF 0 RxT_ok (.own 1) hy25) ?_
     refine sp (pB g1 0) ?_
     refine s_lt (t_load 4 (.int .i64 v.kind)) ?_
     refine s_lt t_cmp ?_
     refine sp (.bool (decide (o21.kind = v.kind))) ?_
     refine sp (.bool (decide (o21.kind = v.kind))) ?_
     refine s_fork 42 (decide (o21.kind = v.kind)) (fun c30 => ?_) (fun c30 => ?_)
     ·
      have p31 := of_decide_eq_true c30
      refine s_lt (t_loadA 4 #[.int .i64 v.kind, .int .i64 v.p, .int .i64 v.q, .string v.str, .int .i64 v.ref]) ?_
      refine s_vcall (fun _ h => rref_s v) ?_
      rintro _ rfl
      refine sp (.bool (isRef v.kind)) ?_
      refine sp (.bool (isRef v.kind)) ?_
      refine s_nil ?_
      refine x_dynS (fun _ h => by obtain ⟨_, _, e⟩ := hf13; subst e; kernel_rfl) ?_
      refine xs_then ?_
      refine k_ret ?_
      refine xs_mem (fun _ h => rh_shut (st := st) (n := (st.count : Int)) (T := st.tch) ⟨⟨⟨hi9, hL10⟩, rfl⟩, rfl⟩ (h.re [0, 0, 0, 0] [])) ?_
      refine xs_fin [.bool (isRef v.kind)] (rhA b st :: F) (SI.tmp 4 SI.nil) (fun _ h => h.re [0] [1]) ⟨congrArg Value.bool ?_, rfl⟩
      exact den_yes hi0 hg26 (by omega)
     ·
      have p32 := of_decide_eq_false c30
      refine s_skip ?_
      refine s_skip ?_
      refine sp (.bool false) ?_
      refine sp (.bool false) ?_
      refine s_nil ?_
      refine x_dynS (fun _ h => by obtain ⟨_, _, e⟩ := hf13; subst e; kernel_rfl) ?_
      refine xs_then ?_
      refine k_ret ?_
      refine xs_mem (fun _ h => rh_shut (st := st) (n := (st.count : Int)) (T := st.tch) ⟨⟨⟨hi9, hL10⟩, rfl⟩, rfl⟩ (h.re [0, 0, 0, 0] [])) ?_
      refine xs_fin [.bool false] (rhA b st :: F) (SI.tmp 4 SI.nil) (fun _ h => h.re [0] [1]) ⟨congrArg Value.bool ?_, rfl⟩
      exact (den_kind hg26 (by omega)).symm
   ·
    have p33 := of_decide_eq_false c14
    refine s_skip ?_
    refine s_skip ?_
    refine s_skip ?_
    refine s_skip ?_
    refine s_skip ?_
    refine s_skip ?_
    refine s_skip ?_
    refine s_skip ?_
    refine s_skip ?_
    refine s_skip ?_
    refine s_skip ?_
    refine s_skip ?_
    refine s_skip ?_
    refine sp (.bool false) ?_
    refine sp (.bool false) ?_
    refine s_skip ?_
    refine s_skip ?_
    refine sp (.bool false) ?_
    refine sp (.bool false) ?_
    refine s_nil ?_
    refine x_dynS (fun _ h => by obtain ⟨_, _, e⟩ := hf13; subst e; kernel_rfl) ?_
    refine xs_then ?_
    refine k_ret ?_
    refine xs_mem (fun _ h => rh_shut (st := st) (n := (st.count : Int)) (T := st.tch) ⟨⟨⟨hi9, hL10⟩, rfl⟩, rfl⟩ (h.re [0, 0, 0, 0] [])) ?_
    refine xs_fin [.bool false] (rhA b st :: F) (SI.tmp 4 SI.nil) (fun _ h => h.re [0] [1]) ⟨congrArg Value.bool ?_, rfl⟩
    first | exact (den_zero hi0 (by omega)).symm | exact (den_none (get_low (by omega))).symm | exact (den_none (get_high (by omega))).symm
  ·
   have p34 := of_decide_eq_false c4
   refine s_skip ?_
   refine s_skip ?_
   refine s_skip ?_
   refine s_skip ?_
   refine s_skip ?_
   refine s_skip ?_
   refine s_skip ?_
   refine s_skip ?_
   refine sp (.bool false) ?_
   refine sp (.bool false) ?_
   refine s_skip ?_
   refine s_skip ?_
   refine s_skip ?_
   refine s_skip ?_
   refine s_skip ?_
   refine s_skip ?_
   refine s_skip ?_
   refine s_skip ?_
   refine s_skip ?_
   refine s_skip ?_
   refine s_skip ?_
   refine s_skip ?_
   refine s_skip ?_
   refine sp (.bool false) ?_
   refine sp (.bool false) ?_
   refine s_skip ?_
   refine s_skip ?_
   refine sp (.bool false) ?_
   refine sp (.bool false) ?_
   refine s_nil ?_
   refine x_dynS (fun _ h => by kernel_rfl) ?_
   refine xs_then ?_
   refine k_ret ?_
   refine xs_fin [.bool false] (rhA b st :: F) (SI.tmp 4 SI.nil) (fun _ h => h.re [1] [1]) ⟨congrArg Value.bool ?_, rfl⟩
   first | exact (den_zero hi0 (by omega)).symm | exact (den_none (get_low (by omega))).symm | exact (den_none (get_high (by omega))).symm
 ·
  have p35 := Decidable.not_not.1 (of_decide_eq_false c2)
  refine s_skip ?_
  refine s_skip ?_
  refine s_skip ?_
  refine sp (.bool false) ?_
  refine sp (.bool false) ?_
  refine s_skip ?_
  refine s_skip ?_
  refine s_skip ?_
  refine s_skip ?_
  refine s_skip ?_
  refine s_skip ?_
  refine s_skip ?_
  refine s_skip ?_
  refine sp (.bool false) ?_
  refine sp (.bool false) ?_
  refine s_skip ?_
  refine s_skip ?_
  refine s_skip ?_
  refine s_skip ?_
  refine s_skip ?_
  refine s_skip ?_
  refine s_skip ?_
  refine s_skip ?_
  refine s_skip ?_
  refine s_skip ?_
  refine s_skip ?_
  refine s_skip ?_
  refine s_skip ?_
  refine sp (.bool false) ?_
  refine sp (.bool false) ?_
  refine s_skip ?_
  refine s_skip ?_
  refine sp (.bool false) ?_
  refine sp (.bool false) ?_
  refine s_nil ?_
  refine x_dynS (fun _ h => by kernel_rfl) ?_
  refine xs_then ?_
  refine k_ret ?_
  refine xs_fin [.bool false] (rhA b st :: F) (SI.tmp 4 SI.nil) (fun _ h => h.re [1] [1]) ⟨congrArg Value.bool ?_, rfl⟩
  first | exact (den_zero hi0 (by omega)).symm | exact (den_none (get_low (by omega))).symm | exact (den_none (get_high (by omega))).symm
theorem ris_s {Z : Zone} {F : List Asr} {b : Nat} {st : Hst} (hl : st.objs.length ≤ 1000000) (v : Vl) (k : Int) : SF Tryz.prog 86 #[.pointer (some ⟨b, 0, none⟩), v.v, .int .i64 k] Z (rhA b st :: F) fun r Bs => r = .bool (denB st v && decide (v.kind = k)) ∧ Bs = rhA b st :: F := by
 refine sf_enter Tryz.func86 16 [(0, pB b 0), (1, .agg #[.int .i64 v.kind, .int .i64 v.p, .int .i64 v.q, .string v.str, .int .i64 v.ref]), (2, .int .i64 k)] (fun w0 => ?_)
 refine k_sr ?_
 refine s_box #[.int .i64 v.kind, .int .i64 v.p, .int .i64 v.q, .string v.str, .int .i64 v.ref] (fun g1 => ?_)
 refine sp (.bool false) ?_
 refine s_nt ?_
 refine k_cut (ι := Unit) (fun _ => True) (fun _ => [(6, .bool ((denB st v) && (decide (v.kind = k))))]) (fun _ => blkA g1 #[.int .i64 v.kind, .int .i64 v.p, .int .i64 v.q, .string v.str, .int .i64 v.ref] 26 :: rhA b st :: F) ?_ (fun _ _ => ?_)
 ·
  refine k_reg ?_
  refine sp (pB b 0) ?_
  refine s_lt (t_loadA 0 #[.int .i64 v.kind, .int .i64 v.p, .int .i64 v.q, .string v.str, .int .i64 v.ref]) ?_
  refine s_call [1] (rden_s (st := st) (by omega) v) ?_
  rintro _ _ ⟨rfl, rfl⟩
  refine sp (.bool (denB st v)) ?_
  refine s_fork 10 (denB st v) (fun c2 => ?_) (fun c2 => ?_)
  ·
   refine sp (pB g1 0) ?_
   refine s_lt (t_load 1 (.int .i64 v.kind)) ?_
   refine sp (.int .i64 k) ?_
   refine s_lt t_cmp ?_
   refine sp (.bool (decide (v.kind = k))) ?_
   refine sp (.bool (decide (v.kind = k))) ?_
   refine s_nil ?_
   exact xs_cut () trivial (sub_of rfl ⟨⟨rfl, show Value.bool (decide (v.kind = k)) = Value.bool ((denB st v) && (decide (v.kind = k))) by first | (simp only [c2, bls]; done) | simp [c2]⟩, trivial⟩) (fun _ h => h.re [1, 0] [])
  ·
   refine s_skip ?_
   refine s_skip ?_
   refine s_skip ?_
   refine s_skip ?_
   refine sp (.bool false) ?_
   refine sp (.bool false) ?_
   refine s_nil ?_
   exact xs_cut () trivial (sub_of rfl ⟨⟨rfl, show Value.bool false = Value.bool ((denB st v) && (decide (v.kind = k))) by first | (simp only [c2, bls]; done) | simp [c2]⟩, trivial⟩) (fun _ h => h.re [1, 0] [])
 ·
  refine k_ret ?_
  exact xs_fin [.bool ((denB st v) && (decide (v.kind = k)))] (rhA b st :: F) (SI.tmp 6 SI.nil) (fun _ h => h.re [1] [1]) ⟨rfl, rfl⟩
theorem rtab_s {Z : Zone} {F : List Asr} {b : Nat} {st : Hst} (hl : st.objs.length ≤ 1000000) (v : Vl) : SF Tryz.prog 81 #[.pointer (some ⟨b, 0, none⟩), v.v] Z (rhA b st :: F) fun r Bs => r = .int .i64 (hgetE st v) ∧ Bs = rhA b st :: F := by
 refine sf_enter Tryz.func81 11 [(0, pB b 0), (1, .agg #[.int .i64 v.kind, .int .i64 v.p, .int .i64 v.q, .string v.str, .int .i64 v.ref])] (fun w0 => ?_)
 refine k_sr ?_
 refine s_box #[.int .i64 v.kind, .int .i64 v.p, .int .i64 v.q, .string v.str, .int .i64 v.ref] (fun g1 => ?_)
 refine sp (.int .i64 0) ?_
 refine s_nt ?_
 refine k_seq ?_
 refine k_sr ?_
 refine sp (pB b 0) ?_
 refine sp (.bool false) ?_
 refine s_nt ?_
 refine k_false ?_
 refine k_st ?_
 refine k_seq ?_
 refine k_sr ?_
 refine sp (pB b 0) ?_
 refine s_lt (t_loadA 0 #[.int .i64 v.kind, .int .i64 v.p, .int .i64 v.q, .string v.str, .int .i64 v.ref]) ?_
 refine s_call [1] (ris_s (st := st) (by omega) v 4) ?_
 rintro u2 _ ⟨e3, rfl⟩
 rcases is_cases st v 4 with ⟨hb4, hn5⟩ | ⟨o6, hb7, hf8, ho9, hk10, hv11⟩
 ·
  rw [hb4] at e3; subst e3
  refine sp (.bool true) ?_
  refine s_nt ?_
  refine k_true ?_
  refine k_sr ?_
  refine sp (.int .i64 8) ?_
  refine s_nt ?_
  refine k_ret ?_
  refine xs_ret ?_
  refine xs_fin [.int .i64 8] (rhA b st :: F) (SI.tmp 4 SI.nil) (fun _ h => h.re [0] [1]) ⟨congrArg (Value.int .i64) ?_, rfl⟩
  exact (tab_of_is hb4).symm
 ·
  rw [hb7] at e3; subst e3
  have hgm12 := get_mem ho9
  refine sp (.bool false) ?_
  refine s_nt ?_
  refine k_false ?_
  refine k_st ?_
  refine k_sr ?_
  refine sp (.int .i64 0) ?_
  refine s_nt ?_
  refine k_ret ?_
  refine xs_fin [.int .i64 0] (rhA b st :: F) (SI.tmp 4 SI.nil) (fun _ h => h.re [0] [1]) ⟨congrArg (Value.int .i64) ?_, rfl⟩
  exact (tab_of_is2 hf8 hk10 hv11).symm
theorem rhget_s {Z : Zone} {F : List Asr} {b : Nat} {st : Hst} {n : Nat} (hsm : HSm n st) (hn : n ≤ 300) (t k : Vl) : SF Tryz.prog 61 #[.pointer (some ⟨b, 0, none⟩), t.v, k.v] Z (rhA b st :: F) fun r Bs => r = pairV (hgetV st t k) (hgetE st t) ∧ Bs = rhA b st :: F := by
 refine sf_enter Tryz.func61 28 [(0, pB b 0), (1, .agg #[.int .i64 t.kind, .int .i64 t.p, .int .i64 t.q, .string t.str, .int .i64 t.ref]), (2, .agg #[.int .i64 k.kind, .int .i64 k.p, .int .i64 k.q, .string k.str, .int .i64 k.ref])] (fun w0 => ?_)
 have hlen0 := hsm.len
 refine k_fact (fun H h => rh_inv (h.re [0] [])) (fun hi0 => ?_)
 refine k_sr ?_
 refine s_box #[.int .i64 t.kind, .int .i64 t.p, .int .i64 t.q, .string t.str, .int .i64 t.ref] (fun g1 => ?_)
 refine s_box #[.int .i64 k.kind, .int .i64 k.p, .int .i64 k.q, .string k.str, .int .i64 k.ref] (fun g2 => ?_)
 refine s_alloc (.agg #[.int .i64 0, .int .i64 0, .int .i64 0, .string ByteArray.empty, .int .i64 0]) #[.int .i64 0, .int .i64 0, .int .i64 0, .string ByteArray.empty, .int .i64 0] (fun g3 => ?_)
 refine sp (.int .i64 0) ?_
 refine s_nr ?_
 refine sp (pB b 0) ?_
 refine s_lt (t_loadA 2 #[.int .i64 t.kind, .int .i64 t.p, .int .i64 t.q, .string t.str, .int .i64 t.ref]) ?_
 refine s_call [3] (rtab_s (st := st) (by omega) t) ?_
 rintro u4 _ ⟨e5, rfl⟩
 rcases tabE_cases st t with ⟨ht6, he7⟩ | ⟨o8, ht9, ho10, hk11, hv12, he13⟩
 ·
  rw [he7] at e5; subst e5
  refine sp (.int .i64 8) ?_
  refine s_nt ?_
  refine k_seq ?_
  refine k_sr ?_
  refine sp (.int .i64 8) ?_
  refine s_lt (t_cmp (c := true)) ?_
  refine s_nt ?_
  refine k_true ?_
  refine k_sr ?_
  refine s_lt (t_kern (.agg #[.int .i64 0, .int .i64 0, .int .i64 0, .string ByteArray.empty, .int .i64 0])) ?_
  refine sp (.int .i64 8) ?_
  refine s_store 1 #[.int .i64 0, .int .i64 0, .int .i64 0, .string ByteArray.empty, .int .i64 0] ?_
  refine sp (.int .i64 8) ?_
  refine s_nt ?_
  refine k_ret ?_
  refine xs_ret ?_
  refine xs_fin [.agg #[.int .i64 0, .int .i64 0, .int .i64 0, .string ByteArray.empty, .int .i64 0], .int .i64 8] (rhA b st :: F) (SI.agg 6 26 1 (SI.tmp 7 SI.nil)) (fun _ h => h.re [0] [1, 1, 1]) ⟨?_, rfl⟩
  rw [hgetV_none ht6, hgetE_none ht6]; rfl
 ·
  rw [he13] at e5; subst e5
  have hgm14 := get_mem ho10
  refine sp (.int .i64 0) ?_
  refine s_nt ?_
  refine k_seq ?_
  refine k_sr ?_
  refine sp (.int .i64 0) ?_
  refine s_lt (t_cmp (c := false)) ?_
  refine s_nt ?_
  refine k_false ?_
  refine k_st ?_
  refine k_seq ?_
  refine k_draw ?_
  refine sp (pB b 0) ?_
  refine sp (pB b 0) ?_
  refine sp (pB b 0) ?_
  refine s_mem3 (fun H h => rh_open (h.re [0] [])) (fun v15 tv16 L17 hw => ?_)
  obtain ⟨hi18, hL19⟩ := hw
  have hln20 := rx_len hL19
  have htl21 := hi18.tch
  refine s_lt (t_load 0 v15) ?_
  refine sp (pB g1 4) ?_
  refine s_lt (t_load 6 (.int .i64 t.ref)) ?_
  refine s_lt (t_sub t.ref 1 (by (try simp only [lnm]); omega)) ?_
  refine s_lt (t_index RxT_ok Tryz.underlying102 (.own 1) (t.ref - 1) (((t.ref - 1)).toNat) (by omega) (by (try simp only [lnm]); omega) (by omega)) ?_
  refine sp (.pointer (some ((elemAt RxT.size v15 (((t.ref - 1)).toNat)).add 3))) ?_
  obtain ⟨tp22, uv23, rv24, hy25⟩ := rx_get hL19 ho10
  refine s_lt (Lt.to (v' := ptrV tp22) (t_loadF 3 RxT_ok (.own 1) hy25) (tabV_tab hk11)) ?_
  refine s_lt (t_loadA 5 #[.int .i64 k.kind, .int .i64 k.p, .int .i64 k.q, .string k.str, .int .i64 k.ref]) ?_
  refine s_mem (fun _ h => rall_out hy25 (h.re [3] [])) ?_
  refine s_mem (fun _ h => rtO_open hk11 (h.re [2] [])) ?_
  obtain ⟨hl26, hl262, _⟩ := hsm.obs o8 (get_mem ho10).1
  have hl263 : n * (n + 1) ≤ 300 * 301 := Nat.mul_le_mul (by omega) (by omega)
  refine s_call [0] (rtget_s (L := o8.tab.list) (S := o8.tab.rest) (by (try simp only [lnm]); omega) (by (try simp only [lnm]); omega) k) ?_
  rintro _ _ ⟨rfl, rfl⟩
  refine s_store 7 #[.int .i64 ((tget ⟨o8.tab.list, o8.tab.rest⟩ k).kind), .int .i64 ((tget ⟨o8.tab.list, o8.tab.rest⟩ k).p), .int .i64 ((tget ⟨o8.tab.list, o8.tab.rest⟩ k).q), .string ((tget ⟨o8.tab.list, o8.tab.rest⟩ k).str), .int .i64 ((tget ⟨o8.tab.list, o8.tab.rest⟩ k).ref)] ?_
  refine sp (.int .i64 0) ?_
  refine s_nil ?_
  refine x_dynS (fun _ h => by kernel_rfl) ?_
  refine xs_then ?_
  refine k_ret ?_
  refine xs_mem (fun _ h => rtO_shut (o := o8) (T := o8.tab) hk11 (h.re [0] [])) ?_
  refine xs_mem (fun _ h => rall_in (o' := { o8 with tab := o8.tab }) (uv' := uv23) (rv' := rv24) hy25 (h.re [1, 1, 0, 0] [])) ?_
  refine xs_mem (fun _ h => rall_same hy25 h) ?_
  refine xs_mem (fun _ h => rh_shut (st := st) (n := (st.count : Int)) (T := st.tch) ⟨⟨⟨hi18, hL19⟩, rfl⟩, rfl⟩ (h.re [1, 1, 1, 0] [])) ?_
  refine xs_fin [.agg #[.int .i64 ((tget ⟨o8.tab.list, o8.tab.rest⟩ k).kind), .int .i64 ((tget ⟨o8.tab.list, o8.tab.rest⟩ k).p), .int .i64 ((tget ⟨o8.tab.list, o8.tab.rest⟩ k).q), .string ((tget ⟨o8.tab.list, o8.tab.rest⟩ k).str), .int .i64 ((tget ⟨o8.tab.list, o8.tab.rest⟩ k).ref)], .int .i64 0] (rhA b st :: F) (SI.agg 6 26 1 (SI.tmp 7 SI.nil)) (fun _ h => h.re [0] [1, 1, 1]) ⟨?_, rfl⟩
  rw [hgetV_some ht9, hgetE_some ht9]; rfl
theorem relem_s {Z : Zone} (v : Vl) : SF Tryz.prog 83 #[v.v] Z [] fun r Bs => r = .int .i64 (elemE v) ∧ Bs = [] := by
 refine sf_enter Tryz.func83 15 [(0, .agg #[.int .i64 v.kind, .int .i64 v.p, .int .i64 v.q, .string v.str, .int .i64 v.ref])] (fun w0 => ?_)
 refine k_sr ?_
 refine s_box #[.int .i64 v.kind, .int .i64 v.p, .int .i64 v.q, .string v.str, .int .i64 v.ref] (fun g1 => ?_)
 refine sp (.int .i64 0) ?_
 refine s_nt ?_
 refine k_seq ?_
 refine k_sr ?_
 refine sp (pB g1 0) ?_
 refine s_lt (t_load 0 (.int .i64 v.kind)) ?_
 refine s_lt t_cmp ?_
 refine sp (.bool (decide (v.kind = 3))) ?_
 refine s_fork 6 (decide (v.kind = 3)) (fun c2 => ?_) (fun c2 => ?_)
 ·
  have p3 := of_decide_eq_true c2
  refine sp (pB g1 3) ?_
  refine s_lt (t_load 0 (.string v.str)) ?_
  refine s_lt (t_kern (.int .i64 (v.str.size : Int))) ?_
  refine s_lt t_cmp ?_
  refine sp (.bool (decide ((4096 : Int) < (v.str.size : Int)))) ?_
  refine s_nt ?_
  refine k_cond (decide ((4096 : Int) < (v.str.size : Int))) (fun c4 => ?_) (fun c4 => ?_)
  ·
   have p5 := of_decide_eq_true c4
   refine k_sr ?_
   refine sp (.int .i64 14) ?_
   refine s_nt ?_
   refine k_ret ?_
   refine xs_ret ?_
   refine xs_fin [.int .i64 14] [] (SI.tmp 2 SI.nil) (fun _ h => h.re [] [0]) ⟨congrArg (Value.int .i64) ?_, rfl⟩
   unfold elemE; simp [c2, c4, p3, p5]
  ·
   have p6 := of_decide_eq_false c4
   refine k_st ?_
   refine k_seq ?_
   refine k_sr ?_
   refine s_lt (t_loadA 0 #[.int .i64 v.kind, .int .i64 v.p, .int .i64 v.q, .string v.str, .int .i64 v.ref]) ?_
   refine s_vcall (fun _ h => rvalid_s v) ?_
   rintro _ rfl
   refine sp (.bool (!(validB v))) ?_
   refine s_nt ?_
   refine k_cond (!(validB v)) (fun c7 => ?_) (fun c7 => ?_)
   ·
    have c8 := not_t c7
    refine k_sr ?_
    refine sp (.int .i64 2) ?_
    refine s_nt ?_
    refine k_ret ?_
    refine xs_ret ?_
    refine xs_fin [.int .i64 2] [] (SI.tmp 2 SI.nil) (fun _ h => h.re [] [0]) ⟨congrArg (Value.int .i64) ?_, rfl⟩
    unfold elemE; simp [c2, c4, c7, p3, p6, c8]
   ·
    have c9 := not_f c7
    refine k_st ?_
    refine k_sr ?_
    refine sp (.int .i64 0) ?_
    refine s_nt ?_
    refine k_ret ?_
    refine xs_fin [.int .i64 0] [] (SI.tmp 2 SI.nil) (fun _ h => h.re [] [0]) ⟨congrArg (Value.int .i64) ?_, rfl⟩
    unfold elemE; simp [c2, c4, c7, p3, p6, c9]
 ·
  have p10 := of_decide_eq_false c2
  refine s_skip ?_
  refine s_skip ?_
  refine s_skip ?_
  refine s_skip ?_
  refine sp (.bool false) ?_
  refine s_nt ?_
  refine k_false ?_
  refine k_st ?_
  refine k_seq ?_
  refine k_sr ?_
  refine s_lt (t_loadA 0 #[.int .i64 v.kind, .int .i64 v.p, .int .i64 v.q, .string v.str, .int .i64 v.ref]) ?_
  refine s_vcall (fun _ h => rvalid_s v) ?_
  rintro _ rfl
  refine sp (.bool (!(validB v))) ?_
  refine s_nt ?_
  refine k_cond (!(validB v)) (fun c11 => ?_) (fun c11 => ?_)
  ·
   have c12 := not_t c11
   refine k_sr ?_
   refine sp (.int .i64 2) ?_
   refine s_nt ?_
   refine k_ret ?_
   refine xs_ret ?_
   refine xs_fin [.int .i64 2] [] (SI.tmp 2 SI.nil) (fun _ h => h.re [] [0]) ⟨congrArg (Value.int .i64) ?_, rfl⟩
   unfold elemE; simp [c2, c11, p10, c12]
  ·
   have c13 := not_f c11
   refine k_st ?_
   refine k_sr ?_
   refine sp (.int .i64 0) ?_
   refine s_nt ?_
   refine k_ret ?_
   refine xs_fin [.int .i64 0] [] (SI.tmp 2 SI.nil) (fun _ h => h.re [] [0]) ⟨congrArg (Value.int .i64) ?_, rfl⟩
   unfold elemE; simp [c2, c11, p10, c13]
theorem rtouch_s {Z : Zone} {F : List Asr} {b : Nat} {vv tv : Value} {m : Int} {T : List Bool} (v : Vl) (h1 : 1 ≤ v.ref) (h2 : v.ref ≤ (T.length : Int)) (hl : T.length ≤ 1000000) (e : Int) : SF Tryz.prog 84 #[.pointer (some ⟨b, 0, none⟩), v.v, .int .i64 e] Z (blkA b #[vv, .int .i64 m, tv] 105 :: own bTy tv T :: F) fun r Bs => r = .int .i64 e ∧ Bs = (if e = 0 then blkA b #[vv, .int .i64 m, tv] 105 :: own bTy tv (T.set ((v.ref - 1)).toNat true) :: F else blkA b #[vv, .int .i64 m, tv] 105 :: own bTy tv T :: F) := by
 refine sf_enter Tryz.func84 18 [(0, pB b 0), (1, .agg #[.int .i64 v.kind, .int .i64 v.p, .int .i64 v.q, .string v.str, .int .i64 v.ref]), (2, .int .i64 e)] (fun w0 => ?_)
 refine k_sr ?_
 refine s_box #[.int .i64 v.kind, .int .i64 v.p, .int .i64 v.q, .string v.str, .int .i64 v.ref] (fun g1 => ?_)
 refine sp (.int .i64 0) ?_
 refine s_nt ?_
 refine k_seq ?_
 refine k_sr ?_
 refine sp (.int .i64 e) ?_
 refine s_lt t_cmp ?_
 refine s_nt ?_
 refine k_cond (decide (e = 0)) (fun c2 => ?_) (fun c2 => ?_)
 ·
  have p3 := of_decide_eq_true c2
  refine k_draw ?_
  refine sp (pB b 0) ?_
  refine sp (pB b 0) ?_
  refine sp (pB b 2) ?_
  refine s_lt (t_load 1 tv) ?_
  refine sp (pB g1 4) ?_
  refine s_lt (t_load 0 (.int .i64 v.ref)) ?_
  refine s_lt (t_sub v.ref 1 (by (try simp only [lnm]); omega)) ?_
  refine s_lt (t_index bTy_ok Tryz.underlying103 (.own 2) (v.ref - 1) (((v.ref - 1)).toNat) (by omega) (by (try simp only [lnm]); omega) (by omega)) ?_
  obtain ⟨y4, hy5⟩ : ∃ y, T[((v.ref - 1)).toNat]? = some y := ⟨_, List.getElem?_eq_getElem (by (try simp only [lnm]); omega)⟩
  refine s_storeE 2 0 true bTy_ok hy5 ?_
  refine s_nil ?_
  refine x_dynS (fun _ h => by kernel_rfl) ?_
  refine xs_then ?_
  refine k_sr ?_
  refine sp (.int .i64 e) ?_
  refine sp (.int .i64 e) ?_
  refine s_nt ?_
  refine k_ret ?_
  rw [if_pos (of_decide_eq_true c2)]
  exact xs_fin [.int .i64 e] (blkA b #[vv, .int .i64 m, tv] 105 :: own bTy tv (T.set (((v.ref - 1)).toNat) true) :: F) (SI.tmp 6 SI.nil) (fun _ h => h.re [1, 1] [2]) ⟨rfl, rfl⟩
 ·
  have p6 := of_decide_eq_false c2
  refine k_st ?_
  refine k_sr ?_
  refine sp (.int .i64 e) ?_
  refine sp (.int .i64 e) ?_
  refine s_nt ?_
  refine k_ret ?_
  rw [if_neg (of_decide_eq_false c2)]
  exact xs_fin [.int .i64 e] (blkA b #[vv, .int .i64 m, tv] 105 :: own bTy tv T :: F) (SI.tmp 6 SI.nil) (fun _ h => h.re [1, 1] [2]) ⟨rfl, rfl⟩
theorem rhset_s {Z : Zone} {F : List Asr} {b : Nat} {st : Hst} {n : Nat} (hsm : HSm n st) (hn : n ≤ 300) (t k x : Vl) : SF Tryz.prog 31 #[.pointer (some ⟨b, 0, none⟩), t.v, k.v, x.v] Z (rhA b st :: F) fun r Bs => r = .int .i64 (hsetE st t k x) ∧ Bs = rhA b (hset st t k x) :: F := by
 refine sf_enter Tryz.func31 45 [(0, pB b 0), (1, .agg #[.int .i64 t.kind, .int .i64 t.p, .int .i64 t.q, .string t.str, .int .i64 t.ref]), (2, .agg #[.int .i64 k.kind, .int .i64 k.p, .int .i64 k.q, .string k.str, .int .i64 k.ref]), (3, .agg #[.int .i64 x.kind, .int .i64 x.p, .int .i64 x.q, .string x.str, .int .i64 x.ref])] (fun w0 => ?_)
 have hlen0 := hsm.len
 refine k_fact (fun H h => rh_inv (h.re [0] [])) (fun hi0 => ?_)
 refine k_sr ?_
 refine s_box #[.int .i64 t.kind, .int .i64 t.p, .int .i64 t.q, .string t.str, .int .i64 t.ref] (fun g1 => ?_)
 refine s_box #[.int .i64 k.kind, .int .i64 k.p, .int .i64 k.q, .string k.str, .int .i64 k.ref] (fun g2 => ?_)
 refine s_box #[.int .i64 x.kind, .int .i64 x.p, .int .i64 x.q, .string x.str, .int .i64 x.ref] (fun g3 => ?_)
 refine sp (.int .i64 0) ?_
 refine s_nr ?_
 refine sp (pB b 0) ?_
 refine s_lt (t_loadA 2 #[.int .i64 t.kind, .int .i64 t.p, .int .i64 t.q, .string t.str, .int .i64 t.ref]) ?_
 refine s_call [3] (rtab_s (st := st) (by omega) t) ?_
 rintro u4 _ ⟨e5, rfl⟩
 rcases tabE_cases st t with ⟨ht6, he7⟩ | ⟨o8, ht9, ho10, hk11, hv12, he13⟩
 ·
  rw [he7] at e5; subst e5
  refine sp (.int .i64 8) ?_
  refine s_nt ?_
  refine k_seq ?_
  refine k_sr ?_
  refine sp (.int .i64 8) ?_
  refine s_lt (t_cmp (c := true)) ?_
  refine s_nt ?_
  refine k_true ?_
  refine k_sr ?_
  refine sp (.int .i64 8) ?_
  refine sp (.int .i64 8) ?_
  refine s_nt ?_
  refine k_ret ?_
  refine xs_ret ?_
  have hp := hset_none (k := k) (v := x) ht6
  refine xs_fin [.int .i64 8] (rhA b st :: F) (SI.tmp 8 SI.nil) (fun _ h => h.re [0] [1, 1, 1]) ⟨?_, ?_⟩
  · rw [hp.2]; exact congrArg (Value.int .i64) (by first | rfl | exact tsetE_ok hk hv0)
  · rw [hp.1]
 ·
  rw [he13] at e5; subst e5
  have hgm14 := get_mem ho10
  refine sp (.int .i64 0) ?_
  refine s_nt ?_
  refine k_seq ?_
  refine k_sr ?_
  refine sp (.int .i64 0) ?_
  refine s_lt (t_cmp (c := false)) ?_
  refine s_nt ?_
  refine k_false ?_
  refine k_st ?_
  refine k_seq ?_
  refine k_cut (ι := Unit) (fun _ => True) (fun _ => [(0, pB b 0), (5, pB g1 0), (6, pB g2 0), (7, pB g3 0), (23, .bool ((decide (k.kind = 0)) || (!(validB k))))]) (fun _ => rhA b st :: blkA g3 #[.int .i64 x.kind, .int .i64 x.p, .int .i64 x.q, .string x.str, .int .i64 x.ref] 26 :: blkA g2 #[.int .i64 k.kind, .int .i64 k.p, .int .i64 k.q, .string k.str, .int .i64 k.ref] 26 :: blkA g1 #[.int .i64 t.kind, .int .i64 t.p, .int .i64 t.q, .string t.str, .int .i64 t.ref] 26 :: F) ?_ (fun _ _ => ?_)
  ·
   refine k_reg ?_
   refine sp (pB g2 0) ?_
   refine s_lt (t_load 2 (.int .i64 k.kind)) ?_
   refine s_lt t_cmp ?_
   refine sp (.bool (decide (k.kind = 0))) ?_
   refine s_fork 19 (decide (k.kind = 0)) (fun c15 => ?_) (fun c15 => ?_)
   ·
    have p16 := of_decide_eq_true c15
    refine s_skip ?_
    refine s_skip ?_
    refine s_skip ?_
    refine sp (.bool true) ?_
    refine s_nil ?_
    exact xs_cut () trivial (sub_of rfl ⟨⟨rfl, rfl⟩, ⟨⟨rfl, rfl⟩, ⟨⟨rfl, rfl⟩, ⟨⟨rfl, rfl⟩, ⟨⟨rfl, show Value.bool true = Value.bool ((decide (k.kind = 0)) || (!(validB k))) by first | (simp only [c15, bls]; done) | simp [c15]⟩, trivial⟩⟩⟩⟩⟩) (fun _ h => h.re [0, 0, 0, 0] [])
   ·
    have p17 := of_decide_eq_false c15
    refine s_lt (t_loadA 2 #[.int .i64 k.kind, .int .i64 k.p, .int .i64 k.q, .string k.str, .int .i64 k.ref]) ?_
    refine s_vcall (fun _ h => rvalid_s k) ?_
    rintro _ rfl
    refine sp (.bool (!(validB k))) ?_
    refine sp (.bool (!(validB k))) ?_
    refine s_nil ?_
    exact xs_cut () trivial (sub_of rfl ⟨⟨rfl, rfl⟩, ⟨⟨rfl, rfl⟩, ⟨⟨rfl, rfl⟩, ⟨⟨rfl, rfl⟩, ⟨⟨rfl, show Value.bool (!(validB k)) = Value.bool ((decide (k.kind = 0)) || (!(validB k))) by first | (simp only [c15, bls]; done) | simp [c15]⟩, trivial⟩⟩⟩⟩⟩) (fun _ h => h.re [0, 0, 0, 0] [])
  ·
   refine k_cond ((decide (k.kind = 0)) || (!(validB k))) (fun c18 => ?_) (fun c18 => ?_)
   ·
    have p19 := c18
    simp only [Bool.and_eq_true, Bool.or_eq_true, Bool.and_eq_false_iff, Bool.or_eq_false_iff, Bool.not_eq_true', Bool.not_eq_false', decide_eq_true_eq, decide_eq_false_iff_not] at p19
    refine k_sr ?_
    refine sp (.int .i64 13) ?_
    refine s_nt ?_
    refine k_ret ?_
    refine xs_ret ?_
    have hk : okKey k = false := okKey_bad (by first | exact p19 | exact .inl p19 | exact .inr p19)
    have hp := hset_key (v := x) ht9 hk
    refine xs_fin [.int .i64 13] (rhA b st :: F) (SI.tmp 8 SI.nil) (fun _ h => h.re [0] [1, 1, 1]) ⟨?_, ?_⟩
    · rw [hp.2]; exact congrArg (Value.int .i64) (by first | rfl | exact tsetE_ok hk hv0)
    · rw [hp.1]
   ·
    obtain ⟨c20, c21⟩ := or_f c18
    have p22 := of_decide_eq_false c20
    have c23 := not_f c21
    refine k_st ?_
    refine k_sr ?_
    refine s_lt (t_loadA 1 #[.int .i64 x.kind, .int .i64 x.p, .int .i64 x.q, .string x.str, .int .i64 x.ref]) ?_
    refine s_vcall (fun _ h => relem_s x) ?_
    rintro _ rfl
    refine sp (.int .i64 (elemE x)) ?_
    refine s_nt ?_
    refine k_seq ?_
    refine k_sr ?_
    refine sp (.int .i64 (elemE x)) ?_
    refine s_lt t_cmp ?_
    refine s_nt ?_
    refine k_cond (decide ((elemE x) ≠ 0)) (fun c24 => ?_) (fun c24 => ?_)
    ·
     have p25 := of_decide_eq_true c24
     refine k_sr ?_
     refine sp (.int .i64 (elemE x)) ?_
     refine sp (.int .i64 (elemE x)) ?_
     refine s_nt ?_
     refine k_ret ?_
     refine xs_ret ?_
     have hk := okKey_good c20 c23
     have hp := hset_elem (v := x) ht9 hk (of_decide_eq_true c24)
     refine xs_fin [.int .i64 (elemE x)] (rhA b st :: F) (SI.tmp 8 SI.nil) (fun _ h => h.re [0] [1, 1, 1]) ⟨?_, ?_⟩
     · rw [hp.2]; exact congrArg (Value.int .i64) (by first | rfl | exact tsetE_ok hk hv0)
     · rw [hp.1]
    ·
     have p26 := Decidable.not_not.1 (of_decide_eq_false c24)
     refine k_st ?_
     refine k_seq ?_
     refine k_mem3 (fun H h => rh_open (h.re [0] [])) (fun v27 tv28 L29 hw => ?_)
     obtain ⟨hi30, hL31⟩ := hw
     have hln32 := rx_len hL31
     have htl33 := hi30.tch
     refine k_held [blkA b #[v27, .int .i64 (st.count : Int), tv28] 105, own RxT v27 L29, blkA g3 #[.int .i64 x.kind, .int .i64 x.p, .int .i64 x.q, .string x.str, .int .i64 x.ref] 26, blkA g2 #[.int .i64 k.kind, .int .i64 k.p, .int .i64 k.q, .string k.str, .int .i64 k.ref] 26, blkA g1 #[.int .i64 t.kind, .int .i64 t.p, .int .i64 t.q, .string t.str, .int .i64 t.ref] 26] ?_
     refine hp_ 0 [0, 0, 2, 2, 2] (pB b 0) ?_
     refine h_l 1 rfl [0, 0, 2, 2, 2] (fun _ => (t_loadA 4 #[.int .i64 t.kind, .int .i64 t.p, .int .i64 t.q, .string t.str, .int .i64 t.ref])) ?_
     refine hp_ 2 [0, 0, 2, 2, 2] (pB b 0) ?_
     refine hp_ 3 [0, 0, 2, 2, 2] (pB b 0) ?_
     refine hp_ 4 [0, 0, 2, 2, 2] (pB b 0) ?_
     refine h_l 5 rfl [0, 0, 2, 2, 2] (fun _ => (t_load 0 v27)) ?_
     refine hp_ 6 [0, 0, 2, 2, 2] (pB g1 4) ?_
     refine h_l 7 rfl [0, 0, 2, 2, 2] (fun _ => (t_load 4 (.int .i64 t.ref))) ?_
     refine h_l 8 rfl [0, 0, 2, 2, 2] (fun _ => (t_sub t.ref 1 (by (try simp only [lnm]); omega))) ?_
     refine h_l 9 rfl [0, 0, 2, 2, 2] (fun _ => (t_index RxT_ok Tryz.underlying102 (.own 1) (t.ref - 1) (((t.ref - 1)).toNat) (by omega) (by (try simp only [lnm]); omega) (by omega))) ?_
     refine hp_ 10 [0, 0, 2, 2, 2] (.pointer (some ((elemAt RxT.size v27 (((t.ref - 1)).toNat)).add 3))) ?_
     obtain ⟨tp34, uv35, rv36, hy37⟩ := rx_get hL31 ho10
     refine h_l 11 rfl [0, 0, 2, 2, 2] (fun _ => (Lt.to (v' := ptrV tp34) (t_loadF 3 RxT_ok (.own 1) hy37) (tabV_tab hk11))) ?_
     refine h_l 12 rfl [0, 0, 2, 2, 2] (fun _ => (t_loadA 3 #[.int .i64 k.kind, .int .i64 k.p, .int .i64 k.q, .string k.str, .int .i64 k.ref])) ?_
     refine h_l 13 rfl [0, 0, 2, 2, 2] (fun _ => (t_loadA 2 #[.int .i64 x.kind, .int .i64 x.p, .int .i64 x.q, .string x.str, .int .i64 x.ref])) ?_
     refine h_stepS 14 ?_
     refine s_mem (fun _ h => rall_out hy37 (h.re [3] [])) ?_
     refine s_mem (fun _ h => rtO_open hk11 (h.re [2] [])) ?_
     obtain ⟨hl38, hl382, _⟩ := hsm.obs o8 (get_mem ho10).1
     have hl383 : n * (n + 1) ≤ 300 * 301 := Nat.mul_le_mul (by omega) (by omega)
     refine s_call [0] (rtset_s (L := o8.tab.list) (S := o8.tab.rest) (hi30.obs o8 (get_mem ho10).1).tab (by (try simp only [lnm]); omega) (by (try simp only [lnm]); omega) k x) ?_
     rintro _ _ ⟨rfl, rfl⟩
     refine s_nil (xs_held [4, 4, 5, 5, 5] ?_)
     refine h_stepS 15 ?_
     have hk := okKey_good c20 c23
     have he0 : elemE x = 0 := Decidable.not_not.1 (of_decide_eq_false c24)
     have hv0 := elem_valid he0
     refine s_call [4, 5] (rtouch_s (vv := v27) (m := (st.count : Int)) (T := st.tch) t (by omega) (by omega) (by omega) (tsetE k x)) ?_
     rw [if_pos (tsetE_ok hk hv0)]
     rintro _ _ ⟨rfl, rfl⟩
     refine s_nil (xs_held [0, 5, 5, 5, 5] ?_)
     refine hp_ 16 [0, 5, 5, 5, 5] (.int .i64 (tsetE k x)) ?_
     refine h_doneS ?_
     refine xs_then ?_
     refine k_ret ?_
     refine xs_mem (fun _ h => rtO_shut (o := o8) (T := (tset ⟨o8.tab.list, o8.tab.rest⟩ k x)) hk11 (h.re [2] [])) ?_
     refine xs_mem (fun _ h => rall_in (o' := { o8 with tab := (tset ⟨o8.tab.list, o8.tab.rest⟩ k x) }) (uv' := uv35) (rv' := rv36) hy37 (h.re [3, 3, 0, 2] [])) ?_
     refine xs_mem (fun _ h => own_set (y := ⟨some { o8 with tab := (tset ⟨o8.tab.list, o8.tab.rest⟩ k x) }, tp34, uv35, rv36⟩) hy37 rfl (h.re [3] [])) ?_
     have hob39 := hi30.obs o8 (get_mem ho10).1
     refine xs_mem (fun _ h => rh_shut (st := ((st.put t.ref { o8 with tab := (tset ⟨o8.tab.list, o8.tab.rest⟩ k x) }).touch t.ref)) (n := (st.count : Int)) (T := (st.tch.set ((t.ref - 1)).toNat true)) ⟨⟨⟨touch_inv (put_inv (o := { o8 with tab := (tset ⟨o8.tab.list, o8.tab.rest⟩ k x) }) hi30 ⟨hob39.kind, (tset_inv hob39.tab _ _), hob39.mt⟩) t.ref, rx_set hL31 ho10 rfl⟩, (show (st.count : Int) = ((Hst.count (st.put t.ref { o8 with tab := (tset ⟨o8.tab.list, o8.tab.rest⟩ k x) }) : Nat) : Int) by rw [count_put ho10])⟩, by show _ = List.set _ _ _; congr 1; omega⟩ (h.re [2, 0, 1, 0] [])) ?_
     have hp := hset_ok ht9 ho10 hk he0
     refine xs_fin [.int .i64 (tsetE k x)] (rhA b ((st.put t.ref { o8 with tab := (tset ⟨o8.tab.list, o8.tab.rest⟩ k x) }).touch t.ref) :: F) (SI.tmp 8 SI.nil) (fun _ h => h.re [0] [1, 1, 1]) ⟨?_, ?_⟩
     · rw [hp.2]; exact congrArg (Value.int .i64) (by first | rfl | exact tsetE_ok hk hv0)
     · rw [hp.1]
theorem hmeta_no {st : Hst} (hi : HInv st) {v : Vl} (h4 : hfind st v = none ∨ v.kind ≠ 4) (h8 : hfind st v = none ∨ v.kind ≠ 8) : hmeta st v = zVl := by
  unfold hmeta
  cases hf : hfind st v with
  | none => rfl
  | some o =>
    obtain ⟨h1, h2⟩ := hfind_some hf
    rw [hf] at h4 h8
    simp at h4 h8
    exact (hi.obs o (get_mem h1).1).mt (by omega) (by omega)
theorem rhmeta_s {Z : Zone} {F : List Asr} {b : Nat} {st : Hst} (hl : st.objs.length ≤ 1000000) (v : Vl) : SF Tryz.prog 90 #[.pointer (some ⟨b, 0, none⟩), v.v] Z (rhA b st :: F) fun r Bs => r = (hmeta st v).v ∧ Bs = rhA b st :: F := by
 refine sf_enter Tryz.func90 24 [(0, pB b 0), (1, .agg #[.int .i64 v.kind, .int .i64 v.p, .int .i64 v.q, .string v.str, .int .i64 v.ref])] (fun w0 => ?_)
 refine k_fact (fun H h => rh_inv (h.re [0] [])) (fun hi0 => ?_)
 refine k_sr ?_
 refine s_box #[.int .i64 v.kind, .int .i64 v.p, .int .i64 v.q, .string v.str, .int .i64 v.ref] (fun g1 => ?_)
 refine s_alloc (.agg #[.int .i64 0, .int .i64 0, .int .i64 0, .string ByteArray.empty, .int .i64 0]) #[.int .i64 0, .int .i64 0, .int .i64 0, .string ByteArray.empty, .int .i64 0] (fun g2 => ?_)
 refine s_nt ?_
 refine k_seq ?_
 refine k_sr ?_
 refine sp (pB b 0) ?_
 refine s_lt (t_loadA 1 #[.int .i64 v.kind, .int .i64 v.p, .int .i64 v.q, .string v.str, .int .i64 v.ref]) ?_
 refine s_call [2] (ris_s (st := st) (by omega) v 4) ?_
 rintro u3 _ ⟨e4, rfl⟩
 rcases is_cases st v 4 with ⟨hb5, hn6⟩ | ⟨o7, hb8, hf9, ho10, hk11, hv12⟩
 ·
  rw [hb5] at e4; subst e4
  refine sp (.bool false) ?_
  refine sp (pB b 0) ?_
  refine s_lt (t_loadA 2 #[.int .i64 v.kind, .int .i64 v.p, .int .i64 v.q, .string v.str, .int .i64 v.ref]) ?_
  refine s_call [0] (ris_s (st := st) (by omega) v 8) ?_
  rintro u13 _ ⟨e14, rfl⟩
  rcases is_cases st v 8 with ⟨hb15, hn16⟩ | ⟨o17, hb18, hf19, ho20, hk21, hv22⟩
  ·
   rw [hb15] at e14; subst e14
   refine sp (.bool false) ?_
   refine s_nt ?_
   refine k_false ?_
   refine k_st ?_
   refine k_sr ?_
   refine s_lt (t_kern (.agg #[.int .i64 0, .int .i64 0, .int .i64 0, .string ByteArray.empty, .int .i64 0])) ?_
   refine s_store 1 #[.int .i64 0, .int .i64 0, .int .i64 0, .string ByteArray.empty, .int .i64 0] ?_
   refine s_nt ?_
   refine k_ret ?_
   refine xs_fin [.agg #[.int .i64 0, .int .i64 0, .int .i64 0, .string ByteArray.empty, .int .i64 0]] (rhA b st :: F) (SI.agg 4 26 1 SI.nil) (fun _ h => h.re [0] [1, 1]) ⟨?_, rfl⟩
   rw [hmeta_no hi0 hn6 hn16]; rfl
  ·
   rw [hb18] at e14; subst e14
   have hgm23 := get_mem ho20
   refine sp (.bool true) ?_
   refine s_nt ?_
   refine k_true ?_
   refine k_seq ?_
   refine k_draw ?_
   refine sp (pB b 0) ?_
   refine sp (pB b 0) ?_
   refine sp (pB b 0) ?_
   refine s_mem3 (fun H h => rh_open (h.re [0] [])) (fun v24 tv25 L26 hw => ?_)
   obtain ⟨hi27, hL28⟩ := hw
   have hln29 := rx_len hL28
   have htl30 := hi27.tch
   refine s_lt (t_load 0 v24) ?_
   refine sp (pB g1 4) ?_
   refine s_lt (t_load 5 (.int .i64 v.ref)) ?_
   refine s_lt (t_sub v.ref 1 (by (try simp only [lnm]); omega)) ?_
   refine s_lt (t_index RxT_ok Tryz.underlying102 (.own 1) (v.ref - 1) (((v.ref - 1)).toNat) (by omega) (by (try simp only [lnm]); omega) (by omega)) ?_
   refine sp (.pointer (some ((elemAt RxT.size v24 (((v.ref - 1)).toNat)).add 4))) ?_
   obtain ⟨tp31, uv32, rv33, hy34⟩ := rx_get hL28 ho20
   refine s_lt (t_loadG 4 #[.int .i64 o17.mt.kind, .int .i64 o17.mt.p, .int .i64 o17.mt.q, .string o17.mt.str, .int .i64 o17.mt.ref] RxT_ok (.own 1) hy34) ?_
   refine s_store 4 #[.int .i64 o17.mt.kind, .int .i64 o17.mt.p, .int .i64 o17.mt.q, .string o17.mt.str, .int .i64 o17.mt.ref] ?_
   refine s_nil ?_
   refine x_dynS (fun _ h => by kernel_rfl) ?_
   refine xs_then ?_
   refine k_ret ?_
   refine xs_ret ?_
   refine xs_mem (fun _ h => rh_shut (st := st) (n := (st.count : Int)) (T := st.tch) ⟨⟨⟨hi27, hL28⟩, rfl⟩, rfl⟩ (h.re [0, 0, 0, 0] [])) ?_
   refine xs_fin [.agg #[.int .i64 o17.mt.kind, .int .i64 o17.mt.p, .int .i64 o17.mt.q, .string o17.mt.str, .int .i64 o17.mt.ref]] (rhA b st :: F) (SI.agg 4 26 1 SI.nil) (fun _ h => h.re [0] [1, 1]) ⟨?_, rfl⟩
   unfold hmeta; rw [hf19]; rfl
 ·
  rw [hb8] at e4; subst e4
  have hgm35 := get_mem ho10
  refine sp (.bool true) ?_
  refine s_skip ?_
  refine s_skip ?_
  refine s_skip ?_
  refine sp (.bool true) ?_
  refine s_nt ?_
  refine k_true ?_
  refine k_seq ?_
  refine k_draw ?_
  refine sp (pB b 0) ?_
  refine sp (pB b 0) ?_
  refine sp (pB b 0) ?_
  refine s_mem3 (fun H h => rh_open (h.re [0] [])) (fun v36 tv37 L38 hw => ?_)
  obtain ⟨hi39, hL40⟩ := hw
  have hln41 := rx_len hL40
  have htl42 := hi39.tch
  refine s_lt (t_load 0 v36) ?_
  refine sp (pB g1 4) ?_
  refine s_lt (t_load 5 (.int .i64 v.ref)) ?_
  refine s_lt (t_sub v.ref 1 (by (try simp only [lnm]); omega)) ?_
  refine s_lt (t_index RxT_ok Tryz.underlying102 (.own 1) (v.ref - 1) (((v.ref - 1)).toNat) (by omega) (by (try simp only [lnm]); omega) (by omega)) ?_
  refine sp (.pointer (some ((elemAt RxT.size v36 (((v.ref - 1)).toNat)).add 4))) ?_
  obtain ⟨tp43, uv44, rv45, hy46⟩ := rx_get hL40 ho10
  refine s_lt (t_loadG 4 #[.int .i64 o7.mt.kind, .int .i64 o7.mt.p, .int .i64 o7.mt.q, .string o7.mt.str, .int .i64 o7.mt.ref] RxT_ok (.own 1) hy46) ?_
  refine s_store 4 #[.int .i64 o7.mt.kind, .int .i64 o7.mt.p, .int .i64 o7.mt.q, .string o7.mt.str, .int .i64 o7.mt.ref] ?_
  refine s_nil ?_
  refine x_dynS (fun _ h => by kernel_rfl) ?_
  refine xs_then ?_
  refine k_ret ?_
  refine xs_ret ?_
  refine xs_mem (fun _ h => rh_shut (st := st) (n := (st.count : Int)) (T := st.tch) ⟨⟨⟨hi39, hL40⟩, rfl⟩, rfl⟩ (h.re [0, 0, 0, 0] [])) ?_
  refine xs_fin [.agg #[.int .i64 o7.mt.kind, .int .i64 o7.mt.p, .int .i64 o7.mt.q, .string o7.mt.str, .int .i64 o7.mt.ref]] (rhA b st :: F) (SI.agg 4 26 1 SI.nil) (fun _ h => h.re [0] [1, 1]) ⟨?_, rfl⟩
  unfold hmeta; rw [hf9]; rfl
theorem hmetaOk_no {st : Hst} {v m : Vl} (h4 : hfind st v = none ∨ v.kind ≠ 4) (h8 : hfind st v = none ∨ v.kind ≠ 8) : hmetaOk st v m = false := by
  unfold hmetaOk
  cases hf : hfind st v with
  | none => rfl
  | some o =>
    obtain ⟨h1, h2⟩ := hfind_some hf
    rw [hf] at h4 h8
    simp at h4 h8
    simp [h2, h4, h8]
theorem hmetaOk_zero {st : Hst} {v m : Vl} {o : Hob} (hf : hfind st v = some o) (hk : o.kind = 4 ∨ o.kind = 8) (hz : m = zVl) : hmetaOk st v m = true := by
  unfold hmetaOk; rw [hf]; rcases hk with h | h <;> simp [h, hz]
theorem hmetaOk_tab {st : Hst} {v m : Vl} {o : Hob} {T : Tb} (hf : hfind st v = some o) (hk : o.kind = 4 ∨ o.kind = 8) (ht : htab st m = some T) : hmetaOk st v m = true := by
  unfold hmetaOk; rw [hf]; rcases hk with h | h <;> simp [h, ht]
theorem hmetaOk_not {st : Hst} {v m : Vl} {o : Hob} (hf : hfind st v = some o) (hz : m ≠ zVl) (hm : hfind st m = none ∨ m.kind ≠ 4) : hmetaOk st v m = false := by
  unfold hmetaOk; rw [hf]
  have ht : htab st m = none := by
    rcases hm with h | h
    · exact htab_none h
    · cases hx : hfind st m with
      | none => exact htab_none hx
      | some x => exact htab_not hx (by rw [(hfind_some hx).2]; exact h)
  simp [hz, ht]
theorem rhsetmeta_s {Z : Zone} {F : List Asr} {b : Nat} {st : Hst} (hl : st.objs.length ≤ 1000000) (v m : Vl) : SF Tryz.prog 32 #[.pointer (some ⟨b, 0, none⟩), v.v, m.v] Z (rhA b st :: F) fun r Bs => r = .int .i64 (hsetMetaE st v m) ∧ Bs = rhA b (hsetMeta st v m) :: F := by
 refine sf_enter Tryz.func32 43 [(0, pB b 0), (1, .agg #[.int .i64 v.kind, .int .i64 v.p, .int .i64 v.q, .string v.str, .int .i64 v.ref]), (2, .agg #[.int .i64 m.kind, .int .i64 m.p, .int .i64 m.q, .string m.str, .int .i64 m.ref])] (fun w0 => ?_)
 refine k_fact (fun H h => rh_inv (h.re [0] [])) (fun hi0 => ?_)
 refine k_sr ?_
 refine s_box #[.int .i64 v.kind, .int .i64 v.p, .int .i64 v.q, .string v.str, .int .i64 v.ref] (fun g1 => ?_)
 refine s_box #[.int .i64 m.kind, .int .i64 m.p, .int .i64 m.q, .string m.str, .int .i64 m.ref] (fun g2 => ?_)
 refine sp (.int .i64 0) ?_
 refine s_nt ?_
 refine k_seq ?_
 refine k_sr ?_
 refine sp (pB b 0) ?_
 refine sp (.bool false) ?_
 refine s_nt ?_
 refine k_false ?_
 refine k_st ?_
 refine k_seq ?_
 refine k_sr ?_
 refine sp (pB b 0) ?_
 refine s_lt (t_loadA 1 #[.int .i64 v.kind, .int .i64 v.p, .int .i64 v.q, .string v.str, .int .i64 v.ref]) ?_
 refine s_call [2] (ris_s (st := st) (by omega) v 4) ?_
 rintro u3 _ ⟨e4, rfl⟩
 rcases is_cases st v 4 with ⟨hb5, hn6⟩ | ⟨o7, hb8, hf9, ho10, hk11, hv12⟩
 ·
  rw [hb5] at e4; subst e4
  refine sp (.bool true) ?_
  refine sp (.bool true) ?_
  refine sp (pB b 0) ?_
  refine s_lt (t_loadA 2 #[.int .i64 v.kind, .int .i64 v.p, .int .i64 v.q, .string v.str, .int .i64 v.ref]) ?_
  refine s_call [0] (ris_s (st := st) (by omega) v 8) ?_
  rintro u13 _ ⟨e14, rfl⟩
  rcases is_cases st v 8 with ⟨hb15, hn16⟩ | ⟨o17, hb18, hf19, ho20, hk21, hv22⟩
  ·
   rw [hb15] at e14; subst e14
   refine sp (.bool true) ?_
   refine sp (.bool true) ?_
   refine sp (.bool true) ?_
   refine s_skip ?_
   refine s_skip ?_
   refine s_skip ?_
   refine s_skip ?_
   refine s_skip ?_
   refine s_skip ?_
   refine s_skip ?_
   refine s_skip ?_
   refine s_skip ?_
   refine sp (.bool true) ?_
   refine s_nt ?_
   refine k_true ?_
   refine k_sr ?_
   refine sp (.int .i64 8) ?_
   refine s_nt ?_
   refine k_ret ?_
   refine xs_ret ?_
   have hb : hmetaOk st v m = false := hmetaOk_no hn6 hn16
   refine xs_fin [.int .i64 8] (rhA b st :: F) (SI.tmp 6 SI.nil) (fun _ h => h.re [0] [1, 1]) ⟨?_, ?_⟩
   · unfold hsetMetaE; rw [hb]; rfl
   · unfold hsetMeta; rw [hb]; rfl
  ·
   rw [hb18] at e14; subst e14
   have hgm23 := get_mem ho20
   refine sp (.bool false) ?_
   refine sp (.bool false) ?_
   refine sp (.bool false) ?_
   refine s_lt (t_loadA 1 #[.int .i64 m.kind, .int .i64 m.p, .int .i64 m.q, .string m.str, .int .i64 m.ref]) ?_
   refine s_lt (t_kern (.agg #[.int .i64 0, .int .i64 0, .int .i64 0, .string ByteArray.empty, .int .i64 0])) ?_
   refine s_lt (t_eqS (fun w => (eqVlT m zVl w).2)) ?_
   refine sp (.bool (!(decide (m = zVl)))) ?_
   refine s_fork 23 (!(decide (m = zVl))) (fun c24 => ?_) (fun c24 => ?_)
   ·
    have c25 := not_t c24
    have p26 := of_decide_eq_false c25
    refine sp (pB b 0) ?_
    refine s_lt (t_loadA 1 #[.int .i64 m.kind, .int .i64 m.p, .int .i64 m.q, .string m.str, .int .i64 m.ref]) ?_
    refine s_call [0] (ris_s (st := st) (by omega) m 4) ?_
    rintro u27 _ ⟨e28, rfl⟩
    rcases is_cases st m 4 with ⟨hb29, hn30⟩ | ⟨o31, hb32, hf33, ho34, hk35, hv36⟩
    ·
     rw [hb29] at e28; subst e28
     refine sp (.bool true) ?_
     refine sp (.bool true) ?_
     refine sp (.bool true) ?_
     refine s_nt ?_
     refine k_true ?_
     refine k_sr ?_
     refine sp (.int .i64 8) ?_
     refine s_nt ?_
     refine k_ret ?_
     refine xs_ret ?_
     have hb : hmetaOk st v m = false := hmetaOk_not hf19 (of_decide_eq_false c25) hn30
     refine xs_fin [.int .i64 8] (rhA b st :: F) (SI.tmp 6 SI.nil) (fun _ h => h.re [0] [1, 1]) ⟨?_, ?_⟩
     · unfold hsetMetaE; rw [hb]; rfl
     · unfold hsetMeta; rw [hb]; rfl
    ·
     rw [hb32] at e28; subst e28
     have hgm37 := get_mem ho34
     refine sp (.bool false) ?_
     refine sp (.bool false) ?_
     refine sp (.bool false) ?_
     refine s_nt ?_
     refine k_false ?_
     refine k_st ?_
     refine k_seq ?_
     refine k_draw ?_
     refine sp (pB b 0) ?_
     refine sp (pB b 0) ?_
     refine sp (pB b 0) ?_
     refine s_mem3 (fun H h => rh_open (h.re [0] [])) (fun v38 tv39 L40 hw => ?_)
     obtain ⟨hi41, hL42⟩ := hw
     have hln43 := rx_len hL42
     have htl44 := hi41.tch
     refine s_lt (t_load 0 v38) ?_
     refine sp (pB g1 4) ?_
     refine s_lt (t_load 5 (.int .i64 v.ref)) ?_
     refine s_lt (t_sub v.ref 1 (by (try simp only [lnm]); omega)) ?_
     refine s_lt (t_loadA 4 #[.int .i64 m.kind, .int .i64 m.p, .int .i64 m.q, .string m.str, .int .i64 m.ref]) ?_
     refine s_lt (t_index RxT_ok Tryz.underlying102 (.own 1) (v.ref - 1) (((v.ref - 1)).toNat) (by omega) (by (try simp only [lnm]); omega) (by omega)) ?_
     refine sp (.pointer (some ((elemAt RxT.size v38 (((v.ref - 1)).toNat)).add 4))) ?_
     obtain ⟨tp45, uv46, rv47, hy48⟩ := rx_get hL42 ho20
     refine s_storeE 1 4 (⟨some { o17 with mt := m }, tp45, uv46, rv47⟩ : Rx) RxT_ok hy48 ?_
     refine s_mem (fun _ h => rall_in (o' := { o17 with mt := m }) (uv' := uv46) (rv' := rv47) hy48 (rall_out (o := o17) hy48 (h.re [3] []))) ?_
     have hob49 := hi41.obs o17 (get_mem ho20).1
     refine s_nil ?_
     refine x_dynS (fun _ h => by kernel_rfl) ?_
     refine xs_then ?_
     refine k_sr ?_
     refine sp (pB b 0) ?_
     refine s_lt (t_loadA 5 #[.int .i64 v.kind, .int .i64 v.p, .int .i64 v.q, .string v.str, .int .i64 v.ref]) ?_
     refine s_call [1, 2] (rtouch_s (vv := v38) (m := (st.count : Int)) (T := st.tch) v (by omega) (by omega) (by omega) 0) ?_
     rw [if_pos (rfl)]
     rintro _ _ ⟨rfl, rfl⟩
     refine sp (.int .i64 0) ?_
     refine s_nt ?_
     refine k_ret ?_
     refine xs_mem (fun _ h => rh_shut (st := ((st.put v.ref { o17 with mt := m }).touch v.ref)) (n := (st.count : Int)) (T := (st.tch.set ((v.ref - 1)).toNat true)) ⟨⟨⟨touch_inv (put_inv (o := { o17 with mt := m }) hi41 ⟨hob49.kind, hob49.tab, (fun a b => by exfalso; have a1 : o17.kind ≠ 4 := a; have b1 : o17.kind ≠ 8 := b; omega)⟩) v.ref, rx_set hL42 ho20 rfl⟩, (show (st.count : Int) = ((Hst.count (st.put v.ref { o17 with mt := m }) : Nat) : Int) by rw [count_put ho20])⟩, by show _ = List.set _ _ _; congr 1; omega⟩ (h.re [0, 2, 0, 0] [])) ?_
     have hb : hmetaOk st v m = true := hmetaOk_tab hf19 (.inr (by omega)) (htab_is hf33 (by omega))
     refine xs_fin [.int .i64 0] (rhA b ((st.put v.ref { o17 with mt := m }).touch v.ref) :: F) (SI.tmp 6 SI.nil) (fun _ h => h.re [0] [1, 1]) ⟨?_, ?_⟩
     · unfold hsetMetaE; rw [hb]; rfl
     · unfold hsetMeta; rw [hb]; unfold Hst.setMt; rw [ho20]; rfl
   ·
    have c50 := not_f c24
    have p51 := of_decide_eq_true c50
    refine s_skip ?_
    refine s_skip ?_
    refine s_skip ?_
    refine s_skip ?_
    refine sp (.bool false) ?_
    refine sp (.bool false) ?_
    refine s_nt ?_
    refine k_false ?_
    refine k_st ?_
    refine k_seq ?_
    refine k_draw ?_
    refine sp (pB b 0) ?_
    refine sp (pB b 0) ?_
    refine sp (pB b 0) ?_
    refine s_mem3 (fun H h => rh_open (h.re [0] [])) (fun v52 tv53 L54 hw => ?_)
    obtain ⟨hi55, hL56⟩ := hw
    have hln57 := rx_len hL56
    have htl58 := hi55.tch
    refine s_lt (t_load 0 v52) ?_
    refine sp (pB g1 4) ?_
    refine s_lt (t_load 5 (.int .i64 v.ref)) ?_
    refine s_lt (t_sub v.ref 1 (by (try simp only [lnm]); omega)) ?_
    refine s_lt (t_loadA 4 #[.int .i64 m.kind, .int .i64 m.p, .int .i64 m.q, .string m.str, .int .i64 m.ref]) ?_
    refine s_lt (t_index RxT_ok Tryz.underlying102 (.own 1) (v.ref - 1) (((v.ref - 1)).toNat) (by omega) (by (try simp only [lnm]); omega) (by omega)) ?_
    refine sp (.pointer (some ((elemAt RxT.size v52 (((v.ref - 1)).toNat)).add 4))) ?_
    obtain ⟨tp59, uv60, rv61, hy62⟩ := rx_get hL56 ho20
    refine s_storeE 1 4 (⟨some { o17 with mt := m }, tp59, uv60, rv61⟩ : Rx) RxT_ok hy62 ?_
    refine s_mem (fun _ h => rall_in (o' := { o17 with mt := m }) (uv' := uv60) (rv' := rv61) hy62 (rall_out (o := o17) hy62 (h.re [3] []))) ?_
    have hob63 := hi55.obs o17 (get_mem ho20).1
    refine s_nil ?_
    refine x_dynS (fun _ h => by kernel_rfl) ?_
    refine xs_then ?_
    refine k_sr ?_
    refine sp (pB b 0) ?_
    refine s_lt (t_loadA 5 #[.int .i64 v.kind, .int .i64 v.p, .int .i64 v.q, .string v.str, .int .i64 v.ref]) ?_
    refine s_call [1, 2] (rtouch_s (vv := v52) (m := (st.count : Int)) (T := st.tch) v (by omega) (by omega) (by omega) 0) ?_
    rw [if_pos (rfl)]
    rintro _ _ ⟨rfl, rfl⟩
    refine sp (.int .i64 0) ?_
    refine s_nt ?_
    refine k_ret ?_
    refine xs_mem (fun _ h => rh_shut (st := ((st.put v.ref { o17 with mt := m }).touch v.ref)) (n := (st.count : Int)) (T := (st.tch.set ((v.ref - 1)).toNat true)) ⟨⟨⟨touch_inv (put_inv (o := { o17 with mt := m }) hi55 ⟨hob63.kind, hob63.tab, (fun a b => by exfalso; have a1 : o17.kind ≠ 4 := a; have b1 : o17.kind ≠ 8 := b; omega)⟩) v.ref, rx_set hL56 ho20 rfl⟩, (show (st.count : Int) = ((Hst.count (st.put v.ref { o17 with mt := m }) : Nat) : Int) by rw [count_put ho20])⟩, by show _ = List.set _ _ _; congr 1; omega⟩ (h.re [0, 2, 0, 0] [])) ?_
    have hb : hmetaOk st v m = true := hmetaOk_zero hf19 (.inr (by omega)) (of_decide_eq_true c50)
    refine xs_fin [.int .i64 0] (rhA b ((st.put v.ref { o17 with mt := m }).touch v.ref) :: F) (SI.tmp 6 SI.nil) (fun _ h => h.re [0] [1, 1]) ⟨?_, ?_⟩
    · unfold hsetMetaE; rw [hb]; rfl
    · unfold hsetMeta; rw [hb]; unfold Hst.setMt; rw [ho20]; rfl
 ·
  rw [hb8] at e4; subst e4
  have hgm64 := get_mem ho10
  refine sp (.bool false) ?_
  refine sp (.bool false) ?_
  refine s_skip ?_
  refine s_skip ?_
  refine s_skip ?_
  refine s_skip ?_
  refine sp (.bool false) ?_
  refine sp (.bool false) ?_
  refine s_lt (t_loadA 1 #[.int .i64 m.kind, .int .i64 m.p, .int .i64 m.q, .string m.str, .int .i64 m.ref]) ?_
  refine s_lt (t_kern (.agg #[.int .i64 0, .int .i64 0, .int .i64 0, .string ByteArray.empty, .int .i64 0])) ?_
  refine s_lt (t_eqS (fun w => (eqVlT m zVl w).2)) ?_
  refine sp (.bool (!(decide (m = zVl)))) ?_
  refine s_fork 23 (!(decide (m = zVl))) (fun c65 => ?_) (fun c65 => ?_)
  ·
   have c66 := not_t c65
   have p67 := of_decide_eq_false c66
   refine sp (pB b 0) ?_
   refine s_lt (t_loadA 1 #[.int .i64 m.kind, .int .i64 m.p, .int .i64 m.q, .string m.str, .int .i64 m.ref]) ?_
   refine s_call [0] (ris_s (st := st) (by omega) m 4) ?_
   rintro u68 _ ⟨e69, rfl⟩
   rcases is_cases st m 4 with ⟨hb70, hn71⟩ | ⟨o72, hb73, hf74, ho75, hk76, hv77⟩
   ·
    rw [hb70] at e69; subst e69
    refine sp (.bool true) ?_
    refine sp (.bool true) ?_
    refine sp (.bool true) ?_
    refine s_nt ?_
    refine k_true ?_
    refine k_sr ?_
    refine sp (.int .i64 8) ?_
    refine s_nt ?_
    refine k_ret ?_
    refine xs_ret ?_
    have hb : hmetaOk st v m = false := hmetaOk_not hf9 (of_decide_eq_false c66) hn71
    refine xs_fin [.int .i64 8] (rhA b st :: F) (SI.tmp 6 SI.nil) (fun _ h => h.re [0] [1, 1]) ⟨?_, ?_⟩
    · unfold hsetMetaE; rw [hb]; rfl
    · unfold hsetMeta; rw [hb]; rfl
   ·
    rw [hb73] at e69; subst e69
    have hgm78 := get_mem ho75
    refine sp (.bool false) ?_
    refine sp (.bool false) ?_
    refine sp (.bool false) ?_
    refine s_nt ?_
    refine k_false ?_
    refine k_st ?_
    refine k_seq ?_
    refine k_draw ?_
    refine sp (pB b 0) ?_
    refine sp (pB b 0) ?_
    refine sp (pB b 0) ?_
    refine s_mem3 (fun H h => rh_open (h.re [0] [])) (fun v79 tv80 L81 hw => ?_)
    obtain ⟨hi82, hL83⟩ := hw
    have hln84 := rx_len hL83
    have htl85 := hi82.tch
    refine s_lt (t_load 0 v79) ?_
    refine sp (pB g1 4) ?_
    refine s_lt (t_load 5 (.int .i64 v.ref)) ?_
    refine s_lt (t_sub v.ref 1 (by (try simp only [lnm]); omega)) ?_
    refine s_lt (t_loadA 4 #[.int .i64 m.kind, .int .i64 m.p, .int .i64 m.q, .string m.str, .int .i64 m.ref]) ?_
    refine s_lt (t_index RxT_ok Tryz.underlying102 (.own 1) (v.ref - 1) (((v.ref - 1)).toNat) (by omega) (by (try simp only [lnm]); omega) (by omega)) ?_
    refine sp (.pointer (some ((elemAt RxT.size v79 (((v.ref - 1)).toNat)).add 4))) ?_
    obtain ⟨tp86, uv87, rv88, hy89⟩ := rx_get hL83 ho10
    refine s_storeE 1 4 (⟨some { o7 with mt := m }, tp86, uv87, rv88⟩ : Rx) RxT_ok hy89 ?_
    refine s_mem (fun _ h => rall_in (o' := { o7 with mt := m }) (uv' := uv87) (rv' := rv88) hy89 (rall_out (o := o7) hy89 (h.re [3] []))) ?_
    have hob90 := hi82.obs o7 (get_mem ho10).1
    refine s_nil ?_
    refine x_dynS (fun _ h => by kernel_rfl) ?_
    refine xs_then ?_
    refine k_sr ?_
    refine sp (pB b 0) ?_
    refine s_lt (t_loadA 5 #[.int .i64 v.kind, .int .i64 v.p, .int .i64 v.q, .string v.str, .int .i64 v.ref]) ?_
    refine s_call [1, 2] (rtouch_s (vv := v79) (m := (st.count : Int)) (T := st.tch) v (by omega) (by omega) (by omega) 0) ?_
    rw [if_pos (rfl)]
    rintro _ _ ⟨rfl, rfl⟩
    refine sp (.int .i64 0) ?_
    refine s_nt ?_
    refine k_ret ?_
    refine xs_mem (fun _ h => rh_shut (st := ((st.put v.ref { o7 with mt := m }).touch v.ref)) (n := (st.count : Int)) (T := (st.tch.set ((v.ref - 1)).toNat true)) ⟨⟨⟨touch_inv (put_inv (o := { o7 with mt := m }) hi82 ⟨hob90.kind, hob90.tab, (fun a b => by exfalso; have a1 : o7.kind ≠ 4 := a; have b1 : o7.kind ≠ 8 := b; omega)⟩) v.ref, rx_set hL83 ho10 rfl⟩, (show (st.count : Int) = ((Hst.count (st.put v.ref { o7 with mt := m }) : Nat) : Int) by rw [count_put ho10])⟩, by show _ = List.set _ _ _; congr 1; omega⟩ (h.re [0, 2, 0, 0] [])) ?_
    have hb : hmetaOk st v m = true := hmetaOk_tab hf9 (.inl (by omega)) (htab_is hf74 (by omega))
    refine xs_fin [.int .i64 0] (rhA b ((st.put v.ref { o7 with mt := m }).touch v.ref) :: F) (SI.tmp 6 SI.nil) (fun _ h => h.re [0] [1, 1]) ⟨?_, ?_⟩
    · unfold hsetMetaE; rw [hb]; rfl
    · unfold hsetMeta; rw [hb]; unfold Hst.setMt; rw [ho10]; rfl
  ·
   have c91 := not_f c65
   have p92 := of_decide_eq_true c91
   refine s_skip ?_
   refine s_skip ?_
   refine s_skip ?_
   refine s_skip ?_
   refine sp (.bool false) ?_
   refine sp (.bool false) ?_
   refine s_nt ?_
   refine k_false ?_
   refine k_st ?_
   refine k_seq ?_
   refine k_draw ?_
   refine sp (pB b 0) ?_
   refine sp (pB b 0) ?_
   refine sp (pB b 0) ?_
   refine s_mem3 (fun H h => rh_open (h.re [0] [])) (fun v93 tv94 L95 hw => ?_)
   obtain ⟨hi96, hL97⟩ := hw
   have hln98 := rx_len hL97
   have htl99 := hi96.tch
   refine s_lt (t_load 0 v93) ?_
   refine sp (pB g1 4) ?_
   refine s_lt (t_load 5 (.int .i64 v.ref)) ?_
   refine s_lt (t_sub v.ref 1 (by (try simp only [lnm]); omega)) ?_
   refine s_lt (t_loadA 4 #[.int .i64 m.kind, .int .i64 m.p, .int .i64 m.q, .string m.str, .int .i64 m.ref]) ?_
   refine s_lt (t_index RxT_ok Tryz.underlying102 (.own 1) (v.ref - 1) (((v.ref - 1)).toNat) (by omega) (by (try simp only [lnm]); omega) (by omega)) ?_
   refine sp (.pointer (some ((elemAt RxT.size v93 (((v.ref - 1)).toNat)).add 4))) ?_
   obtain ⟨tp100, uv101, rv102, hy103⟩ := rx_get hL97 ho10
   refine s_storeE 1 4 (⟨some { o7 with mt := m }, tp100, uv101, rv102⟩ : Rx) RxT_ok hy103 ?_
   refine s_mem (fun _ h => rall_in (o' := { o7 with mt := m }) (uv' := uv101) (rv' := rv102) hy103 (rall_out (o := o7) hy103 (h.re [3] []))) ?_
   have hob104 := hi96.obs o7 (get_mem ho10).1
   refine s_nil ?_
   refine x_dynS (fun _ h => by kernel_rfl) ?_
   refine xs_then ?_
   refine k_sr ?_
   refine sp (pB b 0) ?_
   refine s_lt (t_loadA 5 #[.int .i64 v.kind, .int .i64 v.p, .int .i64 v.q, .string v.str, .int .i64 v.ref]) ?_
   refine s_call [1, 2] (rtouch_s (vv := v93) (m := (st.count : Int)) (T := st.tch) v (by omega) (by omega) (by omega) 0) ?_
   rw [if_pos (rfl)]
   rintro _ _ ⟨rfl, rfl⟩
   refine sp (.int .i64 0) ?_
   refine s_nt ?_
   refine k_ret ?_
   refine xs_mem (fun _ h => rh_shut (st := ((st.put v.ref { o7 with mt := m }).touch v.ref)) (n := (st.count : Int)) (T := (st.tch.set ((v.ref - 1)).toNat true)) ⟨⟨⟨touch_inv (put_inv (o := { o7 with mt := m }) hi96 ⟨hob104.kind, hob104.tab, (fun a b => by exfalso; have a1 : o7.kind ≠ 4 := a; have b1 : o7.kind ≠ 8 := b; omega)⟩) v.ref, rx_set hL97 ho10 rfl⟩, (show (st.count : Int) = ((Hst.count (st.put v.ref { o7 with mt := m }) : Nat) : Int) by rw [count_put ho10])⟩, by show _ = List.set _ _ _; congr 1; omega⟩ (h.re [0, 2, 0, 0] [])) ?_
   have hb : hmetaOk st v m = true := hmetaOk_zero hf9 (.inl (by omega)) (of_decide_eq_true c91)
   refine xs_fin [.int .i64 0] (rhA b ((st.put v.ref { o7 with mt := m }).touch v.ref) :: F) (SI.tmp 6 SI.nil) (fun _ h => h.re [0] [1, 1]) ⟨?_, ?_⟩
   · unfold hsetMetaE; rw [hb]; rfl
   · unfold hsetMeta; rw [hb]; unfold Hst.setMt; rw [ho10]; rfl
theorem hmake_eq {st : Hst} {o : Hob} (hf : st.count < 65536) : hmake st o = ⟨st.objs ++ [some o], st.tch ++ [true]⟩ := by unfold hmake; rw [if_neg (by omega)]
theorem radd_s {Z : Zone} {F : List Asr} {b : Nat} {st : Hst} {o : Hob} {tp : Nat} {uv rv : Sv} (hob : ObInv o) (hl : st.objs.length ≤ 1000000) : SF Tryz.prog 79 #[.pointer (some ⟨b, 0, none⟩), Rx.v ⟨some o, tp, uv, rv⟩] Z (rhA b st :: roP ⟨some o, tp, uv, rv⟩ :: F) fun r Bs => r = pairV (hmakeV st o.kind) (hmakeE st) ∧ Bs = rhA b (hmake st o) :: F := by
 refine sf_enter Tryz.func79 47 [(0, pB b 0), (1, .agg #[.int .i64 o.kind, .int .i64 o.tag, .string o.name, (tabV (0, tp) o), .int .i64 o.mt.kind, .int .i64 o.mt.p, .int .i64 o.mt.q, .string o.mt.str, .int .i64 o.mt.ref, uv.v, rv.v])] (fun w0 => ?_)
 refine k_sr ?_
 refine s_box #[.int .i64 o.kind, .int .i64 o.tag, .string o.name, (tabV (0, tp) o), .int .i64 o.mt.kind, .int .i64 o.mt.p, .int .i64 o.mt.q, .string o.mt.str, .int .i64 o.mt.ref, uv.v, rv.v] (fun g1 => ?_)
 refine s_alloc (.agg #[.int .i64 0, .int .i64 0, .int .i64 0, .string ByteArray.empty, .int .i64 0]) #[.int .i64 0, .int .i64 0, .int .i64 0, .string ByteArray.empty, .int .i64 0] (fun g2 => ?_)
 refine sp (.int .i64 0) ?_
 refine s_nt ?_
 refine k_seq ?_
 refine k_sr ?_
 refine sp (pB b 0) ?_
 refine sp (pB b 0) ?_
 refine sp (pB b 1) ?_
 refine s_mem3 (fun H h => rh_open (h.re [2] [])) (fun v3 tv4 L5 hw => ?_)
 obtain ⟨hi6, hL7⟩ := hw
 have hln8 := rx_len hL7
 have htl9 := hi6.tch
 refine s_lt (t_load 0 (.int .i64 (st.count : Int))) ?_
 refine s_lt t_cmp ?_
 refine s_nt ?_
 refine k_cond (decide ((65536 : Int) ≤ (st.count : Int))) (fun c10 => ?_) (fun c10 => ?_)
 ·
  have p11 := of_decide_eq_true c10
  refine k_sr ?_
  refine s_lt (t_kern (.agg #[.int .i64 0, .int .i64 0, .int .i64 0, .string ByteArray.empty, .int .i64 0])) ?_
  refine s_store 4 #[.int .i64 0, .int .i64 0, .int .i64 0, .string ByteArray.empty, .int .i64 0] ?_
  refine sp (.int .i64 17) ?_
  refine s_nt ?_
  refine k_ret ?_
  refine xs_ret ?_
  refine xs_mem (fun _ h => rh_shut (st := st) (n := (st.count : Int)) (T := st.tch) ⟨⟨⟨hi6, hL7⟩, rfl⟩, rfl⟩ (h.re [0, 0, 0, 0] [])) ?_
  have hf : 65536 ≤ st.count := by omega
  refine xs_fin [.agg #[.int .i64 0, .int .i64 0, .int .i64 0, .string ByteArray.empty, .int .i64 0], .int .i64 17] (rhA b st :: F) (SI.agg 4 26 1 (SI.tmp 5 SI.nil)) (fun _ h => h.re [0] [1, 1, 1]) ⟨?_, ?_⟩
  · rw [(hmakeV_full hf).1, (hmakeV_full (k := 0) hf).2]; rfl
  · rw [hmake_full hf]
 ·
  have p12 := of_decide_eq_false c10
  refine k_st ?_
  refine k_seq ?_
  refine k_draw ?_
  refine sp (pB b 0) ?_
  refine sp (pB b 0) ?_
  refine sp (pB b 0) ?_
  refine sp (pB b 0) ?_
  refine s_lt (t_load 0 v3) ?_
  refine s_lt (t_loadA 5 #[.int .i64 o.kind, .int .i64 o.tag, .string o.name, (tabV (0, tp) o), .int .i64 o.mt.kind, .int .i64 o.mt.p, .int .i64 o.mt.q, .string o.mt.str, .int .i64 o.mt.ref, uv.v, rv.v]) ?_
  refine s_buildSlice (e := 110) [(0, .agg #[.int .i64 o.kind, .int .i64 o.tag, .string o.name, (tabV (0, tp) o), .int .i64 o.mt.kind, .int .i64 o.mt.p, .int .i64 o.mt.q, .string o.mt.str, .int .i64 o.mt.ref, uv.v, rv.v])] #[.int .i64 o.kind, .int .i64 o.tag, .string o.name, (tabV (0, tp) o), .int .i64 o.mt.kind, .int .i64 o.mt.p, .int .i64 o.mt.q, .string o.mt.str, .int .i64 o.mt.ref, uv.v, rv.v] (fun g13 => ?_) (hb := by kernel_rfl)
  refine s_append (L := L5) 2 RxT_ok Tryz.underlying102 (.lit 0 RxT_ok [(⟨some o, tp, uv, rv⟩ : Rx)]) (by show _ * 136 ≤ _; (try simp only [lnm]); omega) (by (try simp only [lnm]); omega) (fun v14 => ?_)
  refine sp (pB b 0) ?_
  refine sp (pB b 0) ?_
  refine s_fact (fun H h => ((Acc.own (T := RxT) (L := (L5 ++ [(⟨some o, tp, uv, rv⟩ : Rx)])) 2 rfl) H h).form) (fun hf15 => ?_)
  refine s_store (u := v14) (m := 1) 1 #[v14, .int .i64 (st.count : Int), tv4] ?_ (hm := by (obtain ⟨_, _, e⟩ := hf15; rw [e]; rfl)) (h1 := by (obtain ⟨_, _, e⟩ := hf15; rw [e]; rfl)) (ha' := by (obtain ⟨_, _, e⟩ := hf15; rw [e]; rfl))
  refine s_nil ?_
  refine x_dynS (fun _ h => by kernel_rfl) ?_
  refine xs_then ?_
  refine k_sr ?_
  refine sp (pB b 0) ?_
  refine sp (pB b 0) ?_
  refine sp (pB b 0) ?_
  refine sp (pB b 2) ?_
  refine s_lt (t_load 1 tv4) ?_
  refine s_buildSlice (e := 4) [(0, .bool true)] #[.bool true] (fun g16 => ?_) (hb := by kernel_rfl)
  refine s_append (L := st.tch) 4 bTy_ok Tryz.underlying103 (.lit 0 bTy_ok [true]) (by show _ * 1 ≤ _; (try simp only [lnm]); omega) (by (try simp only [lnm]); omega) (fun v17 => ?_)
  refine sp (pB b 0) ?_
  refine sp (pB b 2) ?_
  refine s_fact (fun H h => ((Acc.own (T := bTy) (L := (st.tch ++ [true])) 4 rfl) H h).form) (fun hf18 => ?_)
  refine s_store (u := v17) (m := 1) 2 #[v14, .int .i64 (st.count : Int), v17] ?_ (hm := by (obtain ⟨_, _, e⟩ := hf18; rw [e]; rfl)) (h1 := by (obtain ⟨_, _, e⟩ := hf18; rw [e]; rfl)) (ha' := by (obtain ⟨_, _, e⟩ := hf18; rw [e]; rfl))
  refine s_nr ?_
  refine sp (pB b 0) ?_
  refine sp (pB b 0) ?_
  refine sp (pB b 0) ?_
  refine sp (pB b 1) ?_
  refine s_lt (t_load 2 (.int .i64 (st.count : Int))) ?_
  refine s_lt (t_add (st.count : Int) 1 (by (try simp only [lnm]); omega)) ?_
  refine sp (pB b 0) ?_
  refine sp (pB b 1) ?_
  refine s_store 2 #[v14, .int .i64 ((st.count : Int) + 1), v17] ?_
  refine s_nt ?_
  refine k_seq ?_
  refine k_draw ?_
  refine sp (pB g1 0) ?_
  refine s_lt (t_load 7 (.int .i64 o.kind)) ?_
  refine sp (pB b 0) ?_
  refine sp (pB b 0) ?_
  refine sp (pB b 0) ?_
  refine s_lt (t_load 2 v14) ?_
  refine s_lt (t_len RxT_ok Tryz.underlying102 (.own 3)) ?_
  refine s_lt (t_kern (.agg #[.int .i64 o.kind, .int .i64 0, .int .i64 0, .string ByteArray.empty, .int .i64 ((L5 ++ [(⟨some o, tp, uv, rv⟩ : Rx)]).length : Int)])) ?_
  refine s_store 6 #[.int .i64 o.kind, .int .i64 0, .int .i64 0, .string ByteArray.empty, .int .i64 ((L5 ++ [(⟨some o, tp, uv, rv⟩ : Rx)]).length : Int)] ?_
  refine sp (.int .i64 0) ?_
  refine s_nil ?_
  refine x_dynS (fun _ h => by obtain ⟨_, _, e⟩ := hf15; subst e; kernel_rfl) ?_
  refine xs_then ?_
  refine k_ret ?_
  have hf : st.count < 65536 := by omega
  refine xs_mem (fun _ h => rall_add (h.re [8, 5] [])) ?_
  refine xs_mem (fun _ h => rh_shut (st := (hmake st o)) (n := ((st.count : Int) + 1)) (T := (st.tch ++ [true])) ⟨⟨⟨hmake_inv hi6 hob, by rw [hmake_eq hf]; exact rx_snoc (x := ⟨some o, tp, uv, rv⟩) hL7 rfl _⟩, by rw [hmake_eq hf, count_snoc]; rfl⟩, by rw [hmake_eq hf]⟩ (h.re [3, 3, 3, 0] [])) ?_
  refine xs_fin [.agg #[.int .i64 o.kind, .int .i64 0, .int .i64 0, .string ByteArray.empty, .int .i64 ((L5 ++ [(⟨some o, tp, uv, rv⟩ : Rx)]).length : Int)], .int .i64 0] (rhA b (hmake st o) :: F) (SI.agg 4 26 3 (SI.tmp 5 SI.nil)) (fun _ h => h.re [0] [1, 1, 1, 1]) ⟨?_, rfl⟩
  rw [(hmakeV_ok hf).1, (hmakeV_ok (k := 0) hf).2]; exact congrArg (fun v : Vl => pairV v 0) (congrArg (refV o.kind) (by have h5 := rx_len hL7; rw [List.length_append, h5]; rfl))
theorem rhnewtable_s {Z : Zone} {F : List Asr} {b : Nat} {st : Hst} (hl : st.objs.length ≤ 1000000) : SF Tryz.prog 26 #[.pointer (some ⟨b, 0, none⟩)] Z (rhA b st :: F) fun r Bs => r = pairV (hmakeV st 4) (hmakeE st) ∧ Bs = rhA b (hmake st (newO 4 0 ByteArray.empty [])) :: F := by
 refine sf_enter Tryz.func26 13 [(0, pB b 0)] (fun w0 => ?_)
 refine k_sr ?_
 refine s_alloc (.agg #[.int .i64 0, .int .i64 0, .int .i64 0, .string ByteArray.empty, .int .i64 0]) #[.int .i64 0, .int .i64 0, .int .i64 0, .string ByteArray.empty, .int .i64 0] (fun g1 => ?_)
 refine sp (.int .i64 0) ?_
 refine s_nt ?_
 refine k_seq ?_
 refine k_sr ?_
 refine sp (pB b 0) ?_
 refine sp (.bool false) ?_
 refine s_nt ?_
 refine k_false ?_
 refine k_st ?_
 refine k_sr ?_
 refine sp (pB b 0) ?_
 refine s_pcall (fun _ h => rtnew_s) ?_
 rintro _ _ ⟨tg2, rfl, rfl⟩
 refine s_lt (t_kern (.agg #[.int .i64 4, .int .i64 0, .string ByteArray.empty, pB tg2 0, .int .i64 0, .int .i64 0, .int .i64 0, .string ByteArray.empty, .int .i64 0, (.slice none 0 0), (.slice none 0 0)])) ?_
 refine s_mem (fun _ h => Holds.nilS (T := VlT) h) ?_
 refine s_mem (fun _ h => Holds.nilS (T := VlT) h) ?_
 refine s_mem (fun _ h => rtO_shut (tp := tg2) (o := (newO 4 0 ByteArray.empty [])) (T := noTb) rfl (h.re [2] [])) ?_
 refine s_mem (fun _ h => show Holds _ (roP ⟨some (newO 4 0 ByteArray.empty []), tg2, ⟨none, 0, 0⟩, ⟨none, 0, 0⟩⟩ :: _) _ from Holds.star_in (L := [own VlT (Sv.v ⟨none, 0, 0⟩) (usr (newO 4 0 ByteArray.empty [])), own VlT (Sv.v ⟨none, 0, 0⟩) (rfs (newO 4 0 ByteArray.empty [])), rtO tg2 (newO 4 0 ByteArray.empty [])]) (h.re [2, 1, 0] [])) ?_
 refine s_call [2, 0] (radd_s (st := st) (o := (newO 4 0 ByteArray.empty [])) (tp := tg2) (uv := ⟨none, 0, 0⟩) (rv := ⟨none, 0, 0⟩) (newO_inv _ _ _ (by decide)) (by omega)) ?_
 rintro _ _ ⟨rfl, rfl⟩
 refine sp (.agg #[.int .i64 ((hmakeV st 4).kind), .int .i64 ((hmakeV st 4).p), .int .i64 ((hmakeV st 4).q), .string ((hmakeV st 4).str), .int .i64 ((hmakeV st 4).ref)]) ?_
 refine sp (.int .i64 (hmakeE st)) ?_
 refine s_store 1 #[.int .i64 ((hmakeV st 4).kind), .int .i64 ((hmakeV st 4).p), .int .i64 ((hmakeV st 4).q), .string ((hmakeV st 4).str), .int .i64 ((hmakeV st 4).ref)] ?_
 refine sp (.int .i64 (hmakeE st)) ?_
 refine s_nt ?_
 refine k_ret ?_
 exact xs_fin [.agg #[.int .i64 ((hmakeV st 4).kind), .int .i64 ((hmakeV st 4).p), .int .i64 ((hmakeV st 4).q), .string ((hmakeV st 4).str), .int .i64 ((hmakeV st 4).ref)], .int .i64 (hmakeE st)] (rhA b (hmake st (newO 4 0 ByteArray.empty [])) :: F) (SI.agg 2 26 1 (SI.tmp 3 SI.nil)) (fun _ h => h.re [0] [1]) ⟨rfl, rfl⟩
theorem rhnewfunc_s {Z : Zone} {F : List Asr} {b : Nat} {st : Hst} (hl : st.objs.length ≤ 1000000) (tag : Int) : SF Tryz.prog 30 #[.pointer (some ⟨b, 0, none⟩), .int .i64 tag] Z (rhA b st :: F) fun r Bs => r = pairV (hmakeV st 5) (hmakeE st) ∧ Bs = rhA b (hmake st (newO 5 tag ByteArray.empty [])) :: F := by
 refine sf_enter Tryz.func30 15 [(0, pB b 0), (1, .int .i64 tag)] (fun w0 => ?_)
 refine k_sr ?_
 refine s_alloc (.agg #[.int .i64 0, .int .i64 0, .int .i64 0, .string ByteArray.empty, .int .i64 0]) #[.int .i64 0, .int .i64 0, .int .i64 0, .string ByteArray.empty, .int .i64 0] (fun g1 => ?_)
 refine sp (.int .i64 0) ?_
 refine s_nt ?_
 refine k_seq ?_
 refine k_sr ?_
 refine sp (pB b 0) ?_
 refine sp (.bool false) ?_
 refine s_nt ?_
 refine k_false ?_
 refine k_st ?_
 refine k_sr ?_
 refine sp (pB b 0) ?_
 refine sp (.int .i64 tag) ?_
 refine s_lt (t_kern (.agg #[.int .i64 5, .int .i64 tag, .string ByteArray.empty, .pointer none, .int .i64 0, .int .i64 0, .int .i64 0, .string ByteArray.empty, .int .i64 0, (.slice none 0 0), (.slice none 0 0)])) ?_
 refine s_mem (fun _ h => Holds.nilS (T := VlT) h) ?_
 refine s_mem (fun _ h => Holds.nilS (T := VlT) h) ?_
 refine s_mem (fun _ h => rtO_none (tp := 0) (o := (newO 5 tag ByteArray.empty [])) (show (5 : Int) ≠ 4 by decide) h) ?_
 refine s_mem (fun _ h => show Holds _ (roP ⟨some (newO 5 tag ByteArray.empty []), 0, ⟨none, 0, 0⟩, ⟨none, 0, 0⟩⟩ :: _) _ from Holds.star_in (L := [own VlT (Sv.v ⟨none, 0, 0⟩) (usr (newO 5 tag ByteArray.empty [])), own VlT (Sv.v ⟨none, 0, 0⟩) (rfs (newO 5 tag ByteArray.empty [])), rtO 0 (newO 5 tag ByteArray.empty [])]) (h.re [2, 1, 0] [])) ?_
 refine s_call [2, 0] (radd_s (st := st) (o := (newO 5 tag ByteArray.empty [])) (tp := 0) (uv := ⟨none, 0, 0⟩) (rv := ⟨none, 0, 0⟩) (newO_inv _ _ _ (by decide)) (by omega)) ?_
 rintro _ _ ⟨rfl, rfl⟩
 refine sp (.agg #[.int .i64 ((hmakeV st 5).kind), .int .i64 ((hmakeV st 5).p), .int .i64 ((hmakeV st 5).q), .string ((hmakeV st 5).str), .int .i64 ((hmakeV st 5).ref)]) ?_
 refine sp (.int .i64 (hmakeE st)) ?_
 refine s_store 1 #[.int .i64 ((hmakeV st 5).kind), .int .i64 ((hmakeV st 5).p), .int .i64 ((hmakeV st 5).q), .string ((hmakeV st 5).str), .int .i64 ((hmakeV st 5).ref)] ?_
 refine sp (.int .i64 (hmakeE st)) ?_
 refine s_nt ?_
 refine k_ret ?_
 exact xs_fin [.agg #[.int .i64 ((hmakeV st 5).kind), .int .i64 ((hmakeV st 5).p), .int .i64 ((hmakeV st 5).q), .string ((hmakeV st 5).str), .int .i64 ((hmakeV st 5).ref)], .int .i64 (hmakeE st)] (rhA b (hmake st (newO 5 tag ByteArray.empty [])) :: F) (SI.agg 4 26 1 (SI.tmp 5 SI.nil)) (fun _ h => h.re [0] [1]) ⟨rfl, rfl⟩
theorem rhnewdata_s {Z : Zone} {F : List Asr} {b : Nat} {st : Hst} (hl : st.objs.length ≤ 1000000) (name : ByteArray) : SF Tryz.prog 28 #[.pointer (some ⟨b, 0, none⟩), .string name] Z (rhA b st :: F) fun r Bs => r = pairV (hdataV st name) (hdataE st name) ∧ Bs = rhA b (hdata st name) :: F := by
 refine sf_enter Tryz.func28 31 [(0, pB b 0), (1, .string name)] (fun w0 => ?_)
 refine k_sr ?_
 refine s_alloc (.agg #[.int .i64 0, .int .i64 0, .int .i64 0, .string ByteArray.empty, .int .i64 0]) #[.int .i64 0, .int .i64 0, .int .i64 0, .string ByteArray.empty, .int .i64 0] (fun g1 => ?_)
 refine sp (.int .i64 0) ?_
 refine s_nt ?_
 refine k_seq ?_
 refine k_sr ?_
 refine sp (pB b 0) ?_
 refine sp (.bool false) ?_
 refine s_nt ?_
 refine k_false ?_
 refine k_st ?_
 refine k_seq ?_
 refine k_sr ?_
 refine sp (.string name) ?_
 refine s_lt (t_kern (.int .i64 (name.size : Int))) ?_
 refine s_lt t_cmp ?_
 refine s_nt ?_
 refine k_cond (decide ((40 : Int) < (name.size : Int))) (fun c2 => ?_) (fun c2 => ?_)
 ·
  have p3 := of_decide_eq_true c2
  refine k_sr ?_
  refine s_lt (t_kern (.agg #[.int .i64 0, .int .i64 0, .int .i64 0, .string ByteArray.empty, .int .i64 0])) ?_
  refine s_store 0 #[.int .i64 0, .int .i64 0, .int .i64 0, .string ByteArray.empty, .int .i64 0] ?_
  refine sp (.int .i64 14) ?_
  refine s_nt ?_
  refine k_ret ?_
  refine xs_ret ?_
  have hp := of_decide_eq_true c2
  refine xs_fin [.agg #[.int .i64 0, .int .i64 0, .int .i64 0, .string ByteArray.empty, .int .i64 0], .int .i64 14] (rhA b st :: F) (SI.agg 4 26 0 (SI.tmp 5 SI.nil)) (fun _ h => h.re [1] [1]) ⟨?_, ?_⟩
  · unfold hdataV hdataE; rw [if_pos hp, if_pos hp]; rfl
  · unfold hdata; rw [if_pos hp]
 ·
  have p4 := of_decide_eq_false c2
  refine k_st ?_
  refine k_sr ?_
  refine s_buildSlice (e := 26) [] #[] (fun g5 => ?_) (hb := by kernel_rfl)
  refine sp (.slice (some ⟨g5, 0, none⟩) 0 0) ?_
  refine s_nt ?_
  refine k_seq ?_
  refine k_sr ?_
  refine sp (.int .i64 0) ?_
  refine s_nt ?_
  refine k_block ?_
  refine k_mem (fun _ h => Holds.slice 0 h VlT_ok []) ?_
  refine k_mem (Bs := own VlT (.slice (some ⟨g5, 0, none⟩) 0 0) (List.replicate 0 zVl) :: blkA g1 #[.int .i64 0, .int .i64 0, .int .i64 0, .string ByteArray.empty, .int .i64 0] 26 :: rhA b st :: F) (fun _ h => h) ?_
  refine k_loop (ι := Value × Nat) (fun (lx, i) => i ≤ 16) (fun (lx, i) => [(0, pB b 0), (1, .string name), (4, pB g1 0), (6, lx), (7, .int .i64 (i : Int))]) (fun (lx, i) => own VlT lx (List.replicate i zVl) :: blkA g1 #[.int .i64 0, .int .i64 0, .int .i64 0, .string ByteArray.empty, .int .i64 0] 26 :: rhA b st :: F) (fun (lx, i) => 16 - i) ((.slice (some ⟨g5, 0, none⟩) 0 0), 0) (Nat.zero_le _) (sub_of rfl ⟨⟨rfl, rfl⟩, ⟨⟨rfl, rfl⟩, ⟨⟨rfl, rfl⟩, ⟨⟨rfl, rfl⟩, ⟨⟨rfl, rfl⟩, trivial⟩⟩⟩⟩⟩) (fun _ h => h.re [0, 0, 0] []) ?_
  rintro ⟨lx, i⟩ hi6
  replace hi6 : i ≤ 16 := hi6
  show SK _ _ _ _ _ [(0, .pointer (some ⟨b, 0, none⟩)), (1, .string name), (4, .pointer (some ⟨g1, 0, none⟩)), (6, lx), (7, .int .i64 (i : Int))] _ (own VlT lx (List.replicate i zVl) :: blkA g1 #[.int .i64 0, .int .i64 0, .int .i64 0, .string ByteArray.empty, .int .i64 0] 26 :: rhA b st :: F)
  refine k_seq ?_
  refine k_sr ?_
  refine sp (.int .i64 (i : Int)) ?_
  refine s_lt t_cmp ?_
  refine s_nt ?_
  refine k_cond (decide ((i : Int) < 16)) (fun c7 => ?_) (fun c7 => ?_)
  ·
   have p8 := of_decide_eq_true c7
   refine k_st ?_
   refine k_seq ?_
   refine k_block ?_
   refine k_reg ?_
   refine sp lx ?_
   refine s_lt (t_kern (.agg #[.int .i64 0, .int .i64 0, .int .i64 0, .string ByteArray.empty, .int .i64 0])) ?_
   refine s_buildSlice (e := 26) [(0, .agg #[.int .i64 0, .int .i64 0, .int .i64 0, .string ByteArray.empty, .int .i64 0])] #[.int .i64 0, .int .i64 0, .int .i64 0, .string ByteArray.empty, .int .i64 0] (fun g9 => ?_) (hb := by kernel_rfl)
   refine s_append (L := (List.replicate i zVl)) 1 VlT_ok Tryz.underlying33 (.lit 0 VlT_ok [zVl]) (by show _ * 48 ≤ _; (try simp only [lnm]); omega) (by (try simp only [lnm]); omega) (fun v10 => ?_)
   refine sp v10 ?_
   refine s_nil ?_
   refine xs_block ?_
   refine xs_then ?_
   refine k_reg ?_
   refine sp (.int .i64 (i : Int)) ?_
   refine s_lt (t_add (i : Int) 1 (by (try simp only [lnm]); omega)) ?_
   refine sp (.int .i64 ((i : Int) + 1)) ?_
   refine s_nil ?_
   rw [show List.replicate i zVl ++ [zVl] = List.replicate (i + 1) zVl from List.replicate_succ'.symm]
   exact xs_round (v10, i + 1) (by show 16 - (i + 1) < 16 - i; omega) (by show i + 1 ≤ 16; omega) (sub_of rfl ⟨⟨rfl, rfl⟩, ⟨⟨rfl, rfl⟩, ⟨⟨rfl, rfl⟩, ⟨⟨rfl, rfl⟩, ⟨⟨rfl, rfl⟩, trivial⟩⟩⟩⟩⟩) (fun _ h => h.re [1, 1, 1] [3])
  ·
   have p11 := of_decide_eq_false c7
   refine k_exit ?_
   obtain rfl : i = 16 := by omega
   refine xs_exit ?_
   refine xs_exit ?_
   refine xs_here ?_
   refine xs_then ?_
   refine k_sr ?_
   refine sp (pB b 0) ?_
   refine sp (.string name) ?_
   refine sp lx ?_
   refine s_fact (fun H h => ((Acc.own (T := VlT) (L := (List.replicate 16 zVl)) 0 rfl) H h).form) (fun hf12 => ?_)
   refine s_lt (show Lt _ _ _ _ _ (.agg #[.int .i64 8, .int .i64 0, .string name, .pointer none, .int .i64 0, .int .i64 0, .int .i64 0, .string ByteArray.empty, .int .i64 0, lx, (.slice none 0 0)]) from by obtain ⟨_, _, e⟩ := hf12; rw [e]; clear e; exact t_kern _) ?_
   refine s_fact (fun H h => ((Acc.own (T := VlT) (L := (List.replicate 16 zVl)) 0 rfl) H h).form) (fun hfm => ?_)
   obtain ⟨p13, cp14, hev⟩ := hfm
   subst hev
   refine s_mem (fun _ h => Holds.nilS (T := VlT) h) ?_
   refine s_mem (fun _ h => rtO_none (tp := 0) (o := (newO 8 0 name (List.replicate 16 zVl))) (show (8 : Int) ≠ 4 by decide) h) ?_
   refine s_mem (fun _ h => show Holds _ (roP ⟨some (newO 8 0 name (List.replicate 16 zVl)), 0, ⟨p13, (List.replicate 16 zVl).length, cp14⟩, ⟨none, 0, 0⟩⟩ :: _) _ from Holds.star_in (L := [own VlT (Sv.v ⟨p13, (List.replicate 16 zVl).length, cp14⟩) (usr (newO 8 0 name (List.replicate 16 zVl))), own VlT (Sv.v ⟨none, 0, 0⟩) (rfs (newO 8 0 name (List.replicate 16 zVl))), rtO 0 (newO 8 0 name (List.replicate 16 zVl))]) (h.re [2, 1, 0] [])) ?_
   refine s_call [2, 0] (radd_s (st := st) (o := (newO 8 0 name (List.replicate 16 zVl))) (tp := 0) (uv := ⟨p13, (List.replicate 16 zVl).length, cp14⟩) (rv := ⟨none, 0, 0⟩) (newO_inv _ _ _ (by decide)) (by omega)) ?_
   rintro _ _ ⟨rfl, rfl⟩
   refine sp (.agg #[.int .i64 ((hmakeV st 8).kind), .int .i64 ((hmakeV st 8).p), .int .i64 ((hmakeV st 8).q), .string ((hmakeV st 8).str), .int .i64 ((hmakeV st 8).ref)]) ?_
   refine sp (.int .i64 (hmakeE st)) ?_
   refine s_store 1 #[.int .i64 ((hmakeV st 8).kind), .int .i64 ((hmakeV st 8).p), .int .i64 ((hmakeV st 8).q), .string ((hmakeV st 8).str), .int .i64 ((hmakeV st 8).ref)] ?_
   refine sp (.int .i64 (hmakeE st)) ?_
   refine s_nt ?_
   refine k_ret ?_
   have hp := of_decide_eq_false c2
   refine xs_fin [.agg #[.int .i64 ((hmakeV st 8).kind), .int .i64 ((hmakeV st 8).p), .int .i64 ((hmakeV st 8).q), .string ((hmakeV st 8).str), .int .i64 ((hmakeV st 8).ref)], .int .i64 (hmakeE st)] (rhA b (hmake st (newO 8 0 name (List.replicate 16 zVl))) :: F) (SI.agg 4 26 1 (SI.tmp 5 SI.nil)) (fun _ h => h.re [0] [1]) ⟨?_, ?_⟩
   · unfold hdataV hdataE; rw [if_neg hp, if_neg hp]; rfl
   · unfold hdata; rw [if_neg hp] <;> rfl
theorem rhnew_s {Z : Zone} : SF Tryz.prog 25 #[] Z [] fun r Bs => ∃ b, r = .pointer (some ⟨b, 0, none⟩) ∧ Bs = [rhA b hp0] := by
 refine sf_enter Tryz.func25 3 [] (fun w0 => ?_)
 refine k_sr ?_
 refine sp (.pointer none) ?_
 refine s_nr ?_
 refine s_lt (t_kern (.agg #[(.slice none 0 0), .int .i64 0, (.slice none 0 0)])) ?_
 refine s_box #[(.slice none 0 0), .int .i64 0, (.slice none 0 0)] (fun g1 => ?_)
 refine sp (pB g1 0) ?_
 refine s_nt ?_
 refine k_ret ?_
 refine xs_fin [pB g1 0] [rhA g1 hp0] (SI.tmp 0 SI.nil) (fun _ h => rh_shut (b := g1) (st := hp0) (L := []) (T := []) (v := .slice none 0 0) (tv := .slice none 0 0) ⟨⟨⟨HInv.nil, rfl⟩, rfl⟩, rfl⟩ ((Holds.nilS (T := RxT) (Holds.nilS (T := bTy) (Holds.star_nil h))).re [3, 0, 0, 0] [])) ⟨g1, rfl, rfl⟩
end Go.Proofs.YtplkkhpokodbmaaGreatDoor
end
section
set_option linter.unusedSimpArgs false
set_option linter.unusedVariables false
set_option maxRecDepth 100000
set_option maxHeartbeats 2000000
namespace Go.Proofs.YtplkkhpokodbmaaGreatDoor
open Go.Hp Go.J Go.S
open Go.Mem (Ty KTy blk elemAt pre suf blk_pre blk_suf aget aset strK aggDesc)
open Go.Mem (adel apos aget_aset aget_adel)
structure Spc where
  v : Vl
  obj : Int
structure Opc where
  kind : Int
  a : Spc
  b : Spc
  c : Spc
def Spc.w (x : Spc) : Value := .agg #[.int .i64 x.v.kind, .int .i64 x.v.p, .int .i64 x.v.q, .string x.v.str, .int .i64 x.v.ref, .int .i64 x.obj]
def Opc.w (x : Opc) : Value := .agg #[.int .i64 x.kind, .int .i64 x.a.v.kind, .int .i64 x.a.v.p, .int .i64 x.a.v.q, .string x.a.v.str, .int .i64 x.a.v.ref, .int .i64 x.a.obj, .int .i64 x.b.v.kind, .int .i64 x.b.v.p, .int .i64 x.b.v.q, .string x.b.v.str, .int .i64 x.b.v.ref, .int .i64 x.b.obj, .int .i64 x.c.v.kind, .int .i64 x.c.v.p, .int .i64 x.c.v.q, .string x.c.v.str, .int .i64 x.c.v.ref, .int .i64 x.c.obj]
def SpT : Ty Spc := ⟨28, 6, 56, true, Spc.w, ⟨zVl, 0⟩⟩
theorem SpT_ok : SpT.Ok Tryz.prog := ok_of SpT _ Tryz.t28 (by decide) (fun _ => rfl) (fun x u hu => by simp [Ty.enc, SpT, Spc.w, Value.cells] at hu; rcases hu with rfl | rfl | rfl | rfl | rfl | rfl <;> rfl) (fun _ => rfl) Tryz.underlying28 rfl (fun h => by cases h) (by kernel_rfl) (by kernel_rfl) (by kernel_rfl) (by kernel_rfl)
def OpT : Ty Opc := ⟨54, 19, 176, true, Opc.w, ⟨0, ⟨zVl, 0⟩, ⟨zVl, 0⟩, ⟨zVl, 0⟩⟩⟩
theorem OpT_ok : OpT.Ok Tryz.prog := ok_of OpT _ Tryz.t54 (by decide) (fun _ => rfl) (fun x u hu => by simp [Ty.enc, OpT, Opc.w, Value.cells] at hu; rcases hu with rfl | rfl | rfl | rfl | rfl | rfl | rfl | rfl | rfl | rfl | rfl | rfl | rfl | rfl | rfl | rfl | rfl | rfl | rfl <;> rfl) (fun _ => rfl) Tryz.underlying54 rfl (fun h => by cases h) (by kernel_rfl) (by kernel_rfl) (by kernel_rfl) (by kernel_rfl)
theorem ofstr_s {Z : Zone} (s : ByteArray) : SF Tryz.prog 39 #[.string s] Z [] fun r Bs => r = (strV s).v ∧ Bs = [] := by
 refine sf_enter Tryz.func39 5 [(0, .string s)] (fun w0 => ?_)
 refine k_sr ?_
 refine s_alloc (.agg #[.int .i64 0, .int .i64 0, .int .i64 0, .string ByteArray.empty, .int .i64 0]) #[.int .i64 0, .int .i64 0, .int .i64 0, .string ByteArray.empty, .int .i64 0] (fun g1 => ?_)
 refine s_nr ?_
 refine sp (.string s) ?_
 refine s_lt (t_kern (.agg #[.int .i64 3, .int .i64 0, .int .i64 0, .string s, .int .i64 0])) ?_
 refine s_store 0 #[.int .i64 3, .int .i64 0, .int .i64 0, .string s, .int .i64 0] ?_
 refine s_nt ?_
 refine k_ret ?_
 exact xs_fin [.agg #[.int .i64 3, .int .i64 0, .int .i64 0, .string s, .int .i64 0]] [] (SI.agg 2 26 0 SI.nil) (fun _ h => h.re [] [0]) ⟨rfl, rfl⟩
theorem rtext_s {Z : Zone} (s : ByteArray) : SF Tryz.prog 91 #[.string s] Z [] fun r Bs => r = (strV s).v ∧ Bs = [] := by
 refine sf_enter Tryz.func91 5 [(0, .string s)] (fun w0 => ?_)
 refine k_sr ?_
 refine s_alloc (.agg #[.int .i64 0, .int .i64 0, .int .i64 0, .string ByteArray.empty, .int .i64 0]) #[.int .i64 0, .int .i64 0, .int .i64 0, .string ByteArray.empty, .int .i64 0] (fun g1 => ?_)
 refine s_nr ?_
 refine sp (.string s) ?_
 refine s_lt (t_kern (.agg #[.int .i64 3, .int .i64 0, .int .i64 0, .string s, .int .i64 0])) ?_
 refine s_store 0 #[.int .i64 3, .int .i64 0, .int .i64 0, .string s, .int .i64 0] ?_
 refine s_nt ?_
 refine k_ret ?_
 exact xs_fin [.agg #[.int .i64 3, .int .i64 0, .int .i64 0, .string s, .int .i64 0]] [] (SI.agg 2 26 0 SI.nil) (fun _ h => h.re [] [0]) ⟨rfl, rfl⟩
theorem lstr_s {Z : Zone} (s : ByteArray) : SF Tryz.prog 23 #[.string s] Z [] fun r Bs => r = (strV s).v ∧ Bs = [] := by
 refine sf_enter Tryz.func23 5 [(0, .string s)] (fun w0 => ?_)
 refine k_sr ?_
 refine s_alloc (.agg #[.int .i64 0, .int .i64 0, .int .i64 0, .string ByteArray.empty, .int .i64 0]) #[.int .i64 0, .int .i64 0, .int .i64 0, .string ByteArray.empty, .int .i64 0] (fun g1 => ?_)
 refine s_nr ?_
 refine sp (.string s) ?_
 refine s_lt (t_kern (.agg #[.int .i64 3, .int .i64 0, .int .i64 0, .string s, .int .i64 0])) ?_
 refine s_store 0 #[.int .i64 3, .int .i64 0, .int .i64 0, .string s, .int .i64 0] ?_
 refine s_nt ?_
 refine k_ret ?_
 exact xs_fin [.agg #[.int .i64 3, .int .i64 0, .int .i64 0, .string s, .int .i64 0]] [] (SI.agg 2 26 0 SI.nil) (fun _ h => h.re [] [0]) ⟨rfl, rfl⟩
/-- The metamethod of a value. -/
def hdl (st : Hst) (v : Vl) (ev : ByteArray) : Vl := if (hmeta st v).kind = 0 then zVl else hgetV st (hmeta st v) (strV ev)
theorem hget_kind {st : Hst} {m k : Vl} (h : m.kind ≠ 4) : hgetV st m k = zVl := by
  refine hgetV_none ?_
  cases hf : hfind st m with
  | none => exact htab_none hf
  | some o => exact htab_not hf (by rw [(hfind_some hf).2]; exact h)
theorem hdl_s {Z : Zone} {F : List Asr} {b : Nat} {st : Hst} {n : Nat} (hsm : HSm n st) (hn : n ≤ 300) (v : Vl) (ev : ByteArray) : SF Tryz.prog 14 #[.pointer (some ⟨b, 0, none⟩), v.v, .string ev] Z (hpA b st :: F) fun r Bs => r = (hdl st v ev).v ∧ Bs = hpA b st :: F := by
 refine sf_enter Tryz.func14 26 [(0, pB b 0), (1, .agg #[.int .i64 v.kind, .int .i64 v.p, .int .i64 v.q, .string v.str, .int .i64 v.ref]), (2, .string ev)] (fun w0 => ?_)
 have hlen0 := hsm.len
 refine k_sr ?_
 refine s_box #[.int .i64 v.kind, .int .i64 v.p, .int .i64 v.q, .string v.str, .int .i64 v.ref] (fun g1 => ?_)
 refine s_alloc (.agg #[.int .i64 0, .int .i64 0, .int .i64 0, .string ByteArray.empty, .int .i64 0]) #[.int .i64 0, .int .i64 0, .int .i64 0, .string ByteArray.empty, .int .i64 0] (fun g2 => ?_)
 refine s_nr ?_
 refine sp (pB b 0) ?_
 refine s_lt (t_loadA 1 #[.int .i64 v.kind, .int .i64 v.p, .int .i64 v.q, .string v.str, .int .i64 v.ref]) ?_
 refine s_call [2] (hmeta_s (st := st) v) ?_
 rintro _ _ ⟨rfl, rfl⟩
 refine s_alloc (.agg #[.int .i64 0, .int .i64 0, .int .i64 0, .string ByteArray.empty, .int .i64 0]) #[.int .i64 0, .int .i64 0, .int .i64 0, .string ByteArray.empty, .int .i64 0] (fun g3 => ?_)
 refine s_store 0 #[.int .i64 ((hmeta st v).kind), .int .i64 ((hmeta st v).p), .int .i64 ((hmeta st v).q), .string ((hmeta st v).str), .int .i64 ((hmeta st v).ref)] ?_
 refine s_nt ?_
 refine k_seq ?_
 refine k_sr ?_
 refine sp (pB g3 0) ?_
 refine s_lt (t_load 0 (.int .i64 ((hmeta st v).kind))) ?_
 refine s_lt t_cmp ?_
 refine s_nt ?_
 refine k_cond (decide ((hmeta st v).kind = 0)) (fun c4 => ?_) (fun c4 => ?_)
 ·
  have p5 := of_decide_eq_true c4
  refine k_sr ?_
  refine s_lt (t_kern (.agg #[.int .i64 0, .int .i64 0, .int .i64 0, .string ByteArray.empty, .int .i64 0])) ?_
  refine s_store 2 #[.int .i64 0, .int .i64 0, .int .i64 0, .string ByteArray.empty, .int .i64 0] ?_
  refine s_nt ?_
  refine k_ret ?_
  refine xs_ret ?_
  refine xs_fin [.agg #[.int .i64 0, .int .i64 0, .int .i64 0, .string ByteArray.empty, .int .i64 0]] (hpA b st :: F) (SI.agg 6 26 2 SI.nil) (fun _ h => h.re [1] [1, 1, 1]) ⟨?_, rfl⟩
  unfold hdl; rw [if_pos (of_decide_eq_true c4)]; rfl
 ·
  have p6 := of_decide_eq_false c4
  refine k_st ?_
  refine k_seq ?_
  refine k_held [blkA g3 #[.int .i64 ((hmeta st v).kind), .int .i64 ((hmeta st v).p), .int .i64 ((hmeta st v).q), .string ((hmeta st v).str), .int .i64 ((hmeta st v).ref)] 26, blkA g2 #[.int .i64 0, .int .i64 0, .int .i64 0, .string ByteArray.empty, .int .i64 0] 26, blkA g1 #[.int .i64 v.kind, .int .i64 v.p, .int .i64 v.q, .string v.str, .int .i64 v.ref] 26] ?_
  refine hp_ 0 [0, 1, 1] (pB b 0) ?_
  refine h_l 1 rfl [0, 1, 1] (fun _ => (t_loadA 0 #[.int .i64 ((hmeta st v).kind), .int .i64 ((hmeta st v).p), .int .i64 ((hmeta st v).q), .string ((hmeta st v).str), .int .i64 ((hmeta st v).ref)])) ?_
  refine hp_ 2 [0, 1, 1] (.string ev) ?_
  refine h_join (ι := Nat) 2 #[true, true, true, true, true, true, true, true, true, false, false] (fun g7 => [(6, pB g2 0), (8, pB g7 0), (23, .agg #[.int .i64 ((hgetV st (hmeta st v) (strV ev)).kind), .int .i64 ((hgetV st (hmeta st v) (strV ev)).p), .int .i64 ((hgetV st (hmeta st v) (strV ev)).q), .string ((hgetV st (hmeta st v) (strV ev)).str), .int .i64 ((hgetV st (hmeta st v) (strV ev)).ref)]), (24, .int .i64 (hgetE st (hmeta st v)))]) (fun g7 => blkA g7 #[.int .i64 0, .int .i64 0, .int .i64 0, .string ByteArray.empty, .int .i64 0] 26 :: hpA b st :: blkA g3 #[.int .i64 ((hmeta st v).kind), .int .i64 ((hmeta st v).p), .int .i64 ((hmeta st v).q), .string ((hmeta st v).str), .int .i64 ((hmeta st v).ref)] 26 :: blkA g2 #[.int .i64 0, .int .i64 0, .int .i64 0, .string ByteArray.empty, .int .i64 0] 26 :: blkA g1 #[.int .i64 v.kind, .int .i64 v.p, .int .i64 v.q, .string v.str, .int .i64 v.ref] 26 :: F) ?_ (fun hj10 => ?_)
  ·
   rintro g7
   try dsimp only
   refine h_stepS 9 ?_
   refine s_store 0 #[.int .i64 ((hgetV st (hmeta st v) (strV ev)).kind), .int .i64 ((hgetV st (hmeta st v) (strV ev)).p), .int .i64 ((hgetV st (hmeta st v) (strV ev)).q), .string ((hgetV st (hmeta st v) (strV ev)).str), .int .i64 ((hgetV st (hmeta st v) (strV ev)).ref)] ?_
   refine s_nil (xs_held [2, 2, 2] ?_)
   refine hp_ 10 [2, 2, 2] (.int .i64 (hgetE st (hmeta st v))) ?_
   refine h_doneS ?_
   refine xs_then ?_
   refine k_sr ?_
   refine s_lt (t_loadA 0 #[.int .i64 ((hgetV st (hmeta st v) (strV ev)).kind), .int .i64 ((hgetV st (hmeta st v) (strV ev)).p), .int .i64 ((hgetV st (hmeta st v) (strV ev)).q), .string ((hgetV st (hmeta st v) (strV ev)).str), .int .i64 ((hgetV st (hmeta st v) (strV ev)).ref)]) ?_
   refine s_store 3 #[.int .i64 ((hgetV st (hmeta st v) (strV ev)).kind), .int .i64 ((hgetV st (hmeta st v) (strV ev)).p), .int .i64 ((hgetV st (hmeta st v) (strV ev)).q), .string ((hgetV st (hmeta st v) (strV ev)).str), .int .i64 ((hgetV st (hmeta st v) (strV ev)).ref)] ?_
   refine s_nt ?_
   refine k_ret ?_
   refine xs_fin [.agg #[.int .i64 ((hgetV st (hmeta st v) (strV ev)).kind), .int .i64 ((hgetV st (hmeta st v) (strV ev)).p), .int .i64 ((hgetV st (hmeta st v) (strV ev)).q), .string ((hgetV st (hmeta st v) (strV ev)).str), .int .i64 ((hgetV st (hmeta st v) (strV ev)).ref)]] (hpA b st :: F) (SI.agg 6 26 3 SI.nil) (fun _ h => h.re [1] [1, 1, 1, 1]) ⟨?_, rfl⟩
   unfold hdl; rw [if_neg (of_decide_eq_false c4)]; rfl
  refine h_join (ι := Nat) 6 #[true, true, true, true, false, false, false, false, true, false, false] (fun g8 => [(6, pB g2 0), (8, pB g8 0), (18, pB b 0), (19, .agg #[.int .i64 ((hmeta st v).kind), .int .i64 ((hmeta st v).p), .int .i64 ((hmeta st v).q), .string ((hmeta st v).str), .int .i64 ((hmeta st v).ref)]), (21, .agg #[.int .i64 ((strV ev).kind), .int .i64 ((strV ev).p), .int .i64 ((strV ev).q), .string ((strV ev).str), .int .i64 ((strV ev).ref)])]) (fun g8 => blkA g8 #[.int .i64 0, .int .i64 0, .int .i64 0, .string ByteArray.empty, .int .i64 0] 26 :: blkA g3 #[.int .i64 ((hmeta st v).kind), .int .i64 ((hmeta st v).p), .int .i64 ((hmeta st v).q), .string ((hmeta st v).str), .int .i64 ((hmeta st v).ref)] 26 :: hpA b st :: blkA g2 #[.int .i64 0, .int .i64 0, .int .i64 0, .string ByteArray.empty, .int .i64 0] 26 :: blkA g1 #[.int .i64 v.kind, .int .i64 v.p, .int .i64 v.q, .string v.str, .int .i64 v.ref] 26 :: F) ?_ (fun hj11 => ?_)
  ·
   rintro g8
   try dsimp only
   refine h_stepS 4 ?_
   refine s_call [2] (hget_s (st := st) hsm (by omega) (hmeta st v) (strV ev)) ?_
   rintro _ _ ⟨rfl, rfl⟩
   refine s_nil (xs_held [2, 2, 2] ?_)
   refine hp_ 5 [2, 2, 2] (.tuple #[.agg #[.int .i64 ((hgetV st (hmeta st v) (strV ev)).kind), .int .i64 ((hgetV st (hmeta st v) (strV ev)).p), .int .i64 ((hgetV st (hmeta st v) (strV ev)).q), .string ((hgetV st (hmeta st v) (strV ev)).str), .int .i64 ((hgetV st (hmeta st v) (strV ev)).ref)], .int .i64 (hgetE st (hmeta st v))]) ?_
   refine hp_ 6 [2, 2, 2] (.agg #[.int .i64 ((hgetV st (hmeta st v) (strV ev)).kind), .int .i64 ((hgetV st (hmeta st v) (strV ev)).p), .int .i64 ((hgetV st (hmeta st v) (strV ev)).q), .string ((hgetV st (hmeta st v) (strV ev)).str), .int .i64 ((hgetV st (hmeta st v) (strV ev)).ref)]) ?_
   refine hp_ 7 [2, 2, 2] (.int .i64 (hgetE st (hmeta st v))) ?_
   exact h_use hj10 g8 (fun _ h => h.re [1, 0, 0, 0, 0] [])
  refine h_stepS2 3 8 ?_ ?_
  ·
   refine s_vcall (fun _ h => ofstr_s ev) ?_
   rintro _ rfl
   refine s_nil (xs_held [0, 1, 1] ?_)
   refine h_stepS2 4 8 ?_ ?_
   ·
    refine s_call [1] (hget_s (st := st) hsm (by omega) (hmeta st v) (strV ev)) ?_
    rintro _ _ ⟨rfl, rfl⟩
    refine s_nil (xs_held [1, 1, 1] ?_)
    refine hp_ 5 [1, 1, 1] (.tuple #[.agg #[.int .i64 ((hgetV st (hmeta st v) (strV ev)).kind), .int .i64 ((hgetV st (hmeta st v) (strV ev)).p), .int .i64 ((hgetV st (hmeta st v) (strV ev)).q), .string ((hgetV st (hmeta st v) (strV ev)).str), .int .i64 ((hgetV st (hmeta st v) (strV ev)).ref)], .int .i64 (hgetE st (hmeta st v))]) ?_
    refine hp_ 6 [1, 1, 1] (.agg #[.int .i64 ((hgetV st (hmeta st v) (strV ev)).kind), .int .i64 ((hgetV st (hmeta st v) (strV ev)).p), .int .i64 ((hgetV st (hmeta st v) (strV ev)).q), .string ((hgetV st (hmeta st v) (strV ev)).str), .int .i64 ((hgetV st (hmeta st v) (strV ev)).ref)]) ?_
    refine hp_ 7 [1, 1, 1] (.int .i64 (hgetE st (hmeta st v))) ?_
    refine h_stepS 8 ?_
    refine s_alloc (.agg #[.int .i64 0, .int .i64 0, .int .i64 0, .string ByteArray.empty, .int .i64 0]) #[.int .i64 0, .int .i64 0, .int .i64 0, .string ByteArray.empty, .int .i64 0] (fun g12 => ?_)
    refine s_nil (xs_held [2, 2, 2] ?_)
    exact h_use hj10 g12 (fun _ h => h.re [0, 0, 0, 0, 0] [])
   ·
    refine s_alloc (.agg #[.int .i64 0, .int .i64 0, .int .i64 0, .string ByteArray.empty, .int .i64 0]) #[.int .i64 0, .int .i64 0, .int .i64 0, .string ByteArray.empty, .int .i64 0] (fun g13 => ?_)
    refine s_nil (xs_held [1, 2, 2] ?_)
    exact h_use hj11 g13 (fun _ h => h.re [0, 0, 0, 0, 0] [])
  ·
   refine s_alloc (.agg #[.int .i64 0, .int .i64 0, .int .i64 0, .string ByteArray.empty, .int .i64 0]) #[.int .i64 0, .int .i64 0, .int .i64 0, .string ByteArray.empty, .int .i64 0] (fun g14 => ?_)
   refine s_nil (xs_held [1, 2, 2] ?_)
   refine h_stepS 3 ?_
   refine s_vcall (fun _ h => ofstr_s ev) ?_
   rintro _ rfl
   refine s_nil (xs_held [1, 2, 2] ?_)
   exact h_use hj11 g14 (fun _ h => h.re [0, 0, 0, 0, 0] [])
theorem rhdl_s {Z : Zone} {F : List Asr} {b : Nat} {st : Hst} {n : Nat} (hsm : HSm n st) (hn : n ≤ 300) (v : Vl) (ev : ByteArray) : SF Tryz.prog 40 #[.pointer (some ⟨b, 0, none⟩), v.v, .string ev] Z (rhA b st :: F) fun r Bs => r = (hdl st v ev).v ∧ Bs = rhA b st :: F := by
 refine sf_enter Tryz.func40 35 [(0, pB b 0), (1, .agg #[.int .i64 v.kind, .int .i64 v.p, .int .i64 v.q, .string v.str, .int .i64 v.ref]), (2, .string ev)] (fun w0 => ?_)
 have hlen0 := hsm.len
 refine k_fact (fun H h => rh_inv (h.re [0] [])) (fun hi0 => ?_)
 refine k_sr ?_
 refine s_box #[.int .i64 v.kind, .int .i64 v.p, .int .i64 v.q, .string v.str, .int .i64 v.ref] (fun g1 => ?_)
 refine s_alloc (.agg #[.int .i64 0, .int .i64 0, .int .i64 0, .string ByteArray.empty, .int .i64 0]) #[.int .i64 0, .int .i64 0, .int .i64 0, .string ByteArray.empty, .int .i64 0] (fun g2 => ?_)
 refine s_nt ?_
 refine k_seq ?_
 refine k_cut (ι := Unit) (fun _ => True) (fun _ => [(0, pB b 0), (2, .string ev), (4, pB g1 0), (6, pB g2 0), (17, .bool ((decide (v.kind ≠ 4)) && (decide (v.kind ≠ 8))))]) (fun _ => blkA g2 #[.int .i64 0, .int .i64 0, .int .i64 0, .string ByteArray.empty, .int .i64 0] 26 :: blkA g1 #[.int .i64 v.kind, .int .i64 v.p, .int .i64 v.q, .string v.str, .int .i64 v.ref] 26 :: rhA b st :: F) ?_ (fun _ _ => ?_)
 ·
  refine k_reg ?_
  refine sp (pB g1 0) ?_
  refine s_lt (t_load 1 (.int .i64 v.kind)) ?_
  refine s_lt t_cmp ?_
  refine sp (.bool (decide (v.kind ≠ 4))) ?_
  refine s_fork 13 (decide (v.kind ≠ 4)) (fun c3 => ?_) (fun c3 => ?_)
  ·
   have p4 := of_decide_eq_true c3
   refine sp (pB g1 0) ?_
   refine s_lt (t_load 1 (.int .i64 v.kind)) ?_
   refine s_lt t_cmp ?_
   refine sp (.bool (decide (v.kind ≠ 8))) ?_
   refine s_nil ?_
   exact xs_cut () trivial (sub_of rfl ⟨⟨rfl, rfl⟩, ⟨⟨rfl, rfl⟩, ⟨⟨rfl, rfl⟩, ⟨⟨rfl, rfl⟩, ⟨⟨rfl, show Value.bool (decide (v.kind ≠ 8)) = Value.bool ((decide (v.kind ≠ 4)) && (decide (v.kind ≠ 8))) by first | (simp only [c3, bls]; done) | simp [c3]⟩, trivial⟩⟩⟩⟩⟩) (fun _ h => h.re [0, 0, 0] [])
  ·
   have p5 := Decidable.not_not.1 (of_decide_eq_false c3)
   refine s_skip ?_
   refine s_skip ?_
   refine s_skip ?_
   refine sp (.bool false) ?_
   refine s_nil ?_
   exact xs_cut () trivial (sub_of rfl ⟨⟨rfl, rfl⟩, ⟨⟨rfl, rfl⟩, ⟨⟨rfl, rfl⟩, ⟨⟨rfl, rfl⟩, ⟨⟨rfl, show Value.bool false = Value.bool ((decide (v.kind ≠ 4)) && (decide (v.kind ≠ 8))) by first | (simp only [c3, bls]; done) | simp [c3]⟩, trivial⟩⟩⟩⟩⟩) (fun _ h => h.re [0, 0, 0] [])
 ·
  refine k_cond ((decide (v.kind ≠ 4)) && (decide (v.kind ≠ 8))) (fun c6 => ?_) (fun c6 => ?_)
  ·
   obtain ⟨c7, c8⟩ := and_t c6
   have p9 := of_decide_eq_true c7
   have p10 := of_decide_eq_true c8
   refine k_sr ?_
   refine s_lt (t_kern (.agg #[.int .i64 0, .int .i64 0, .int .i64 0, .string ByteArray.empty, .int .i64 0])) ?_
   refine s_store 0 #[.int .i64 0, .int .i64 0, .int .i64 0, .string ByteArray.empty, .int .i64 0] ?_
   refine s_nt ?_
   refine k_ret ?_
   refine xs_ret ?_
   refine xs_fin [.agg #[.int .i64 0, .int .i64 0, .int .i64 0, .string ByteArray.empty, .int .i64 0]] (rhA b st :: F) (SI.agg 6 26 0 SI.nil) (fun _ h => h.re [2] [1, 1]) ⟨?_, rfl⟩
   have hm0 := hmeta_no hi0 (v := v) (.inr (by omega)) (.inr (by omega))
   unfold hdl; rw [hm0]; rfl
  ·
   have p11 := c6
   simp only [Bool.and_eq_true, Bool.or_eq_true, Bool.and_eq_false_iff, Bool.or_eq_false_iff, Bool.not_eq_true', Bool.not_eq_false', decide_eq_true_eq, decide_eq_false_iff_not] at p11
   refine k_st ?_
   refine k_sr ?_
   refine sp (pB b 0) ?_
   refine s_lt (t_loadA 1 #[.int .i64 v.kind, .int .i64 v.p, .int .i64 v.q, .string v.str, .int .i64 v.ref]) ?_
   refine s_call [2] (rhmeta_s (st := st) (by have := hsm.len; omega) v) ?_
   rintro _ _ ⟨rfl, rfl⟩
   refine s_alloc (.agg #[.int .i64 0, .int .i64 0, .int .i64 0, .string ByteArray.empty, .int .i64 0]) #[.int .i64 0, .int .i64 0, .int .i64 0, .string ByteArray.empty, .int .i64 0] (fun g12 => ?_)
   refine s_store 0 #[.int .i64 ((hmeta st v).kind), .int .i64 ((hmeta st v).p), .int .i64 ((hmeta st v).q), .string ((hmeta st v).str), .int .i64 ((hmeta st v).ref)] ?_
   refine s_nt ?_
   refine k_seq ?_
   refine k_sr ?_
   refine sp (pB g12 0) ?_
   refine s_lt (t_load 0 (.int .i64 ((hmeta st v).kind))) ?_
   refine s_lt t_cmp ?_
   refine s_nt ?_
   refine k_cond (decide ((hmeta st v).kind ≠ 4)) (fun c13 => ?_) (fun c13 => ?_)
   ·
    have p14 := of_decide_eq_true c13
    refine k_sr ?_
    refine s_lt (t_kern (.agg #[.int .i64 0, .int .i64 0, .int .i64 0, .string ByteArray.empty, .int .i64 0])) ?_
    refine s_store 2 #[.int .i64 0, .int .i64 0, .int .i64 0, .string ByteArray.empty, .int .i64 0] ?_
    refine s_nt ?_
    refine k_ret ?_
    refine xs_ret ?_
    refine xs_fin [.agg #[.int .i64 0, .int .i64 0, .int .i64 0, .string ByteArray.empty, .int .i64 0]] (rhA b st :: F) (SI.agg 6 26 2 SI.nil) (fun _ h => h.re [1] [1, 1, 1]) ⟨?_, rfl⟩
    have hk4 := of_decide_eq_true c13
    unfold hdl; rw [hget_kind hk4]; split <;> rfl
   ·
    have p15 := Decidable.not_not.1 (of_decide_eq_false c13)
    refine k_st ?_
    refine k_cut (ι := Nat) (fun _ => True) (fun jb8 => [(6, pB g2 0), (8, pB jb8 0)]) (fun jb8 => blkA jb8 #[.int .i64 ((hgetV st (hmeta st v) (strV ev)).kind), .int .i64 ((hgetV st (hmeta st v) (strV ev)).p), .int .i64 ((hgetV st (hmeta st v) (strV ev)).q), .string ((hgetV st (hmeta st v) (strV ev)).str), .int .i64 ((hgetV st (hmeta st v) (strV ev)).ref)] 26 :: blkA g12 #[.int .i64 ((hmeta st v).kind), .int .i64 ((hmeta st v).p), .int .i64 ((hmeta st v).q), .string ((hmeta st v).str), .int .i64 ((hmeta st v).ref)] 26 :: rhA b st :: blkA g2 #[.int .i64 0, .int .i64 0, .int .i64 0, .string ByteArray.empty, .int .i64 0] 26 :: blkA g1 #[.int .i64 v.kind, .int .i64 v.p, .int .i64 v.q, .string v.str, .int .i64 v.ref] 26 :: F) ?_ (fun ix _ => ?_)
    ·
     refine k_held [blkA g12 #[.int .i64 ((hmeta st v).kind), .int .i64 ((hmeta st v).p), .int .i64 ((hmeta st v).q), .string ((hmeta st v).str), .int .i64 ((hmeta st v).ref)] 26, blkA g2 #[.int .i64 0, .int .i64 0, .int .i64 0, .string ByteArray.empty, .int .i64 0] 26, blkA g1 #[.int .i64 v.kind, .int .i64 v.p, .int .i64 v.q, .string v.str, .int .i64 v.ref] 26] ?_
     refine hp_ 0 [0, 1, 1] (pB b 0) ?_
     refine h_l 1 rfl [0, 1, 1] (fun _ => (t_loadA 0 #[.int .i64 ((hmeta st v).kind), .int .i64 ((hmeta st v).p), .int .i64 ((hmeta st v).q), .string ((hmeta st v).str), .int .i64 ((hmeta st v).ref)])) ?_
     refine hp_ 2 [0, 1, 1] (.string ev) ?_
     refine h_stepS2 3 8 ?_ ?_
     ·
      refine s_vcall (fun _ h => rtext_s ev) ?_
      rintro _ rfl
      refine s_nil (xs_held [0, 1, 1] ?_)
      refine h_stepS2 4 8 ?_ ?_
      ·
       refine s_call [1] (rhget_s (st := st) hsm (by omega) (hmeta st v) (strV ev)) ?_
       rintro _ _ ⟨rfl, rfl⟩
       refine s_nil (xs_held [1, 1, 1] ?_)
       refine hp_ 5 [1, 1, 1] (.tuple #[.agg #[.int .i64 ((hgetV st (hmeta st v) (strV ev)).kind), .int .i64 ((hgetV st (hmeta st v) (strV ev)).p), .int .i64 ((hgetV st (hmeta st v) (strV ev)).q), .string ((hgetV st (hmeta st v) (strV ev)).str), .int .i64 ((hgetV st (hmeta st v) (strV ev)).ref)], .int .i64 (hgetE st (hmeta st v))]) ?_
       refine hp_ 6 [1, 1, 1] (.agg #[.int .i64 ((hgetV st (hmeta st v) (strV ev)).kind), .int .i64 ((hgetV st (hmeta st v) (strV ev)).p), .int .i64 ((hgetV st (hmeta st v) (strV ev)).q), .string ((hgetV st (hmeta st v) (strV ev)).str), .int .i64 ((hgetV st (hmeta st v) (strV ev)).ref)]) ?_
       refine hp_ 7 [1, 1, 1] (.int .i64 (hgetE st (hmeta st v))) ?_
       refine h_stepS 8 ?_
       refine s_alloc (.agg #[.int .i64 0, .int .i64 0, .int .i64 0, .string ByteArray.empty, .int .i64 0]) #[.int .i64 0, .int .i64 0, .int .i64 0, .string ByteArray.empty, .int .i64 0] (fun g16 => ?_)
       refine s_nil (xs_held [2, 2, 2] ?_)
       refine h_stepS 9 ?_
       refine s_store 0 #[.int .i64 ((hgetV st (hmeta st v) (strV ev)).kind), .int .i64 ((hgetV st (hmeta st v) (strV ev)).p), .int .i64 ((hgetV st (hmeta st v) (strV ev)).q), .string ((hgetV st (hmeta st v) (strV ev)).str), .int .i64 ((hgetV st (hmeta st v) (strV ev)).ref)] ?_
       refine s_nil (xs_held [2, 2, 2] ?_)
       refine hp_ 10 [2, 2, 2] (.int .i64 (hgetE st (hmeta st v))) ?_
       refine h_doneS ?_
       exact xcut g16 (fun _ h => h.re [0, 1, 0, 0, 0] [])
      ·
       refine s_alloc (.agg #[.int .i64 0, .int .i64 0, .int .i64 0, .string ByteArray.empty, .int .i64 0]) #[.int .i64 0, .int .i64 0, .int .i64 0, .string ByteArray.empty, .int .i64 0] (fun g17 => ?_)
       refine s_nil (xs_held [1, 2, 2] ?_)
       refine h_stepS 4 ?_
       refine s_call [2] (rhget_s (st := st) hsm (by omega) (hmeta st v) (strV ev)) ?_
       rintro _ _ ⟨rfl, rfl⟩
       refine s_nil (xs_held [2, 2, 2] ?_)
       refine hp_ 5 [2, 2, 2] (.tuple #[.agg #[.int .i64 ((hgetV st (hmeta st v) (strV ev)).kind), .int .i64 ((hgetV st (hmeta st v) (strV ev)).p), .int .i64 ((hgetV st (hmeta st v) (strV ev)).q), .string ((hgetV st (hmeta st v) (strV ev)).str), .int .i64 ((hgetV st (hmeta st v) (strV ev)).ref)], .int .i64 (hgetE st (hmeta st v))]) ?_
       refine hp_ 6 [2, 2, 2] (.agg #[.int .i64 ((hgetV st (hmeta st v) (strV ev)).kind), .int .i64 ((hgetV st (hmeta st v) (strV ev)).p), .int .i64 ((hgetV st (hmeta st v) (strV ev)).q), .string ((hgetV st (hmeta st v) (strV ev)).str), .int .i64 ((hgetV st (hmeta st v) (strV ev)).ref)]) ?_
       refine hp_ 7 [2, 2, 2] (.int .i64 (hgetE st (hmeta st v))) ?_
       refine h_stepS 9 ?_
       refine s_store 1 #[.int .i64 ((hgetV st (hmeta st v) (strV ev)).kind), .int .i64 ((hgetV st (hmeta st v) (strV ev)).p), .int .i64 ((hgetV st (hmeta st v) (strV ev)).q), .string ((hgetV st (hmeta st v) (strV ev)).str), .int .i64 ((hgetV st (hmeta st v) (strV ev)).ref)] ?_
       refine s_nil (xs_held [2, 2, 2] ?_)
       refine hp_ 10 [2, 2, 2] (.int .i64 (hgetE st (hmeta st v))) ?_
       refine h_doneS ?_
       exact xcut g17 (fun _ h => h.re [1, 1, 0, 0, 0] [])
     ·
      refine s_alloc (.agg #[.int .i64 0, .int .i64 0, .int .i64 0, .string ByteArray.empty, .int .i64 0]) #[.int .i64 0, .int .i64 0, .int .i64 0, .string ByteArray.empty, .int .i64 0] (fun g18 => ?_)
      refine s_nil (xs_held [1, 2, 2] ?_)
      refine h_stepS 3 ?_
      refine s_vcall (fun _ h => rtext_s ev) ?_
      rintro _ rfl
      refine s_nil (xs_held [1, 2, 2] ?_)
      refine h_stepS 4 ?_
      refine s_call [2] (rhget_s (st := st) hsm (by omega) (hmeta st v) (strV ev)) ?_
      rintro _ _ ⟨rfl, rfl⟩
      refine s_nil (xs_held [2, 2, 2] ?_)
      refine hp_ 5 [2, 2, 2] (.tuple #[.agg #[.int .i64 ((hgetV st (hmeta st v) (strV ev)).kind), .int .i64 ((hgetV st (hmeta st v) (strV ev)).p), .int .i64 ((hgetV st (hmeta st v) (strV ev)).q), .string ((hgetV st (hmeta st v) (strV ev)).str), .int .i64 ((hgetV st (hmeta st v) (strV ev)).ref)], .int .i64 (hgetE st (hmeta st v))]) ?_
      refine hp_ 6 [2, 2, 2] (.agg #[.int .i64 ((hgetV st (hmeta st v) (strV ev)).kind), .int .i64 ((hgetV st (hmeta st v) (strV ev)).p), .int .i64 ((hgetV st (hmeta st v) (strV ev)).q), .string ((hgetV st (hmeta st v) (strV ev)).str), .int .i64 ((hgetV st (hmeta st v) (strV ev)).ref)]) ?_
      refine hp_ 7 [2, 2, 2] (.int .i64 (hgetE st (hmeta st v))) ?_
      refine h_stepS 9 ?_
      refine s_store 1 #[.int .i64 ((hgetV st (hmeta st v) (strV ev)).kind), .int .i64 ((hgetV st (hmeta st v) (strV ev)).p), .int .i64 ((hgetV st (hmeta st v) (strV ev)).q), .string ((hgetV st (hmeta st v) (strV ev)).str), .int .i64 ((hgetV st (hmeta st v) (strV ev)).ref)] ?_
      refine s_nil (xs_held [2, 2, 2] ?_)
      refine hp_ 10 [2, 2, 2] (.int .i64 (hgetE st (hmeta st v))) ?_
      refine h_doneS ?_
      exact xcut g18 (fun _ h => h.re [1, 1, 0, 0, 0] [])
    ·
     revert ix; intro jb8
     show SK _ _ _ _ _ [(6, .pointer (some ⟨g2, 0, none⟩)), (8, .pointer (some ⟨jb8, 0, none⟩))] _ (blkA jb8 #[.int .i64 ((hgetV st (hmeta st v) (strV ev)).kind), .int .i64 ((hgetV st (hmeta st v) (strV ev)).p), .int .i64 ((hgetV st (hmeta st v) (strV ev)).q), .string ((hgetV st (hmeta st v) (strV ev)).str), .int .i64 ((hgetV st (hmeta st v) (strV ev)).ref)] 26 :: blkA g12 #[.int .i64 ((hmeta st v).kind), .int .i64 ((hmeta st v).p), .int .i64 ((hmeta st v).q), .string ((hmeta st v).str), .int .i64 ((hmeta st v).ref)] 26 :: rhA b st :: blkA g2 #[.int .i64 0, .int .i64 0, .int .i64 0, .string ByteArray.empty, .int .i64 0] 26 :: blkA g1 #[.int .i64 v.kind, .int .i64 v.p, .int .i64 v.q, .string v.str, .int .i64 v.ref] 26 :: F)
     refine k_sr ?_
     refine s_lt (t_loadA 0 #[.int .i64 ((hgetV st (hmeta st v) (strV ev)).kind), .int .i64 ((hgetV st (hmeta st v) (strV ev)).p), .int .i64 ((hgetV st (hmeta st v) (strV ev)).q), .string ((hgetV st (hmeta st v) (strV ev)).str), .int .i64 ((hgetV st (hmeta st v) (strV ev)).ref)]) ?_
     refine s_store 3 #[.int .i64 ((hgetV st (hmeta st v) (strV ev)).kind), .int .i64 ((hgetV st (hmeta st v) (strV ev)).p), .int .i64 ((hgetV st (hmeta st v) (strV ev)).q), .string ((hgetV st (hmeta st v) (strV ev)).str), .int .i64 ((hgetV st (hmeta st v) (strV ev)).ref)] ?_
     refine s_nt ?_
     refine k_ret ?_
     refine xs_fin [.agg #[.int .i64 ((hgetV st (hmeta st v) (strV ev)).kind), .int .i64 ((hgetV st (hmeta st v) (strV ev)).p), .int .i64 ((hgetV st (hmeta st v) (strV ev)).q), .string ((hgetV st (hmeta st v) (strV ev)).str), .int .i64 ((hgetV st (hmeta st v) (strV ev)).ref)]] (rhA b st :: F) (SI.agg 6 26 3 SI.nil) (fun _ h => h.re [2] [1, 1, 1, 1]) ⟨?_, rfl⟩
     have hk4 := Decidable.not_not.1 (of_decide_eq_false c13)
     unfold hdl; rw [if_neg (by omega)]; rfl
/-- The value of a specification. -/
def ofS (L : List Vl) (s : Spc) : Vl := if 0 < s.obj ∧ 0 < L.length then (L[(Int.tmod s.obj (L.length : Int)).toNat]?).getD zVl else s.v
theorem ofS_in {L : List Vl} {s : Spc} {y : Vl} (h1 : 0 < s.obj) (h2 : 0 < L.length) (hy : L[(Int.tmod s.obj (L.length : Int)).toNat]? = some y) : ofS L s = y := by unfold ofS; rw [if_pos ⟨h1, h2⟩, hy]; rfl
theorem ofS_out {L : List Vl} {s : Spc} (h : ¬ (0 < s.obj ∧ 0 < L.length)) : ofS L s = s.v := by unfold ofS; rw [if_neg h]
theorem tmod_lt {a : Int} {n : Nat} (ha : 0 < a) (hn : 0 < n) : 0 ≤ Int.tmod a n ∧ Int.tmod a n < n := ⟨Int.tmod_nonneg _ (by omega), Int.tmod_lt_of_pos _ (by omega)⟩
theorem of_s {Z : Zone} {F : List Asr} {hv gv lv : Value} {L : List Vl} (hl : L.length ≤ 100000) (s : Spc) : SF Tryz.prog 8 #[.agg #[hv, gv, lv], s.w] Z (own VlT lv L :: F) fun r Bs => r = (ofS L s).v ∧ Bs = own VlT lv L :: F := by
 refine sf_enter Tryz.func8 26 [(0, .agg #[hv, gv, lv]), (1, .agg #[.int .i64 s.v.kind, .int .i64 s.v.p, .int .i64 s.v.q, .string s.v.str, .int .i64 s.v.ref, .int .i64 s.obj])] (fun w0 => ?_)
 refine k_sr ?_
 refine s_box #[hv, gv, lv] (fun g1 => ?_)
 refine s_box #[.int .i64 s.v.kind, .int .i64 s.v.p, .int .i64 s.v.q, .string s.v.str, .int .i64 s.v.ref, .int .i64 s.obj] (fun g2 => ?_)
 refine s_alloc (.agg #[.int .i64 0, .int .i64 0, .int .i64 0, .string ByteArray.empty, .int .i64 0]) #[.int .i64 0, .int .i64 0, .int .i64 0, .string ByteArray.empty, .int .i64 0] (fun g3 => ?_)
 refine s_nt ?_
 refine k_seq ?_
 refine k_cut (ι := Unit) (fun _ => True) (fun _ => [(2, pB g1 0), (3, pB g2 0), (4, pB g3 0), (13, .bool ((decide ((0 : Int) < s.obj)) && (decide ((0 : Int) < (L.length : Int)))))]) (fun _ => blkA g3 #[.int .i64 0, .int .i64 0, .int .i64 0, .string ByteArray.empty, .int .i64 0] 26 :: blkA g2 #[.int .i64 s.v.kind, .int .i64 s.v.p, .int .i64 s.v.q, .string s.v.str, .int .i64 s.v.ref, .int .i64 s.obj] 28 :: blkA g1 #[hv, gv, lv] 35 :: own VlT lv L :: F) ?_ (fun _ _ => ?_)
 ·
  refine k_reg ?_
  refine sp (pB g2 5) ?_
  refine s_lt (t_load 1 (.int .i64 s.obj)) ?_
  refine s_lt t_cmp ?_
  refine sp (.bool (decide ((0 : Int) < s.obj))) ?_
  refine s_fork 8 (decide ((0 : Int) < s.obj)) (fun c4 => ?_) (fun c4 => ?_)
  ·
   have p5 := of_decide_eq_true c4
   refine sp (pB g1 2) ?_
   refine s_lt (t_load 2 lv) ?_
   refine s_lt (t_len VlT_ok Tryz.underlying33 (.own 3)) ?_
   refine s_lt t_cmp ?_
   refine sp (.bool (decide ((0 : Int) < (L.length : Int)))) ?_
   refine s_nil ?_
   exact xs_cut () trivial (sub_of rfl ⟨⟨rfl, rfl⟩, ⟨⟨rfl, rfl⟩, ⟨⟨rfl, rfl⟩, ⟨⟨rfl, show Value.bool (decide ((0 : Int) < (L.length : Int))) = Value.bool ((decide ((0 : Int) < s.obj)) && (decide ((0 : Int) < (L.length : Int)))) by first | (simp only [c4, bls]; done) | simp [c4]⟩, trivial⟩⟩⟩⟩) (fun _ h => h.re [0, 0, 0, 0] [])
  ·
   have p6 := of_decide_eq_false c4
   refine s_skip ?_
   refine s_skip ?_
   refine s_skip ?_
   refine s_skip ?_
   refine sp (.bool false) ?_
   refine s_nil ?_
   exact xs_cut () trivial (sub_of rfl ⟨⟨rfl, rfl⟩, ⟨⟨rfl, rfl⟩, ⟨⟨rfl, rfl⟩, ⟨⟨rfl, show Value.bool false = Value.bool ((decide ((0 : Int) < s.obj)) && (decide ((0 : Int) < (L.length : Int)))) by first | (simp only [c4, bls]; done) | simp [c4]⟩, trivial⟩⟩⟩⟩) (fun _ h => h.re [0, 0, 0, 0] [])
 ·
  refine k_cond ((decide ((0 : Int) < s.obj)) && (decide ((0 : Int) < (L.length : Int)))) (fun c7 => ?_) (fun c7 => ?_)
  ·
   obtain ⟨c8, c9⟩ := and_t c7
   have p10 := of_decide_eq_true c8
   have p11 := of_decide_eq_true c9
   refine k_seq ?_
   refine k_draw ?_
   refine sp (pB g1 2) ?_
   refine s_lt (t_load 2 lv) ?_
   refine sp (pB g2 5) ?_
   refine s_lt (t_load 1 (.int .i64 s.obj)) ?_
   refine sp (pB g1 2) ?_
   refine s_lt (t_load 2 lv) ?_
   refine s_fact (fun H h => ((Acc.own (T := VlT) (L := L) 3 rfl) H h).form) (fun hf12 => ?_)
   refine s_lt (t_len VlT_ok Tryz.underlying33 (.own 3)) ?_
   obtain ⟨htm1, htm2⟩ := tmod_lt (a := s.obj) (n := L.length) (by omega) (by omega)
   refine s_lt (t_rem s.obj (L.length : Int) (by omega)) ?_
   refine s_lt (t_index VlT_ok Tryz.underlying33 (.own 3) (Int.tmod s.obj (L.length : Int)) (((Int.tmod s.obj (L.length : Int))).toNat) (by omega) (by (try simp only [lnm]); omega) (by omega)) ?_
   obtain ⟨y13, hy14⟩ : ∃ y, L[((Int.tmod s.obj (L.length : Int))).toNat]? = some y := ⟨_, List.getElem?_eq_getElem (by (try simp only [lnm]); omega)⟩
   refine s_lt (t_loadE VlT_ok (.own 3) hy14) ?_
   refine s_store 0 #[.int .i64 y13.kind, .int .i64 y13.p, .int .i64 y13.q, .string y13.str, .int .i64 y13.ref] ?_
   refine s_nil ?_
   refine x_dynS (fun _ h => by obtain ⟨_, _, e⟩ := hf12; subst e; kernel_rfl) ?_
   refine xs_then ?_
   refine k_ret ?_
   refine xs_ret ?_
   refine xs_fin [.agg #[.int .i64 y13.kind, .int .i64 y13.p, .int .i64 y13.q, .string y13.str, .int .i64 y13.ref]] (own VlT lv L :: F) (SI.agg 4 26 0 SI.nil) (fun _ h => h.re [3] [1, 1, 1]) ⟨?_, rfl⟩
   rw [ofS_in (by omega) (by omega) hy14]; rfl
  ·
   have p15 := c7
   simp only [Bool.and_eq_true, Bool.or_eq_true, Bool.and_eq_false_iff, Bool.or_eq_false_iff, Bool.not_eq_true', Bool.not_eq_false', decide_eq_true_eq, decide_eq_false_iff_not] at p15
   refine k_st ?_
   refine k_sr ?_
   refine sp (pB g2 0) ?_
   refine s_lt (t_loadA 1 #[.int .i64 s.v.kind, .int .i64 s.v.p, .int .i64 s.v.q, .string s.v.str, .int .i64 s.v.ref]) ?_
   refine s_store 0 #[.int .i64 s.v.kind, .int .i64 s.v.p, .int .i64 s.v.q, .string s.v.str, .int .i64 s.v.ref] ?_
   refine s_nt ?_
   refine k_ret ?_
   refine xs_fin [.agg #[.int .i64 s.v.kind, .int .i64 s.v.p, .int .i64 s.v.q, .string s.v.str, .int .i64 s.v.ref]] (own VlT lv L :: F) (SI.agg 4 26 0 SI.nil) (fun _ h => h.re [3] [1, 1, 1]) ⟨?_, rfl⟩
   rw [ofS_out (by omega)]; rfl
theorem large_pre {A X : List Spc} {P : Spc → Prop} (h : A <+: X) (hP : ∀ s ∈ X, P s) : ∀ s ∈ A, P s := fun s hs => hP s (h.subset hs)
theorem large_step {X : List Spc} {i : Nat} {y : Spc} (h : ∀ s ∈ X.take i, (s.v.str.size : Int) ≤ 5000) (hy : X[i]? = some y) (h2 : (y.v.str.size : Int) ≤ 5000) : ∀ s ∈ X.take (i + 1), (s.v.str.size : Int) ≤ 5000 := fun s hs => by
  rw [List.take_add_one, hy] at hs
  rcases List.mem_append.1 hs with hs | hs
  · exact h s hs
  · rw [Option.toList_some, List.mem_singleton] at hs; rw [hs]; exact h2
theorem large_s {Z : Zone} {F : List Asr} {lv mv : Value} {l : List Opc} {M : List Spc} (hl0 : Kn Z OpT lv l) (hM : M.length ≤ 100000) : SF Tryz.prog 5 #[lv, mv] Z (own SpT mv M :: F) fun r Bs => ∃ x, r = .bool x ∧ (x = false → ∀ s ∈ M, (s.v.str.size : Int) ≤ 5000) ∧ Bs = F := by
 refine sf_enter Tryz.func5 49 [(0, lv), (1, mv)] (fun w0 => ?_)
 refine k_fact (fun H h => (hl0.get h).len_le) (fun lA => ?_)
 refine k_sr ?_
 refine sp (.bool false) ?_
 refine s_nt ?_
 refine k_seq ?_
 refine k_sr ?_
 refine sp (.int .i64 0) ?_
 refine s_nt ?_
 refine k_block ?_
 refine k_loop (ι := Value × List Spc × Nat) (fun (xv, X, i) => M <+: X ∧ i ≤ 100 ∧ X.length ≤ M.length + 3 * i) (fun (xv, X, i) => [(0, lv), (1, xv), (5, .int .i64 (i : Int))]) (fun (xv, X, i) => own SpT xv X :: F) (fun (xv, X, i) => 100 - i) (mv, M, 0) ⟨List.prefix_refl _, by omega, by omega⟩ (sub_of rfl ⟨⟨rfl, rfl⟩, ⟨⟨rfl, rfl⟩, ⟨⟨rfl, rfl⟩, trivial⟩⟩⟩) (fun _ h => h.re [0] []) ?_
 rintro ⟨xv, X, i⟩ hi1
 replace hi1 : M <+: X ∧ i ≤ 100 ∧ X.length ≤ M.length + 3 * i := hi1
 show SK _ _ _ _ _ [(0, lv), (1, xv), (5, .int .i64 (i : Int))] _ (own SpT xv X :: F)
 refine k_seq ?_
 refine k_cut (ι := Unit) (fun _ => True) (fun _ => [(0, lv), (1, xv), (5, .int .i64 (i : Int)), (14, .bool ((decide ((i : Int) < (l.length : Int))) && (decide ((i : Int) < 100))))]) (fun _ => own SpT xv X :: F) ?_ (fun _ _ => ?_)
 ·
  refine k_reg ?_
  refine sp (.int .i64 (i : Int)) ?_
  refine sp lv ?_
  refine s_lt (t_len OpT_ok Tryz.underlying22 (.zn hl0)) ?_
  refine s_lt t_cmp ?_
  refine sp (.bool (decide ((i : Int) < (l.length : Int)))) ?_
  refine s_fork 11 (decide ((i : Int) < (l.length : Int))) (fun c2 => ?_) (fun c2 => ?_)
  ·
   have p3 := of_decide_eq_true c2
   refine sp (.int .i64 (i : Int)) ?_
   refine s_lt t_cmp ?_
   refine sp (.bool (decide ((i : Int) < 100))) ?_
   refine s_nil ?_
   exact xs_cut () trivial (sub_of rfl ⟨⟨rfl, rfl⟩, ⟨⟨rfl, rfl⟩, ⟨⟨rfl, rfl⟩, ⟨⟨rfl, show Value.bool (decide ((i : Int) < 100)) = Value.bool ((decide ((i : Int) < (l.length : Int))) && (decide ((i : Int) < 100))) by first | (simp only [c2, bls]; done) | simp [c2]⟩, trivial⟩⟩⟩⟩) (fun _ h => h.re [0] [])
  ·
   have p4 := of_decide_eq_false c2
   refine s_skip ?_
   refine s_skip ?_
   refine sp (.bool false) ?_
   refine s_nil ?_
   exact xs_cut () trivial (sub_of rfl ⟨⟨rfl, rfl⟩, ⟨⟨rfl, rfl⟩, ⟨⟨rfl, rfl⟩, ⟨⟨rfl, show Value.bool false = Value.bool ((decide ((i : Int) < (l.length : Int))) && (decide ((i : Int) < 100))) by first | (simp only [c2, bls]; done) | simp [c2]⟩, trivial⟩⟩⟩⟩) (fun _ h => h.re [0] [])
 ·
  refine k_cond ((decide ((i : Int) < (l.length : Int))) && (decide ((i : Int) < 100))) (fun c5 => ?_) (fun c5 => ?_)
  ·
   obtain ⟨c6, c7⟩ := and_t c5
   have p8 := of_decide_eq_true c6
   have p9 := of_decide_eq_true c7
   refine k_st ?_
   refine k_seq ?_
   refine k_block ?_
   refine k_draw ?_
   refine sp xv ?_
   refine sp lv ?_
   refine sp (.int .i64 (i : Int)) ?_
   refine s_lt (t_index OpT_ok Tryz.underlying22 (.zn hl0) (i : Int) i (by omega) (by (try simp only [lnm]); omega) (by omega)) ?_
   refine sp (.pointer (some ((elemAt OpT.size lv i).add 1))) ?_
   obtain ⟨y10, hy11⟩ : ∃ y, l[i]? = some y := ⟨_, List.getElem?_eq_getElem (by (try simp only [lnm]); omega)⟩
   refine s_lt (t_loadG 1 #[.int .i64 y10.a.v.kind, .int .i64 y10.a.v.p, .int .i64 y10.a.v.q, .string y10.a.v.str, .int .i64 y10.a.v.ref, .int .i64 y10.a.obj] OpT_ok (.zn hl0) hy11) ?_
   refine sp lv ?_
   refine sp (.int .i64 (i : Int)) ?_
   refine s_lt (t_index OpT_ok Tryz.underlying22 (.zn hl0) (i : Int) i (by omega) (by (try simp only [lnm]); omega) (by omega)) ?_
   refine sp (.pointer (some ((elemAt OpT.size lv i).add 7))) ?_
   refine s_lt (t_loadG 7 #[.int .i64 y10.b.v.kind, .int .i64 y10.b.v.p, .int .i64 y10.b.v.q, .string y10.b.v.str, .int .i64 y10.b.v.ref, .int .i64 y10.b.obj] OpT_ok (.zn hl0) hy11) ?_
   refine sp lv ?_
   refine sp (.int .i64 (i : Int)) ?_
   refine s_lt (t_index OpT_ok Tryz.underlying22 (.zn hl0) (i : Int) i (by omega) (by (try simp only [lnm]); omega) (by omega)) ?_
   refine sp (.pointer (some ((elemAt OpT.size lv i).add 13))) ?_
   refine s_lt (t_loadG 13 #[.int .i64 y10.c.v.kind, .int .i64 y10.c.v.p, .int .i64 y10.c.v.q, .string y10.c.v.str, .int .i64 y10.c.v.ref, .int .i64 y10.c.obj] OpT_ok (.zn hl0) hy11) ?_
   refine s_buildSlice (e := 28) [(0, .agg #[.int .i64 y10.a.v.kind, .int .i64 y10.a.v.p, .int .i64 y10.a.v.q, .string y10.a.v.str, .int .i64 y10.a.v.ref, .int .i64 y10.a.obj]), (1, .agg #[.int .i64 y10.b.v.kind, .int .i64 y10.b.v.p, .int .i64 y10.b.v.q, .string y10.b.v.str, .int .i64 y10.b.v.ref, .int .i64 y10.b.obj]), (2, .agg #[.int .i64 y10.c.v.kind, .int .i64 y10.c.v.p, .int .i64 y10.c.v.q, .string y10.c.v.str, .int .i64 y10.c.v.ref, .int .i64 y10.c.obj])] #[.int .i64 y10.a.v.kind, .int .i64 y10.a.v.p, .int .i64 y10.a.v.q, .string y10.a.v.str, .int .i64 y10.a.v.ref, .int .i64 y10.a.obj, .int .i64 y10.b.v.kind, .int .i64 y10.b.v.p, .int .i64 y10.b.v.q, .string y10.b.v.str, .int .i64 y10.b.v.ref, .int .i64 y10.b.obj, .int .i64 y10.c.v.kind, .int .i64 y10.c.v.p, .int .i64 y10.c.v.q, .string y10.c.v.str, .int .i64 y10.c.v.ref, .int .i64 y10.c.obj] (fun g12 => ?_) (hb := by kernel_rfl)
   refine s_append (L := X) 1 SpT_ok Tryz.underlying52 (.lit 0 SpT_ok [y10.a, y10.b, y10.c]) (by show _ * 56 ≤ _; (try simp only [lnm]); omega) (by (try simp only [lnm]); omega) (fun v13 => ?_)
   refine sp v13 ?_
   refine s_nil ?_
   refine x_dynS (fun _ h => by kernel_rfl) ?_
   refine xs_block ?_
   refine xs_then ?_
   refine k_reg ?_
   refine sp (.int .i64 (i : Int)) ?_
   refine s_lt (t_add (i : Int) 1 (by (try simp only [lnm]); omega)) ?_
   refine sp (.int .i64 ((i : Int) + 1)) ?_
   refine s_nil ?_
   exact xs_round (v13, (X ++ [y10.a, y10.b, y10.c]), i + 1) (by show 100 - (i + 1) < 100 - i; omega) (by show _ <+: _ ∧ _; exact ⟨hi1.1.trans (List.prefix_append _ _), by show i + 1 ≤ 100; omega, by simp only [lnm]; omega⟩) (sub_of rfl ⟨⟨rfl, rfl⟩, ⟨⟨rfl, rfl⟩, ⟨⟨rfl, rfl⟩, trivial⟩⟩⟩) (fun _ h => h.re [1] [1])
  ·
   have p14 := c5
   simp only [Bool.and_eq_true, Bool.or_eq_true, Bool.and_eq_false_iff, Bool.or_eq_false_iff, Bool.not_eq_true', Bool.not_eq_false', decide_eq_true_eq, decide_eq_false_iff_not] at p14
   refine k_exit ?_
   refine xs_exit ?_
   refine xs_exit ?_
   refine xs_here ?_
   refine xs_then ?_
   refine k_seq ?_
   refine k_sr ?_
   refine sp (.int .i64 0) ?_
   refine s_nt ?_
   refine k_block ?_
   refine k_loop (ι := Nat) (fun j => j ≤ X.length ∧ ∀ s ∈ X.take j, (s.v.str.size : Int) ≤ 5000) (fun j => [(1, xv), (6, .int .i64 (j : Int))]) (fun j => own SpT xv X :: F) (fun j => X.length - j) 0 ⟨by omega, by simp⟩ (sub_of rfl ⟨⟨rfl, rfl⟩, ⟨⟨rfl, rfl⟩, trivial⟩⟩) (fun _ h => h.re [0] []) ?_
   rintro j hi15
   show SK _ _ _ _ _ [(1, xv), (6, .int .i64 (j : Int))] _ (own SpT xv X :: F)
   refine k_seq ?_
   refine k_sr ?_
   refine sp (.int .i64 (j : Int)) ?_
   refine sp xv ?_
   refine s_lt (t_len SpT_ok Tryz.underlying52 (.own 0)) ?_
   refine s_lt t_cmp ?_
   refine s_nt ?_
   refine k_cond (decide ((j : Int) < (X.length : Int))) (fun c16 => ?_) (fun c16 => ?_)
   ·
    have p17 := of_decide_eq_true c16
    refine k_st ?_
    refine k_seq ?_
    refine k_block ?_
    refine k_sr ?_
    refine sp xv ?_
    refine sp (.int .i64 (j : Int)) ?_
    refine s_lt (t_index SpT_ok Tryz.underlying52 (.own 0) (j : Int) j (by omega) (by (try simp only [lnm]); omega) (by omega)) ?_
    refine sp (.pointer (some (elemAt SpT.size xv j))) ?_
    refine sp (.pointer (some ((elemAt SpT.size xv j).add 3))) ?_
    obtain ⟨y18, hy19⟩ : ∃ y, X[j]? = some y := ⟨_, List.getElem?_eq_getElem (by (try simp only [lnm]); omega)⟩
    refine s_lt (t_loadF 3 SpT_ok (.own 0) hy19) ?_
    refine s_lt (t_kern (.int .i64 (y18.v.str.size : Int))) ?_
    refine s_lt t_cmp ?_
    refine s_nt ?_
    refine k_cond (decide ((5000 : Int) < (y18.v.str.size : Int))) (fun c20 => ?_) (fun c20 => ?_)
    ·
     have p21 := of_decide_eq_true c20
     refine k_sr ?_
     refine sp (.bool true) ?_
     refine s_nt ?_
     refine k_ret ?_
     refine xs_retBlock ?_
     refine xs_ret ?_
     refine xs_ret ?_
     refine xs_retBlock ?_
     refine xs_ret ?_
     exact xs_fin [.bool true] F (SI.tmp 4 SI.nil) (fun _ h => h.re [] [0]) ⟨true, rfl, (fun h => by cases h), rfl⟩
    ·
     have p22 := of_decide_eq_false c20
     refine k_skip ?_
     refine xs_block ?_
     refine xs_then ?_
     refine k_reg ?_
     refine sp (.int .i64 (j : Int)) ?_
     refine s_lt (t_add (j : Int) 1 (by (try simp only [lnm]); omega)) ?_
     refine sp (.int .i64 ((j : Int) + 1)) ?_
     refine s_nil ?_
     exact xs_round (j + 1) (by omega) ⟨by omega, large_step hi15.2 hy19 (by omega)⟩ (sub_of rfl ⟨⟨rfl, rfl⟩, ⟨⟨rfl, rfl⟩, trivial⟩⟩) (fun _ h => h.re [0] [])
   ·
    have p23 := of_decide_eq_false c16
    refine k_exit ?_
    refine xs_exit ?_
    refine xs_exit ?_
    refine xs_here ?_
    refine xs_then ?_
    refine k_sr ?_
    refine sp (.bool false) ?_
    refine s_nt ?_
    refine k_ret ?_
    refine xs_fin [.bool false] F (SI.tmp 4 SI.nil) (fun _ h => h.re [] [0]) ⟨false, rfl, fun _ => ?_, rfl⟩
    have hall := hi15.2; rw [List.take_of_length_le (by omega)] at hall; exact large_pre hi1.1 hall
end Go.Proofs.YtplkkhpokodbmaaGreatDoor
end
section
set_option linter.unusedSimpArgs false
set_option linter.unusedVariables false
set_option maxRecDepth 100000
set_option maxHeartbeats 2000000
namespace Go.Proofs.YtplkkhpokodbmaaGreatDoor
open Go.Hp Go.J Go.S
open Go.Mem (Ty KTy blk elemAt pre suf blk_pre blk_suf aget aset strK aggDesc)
open Go.Mem (adel apos aget_aset aget_adel)
def boxB : ByteArray := ⟨#[98, 111, 120]⟩
/-- A world after an operation: the heap's state, the objects. -/
def mstep (i : Nat) (o : Opc) (s : Hst × List Vl) : Hst × List Vl :=
  if o.kind = 0 then (hmake s.1 (newO 4 0 ByteArray.empty []), if hmakeE s.1 = 0 then s.2 ++ [hmakeV s.1 4] else s.2) else
  if o.kind = 1 then (hdata s.1 boxB, if hdataE s.1 boxB = 0 then s.2 ++ [hdataV s.1 boxB] else s.2) else
  if o.kind = 2 then (hmake s.1 (newO 5 (i : Int) ByteArray.empty []), if hmakeE s.1 = 0 then s.2 ++ [hmakeV s.1 5] else s.2) else
  if o.kind = 3 then (hset s.1 (ofS s.2 o.a) (ofS s.2 o.b) (ofS s.2 o.c), s.2) else
  (hsetMeta s.1 (ofS s.2 o.a) (ofS s.2 o.b), if o.kind ≤ 2 ∧ hsetMetaE s.1 (ofS s.2 o.a) (ofS s.2 o.b) = 0 then s.2 ++ [zVl] else s.2)
def mst (l : List Opc) : Nat → Hst × List Vl
  | 0 => (hp0, [])
  | i + 1 => match l[i]? with
    | some o => mstep i o (mst l i)
    | none => mst l i
theorem mst_succ {l : List Opc} {i : Nat} {y : Opc} (h : l[i]? = some y) : mst l (i + 1) = mstep i y (mst l i) := by rw [mst, h]
theorem mstep_good {i : Nat} {o : Opc} {s : Hst × List Vl} (h1 : HInv s.1) (h2 : HSm i s.1) (h3 : s.2.length ≤ i) : HInv (mstep i o s).1 ∧ HSm (i + 1) (mstep i o s).1 ∧ (mstep i o s).2.length ≤ i + 1 := by
  have hl : ∀ (p : Prop) [Decidable p] (v : Vl), (if p then s.2 ++ [v] else s.2).length ≤ i + 1 := fun p _ v => by
    by_cases hp : p
    · rw [if_pos hp, List.length_append]; exact Nat.add_le_add_right h3 1
    · rw [if_neg hp]; exact Nat.le_succ_of_le h3
  unfold mstep
  split
  · exact ⟨hmake_inv h1 (newO_inv _ _ _ (by decide)), hmake_sm h2 rfl (by simp [newO]), hl _ _⟩
  split
  · unfold hdata
    split
    · exact ⟨h1, h2.mono (by omega), hl _ _⟩
    · exact ⟨hmake_inv h1 (newO_inv _ _ _ (by decide)), hmake_sm h2 rfl (by simp [newO]), hl _ _⟩
  split
  · exact ⟨hmake_inv h1 (newO_inv _ _ _ (by decide)), hmake_sm h2 rfl (by simp [newO]), hl _ _⟩
  split
  · exact ⟨hset_inv h1 _ _ _, hset_sm h1 h2 _ _ _, by show s.2.length ≤ _; omega⟩
  · exact ⟨hsetMeta_inv h1 _ _, hsetMeta_sm h2 _ _, hl _ _⟩
theorem mst_good (l : List Opc) : ∀ i, HInv (mst l i).1 ∧ HSm i (mst l i).1 ∧ (mst l i).2.length ≤ i
  | 0 => ⟨HInv.nil, HSm.nil, Nat.le_refl _⟩
  | i + 1 => by
    obtain ⟨h1, h2, h3⟩ := mst_good l i
    rw [mst]
    split
    · exact mstep_good h1 h2 h3
    · exact ⟨h1, h2.mono (by omega), by omega⟩
def made (l : List Opc) : Hst × List Vl := mst l (min 100 l.length)
theorem made_good (l : List Opc) : HInv (made l).1 ∧ HSm 100 (made l).1 ∧ (made l).2.length ≤ 100 := by
  obtain ⟨h1, h2, h3⟩ := mst_good l (min 100 l.length)
  exact ⟨h1, h2.mono (by omega), by unfold made; omega⟩
theorem lives_s {Z : Zone} : SF Tryz.prog 6 #[] Z [] fun r Bs => r = .bool true ∧ Bs = [] := by
 refine sf_enter Tryz.func6 49 [] (fun w0 => ?_)
 refine k_sr ?_
 refine sp (.bool false) ?_
 refine s_nr ?_
 refine s_pcall (fun _ h => hnew_s) ?_
 rintro _ _ ⟨hb1, rfl, rfl⟩
 refine sp (pB hb1 0) ?_
 refine s_nt ?_
 refine k_seq ?_
 refine k_sr ?_
 refine sp (pB hb1 0) ?_
 refine sp (.bool false) ?_
 refine s_nt ?_
 refine k_false ?_
 refine k_st ?_
 refine k_sr ?_
 refine sp (pB hb1 0) ?_
 refine s_call [0] (hnewtable_s (st := hp0) (by have := HSm.nil.len; omega)) ?_
 rintro _ _ ⟨rfl, rfl⟩
 have hi2 := hmake_inv (o := (newO 4 0 ByteArray.empty [])) HInv.nil (newO_inv _ _ _ (by decide))
 have hs3 := hmake_sm (o := (newO 4 0 ByteArray.empty [])) HSm.nil rfl (by decide)
 refine sp (.tuple #[.agg #[.int .i64 ((hmakeV hp0 4).kind), .int .i64 ((hmakeV hp0 4).p), .int .i64 ((hmakeV hp0 4).q), .string ((hmakeV hp0 4).str), .int .i64 ((hmakeV hp0 4).ref)], .int .i64 (hmakeE hp0)]) ?_
 refine sp (.agg #[.int .i64 ((hmakeV hp0 4).kind), .int .i64 ((hmakeV hp0 4).p), .int .i64 ((hmakeV hp0 4).q), .string ((hmakeV hp0 4).str), .int .i64 ((hmakeV hp0 4).ref)]) ?_
 refine sp (.int .i64 (hmakeE hp0)) ?_
 refine s_alloc (.agg #[.int .i64 0, .int .i64 0, .int .i64 0, .string ByteArray.empty, .int .i64 0]) #[.int .i64 0, .int .i64 0, .int .i64 0, .string ByteArray.empty, .int .i64 0] (fun g4 => ?_)
 refine s_store 0 #[.int .i64 ((hmakeV hp0 4).kind), .int .i64 ((hmakeV hp0 4).p), .int .i64 ((hmakeV hp0 4).q), .string ((hmakeV hp0 4).str), .int .i64 ((hmakeV hp0 4).ref)] ?_
 refine sp (.int .i64 (hmakeE hp0)) ?_
 refine s_nr ?_
 refine sp (pB hb1 0) ?_
 refine s_call [1] (hnewtable_s (st := (hmake hp0 (newO 4 0 ByteArray.empty []))) (by have := hs3.len; omega)) ?_
 rintro _ _ ⟨rfl, rfl⟩
 have hi5 := hmake_inv (o := (newO 4 0 ByteArray.empty [])) hi2 (newO_inv _ _ _ (by decide))
 have hs6 := hmake_sm (o := (newO 4 0 ByteArray.empty [])) hs3 rfl (by decide)
 refine sp (.tuple #[.agg #[.int .i64 ((hmakeV (hmake hp0 (newO 4 0 ByteArray.empty [])) 4).kind), .int .i64 ((hmakeV (hmake hp0 (newO 4 0 ByteArray.empty [])) 4).p), .int .i64 ((hmakeV (hmake hp0 (newO 4 0 ByteArray.empty [])) 4).q), .string ((hmakeV (hmake hp0 (newO 4 0 ByteArray.empty [])) 4).str), .int .i64 ((hmakeV (hmake hp0 (newO 4 0 ByteArray.empty [])) 4).ref)], .int .i64 (hmakeE (hmake hp0 (newO 4 0 ByteArray.empty [])))]) ?_
 refine sp (.agg #[.int .i64 ((hmakeV (hmake hp0 (newO 4 0 ByteArray.empty [])) 4).kind), .int .i64 ((hmakeV (hmake hp0 (newO 4 0 ByteArray.empty [])) 4).p), .int .i64 ((hmakeV (hmake hp0 (newO 4 0 ByteArray.empty [])) 4).q), .string ((hmakeV (hmake hp0 (newO 4 0 ByteArray.empty [])) 4).str), .int .i64 ((hmakeV (hmake hp0 (newO 4 0 ByteArray.empty [])) 4).ref)]) ?_
 refine sp (.int .i64 (hmakeE (hmake hp0 (newO 4 0 ByteArray.empty [])))) ?_
 refine s_alloc (.agg #[.int .i64 0, .int .i64 0, .int .i64 0, .string ByteArray.empty, .int .i64 0]) #[.int .i64 0, .int .i64 0, .int .i64 0, .string ByteArray.empty, .int .i64 0] (fun g7 => ?_)
 refine s_store 0 #[.int .i64 ((hmakeV (hmake hp0 (newO 4 0 ByteArray.empty [])) 4).kind), .int .i64 ((hmakeV (hmake hp0 (newO 4 0 ByteArray.empty [])) 4).p), .int .i64 ((hmakeV (hmake hp0 (newO 4 0 ByteArray.empty [])) 4).q), .string ((hmakeV (hmake hp0 (newO 4 0 ByteArray.empty [])) 4).str), .int .i64 ((hmakeV (hmake hp0 (newO 4 0 ByteArray.empty [])) 4).ref)] ?_
 refine sp (.int .i64 (hmakeE (hmake hp0 (newO 4 0 ByteArray.empty [])))) ?_
 refine s_nt ?_
 refine k_seq ?_
 refine k_seq ?_
 refine k_held [blkA g7 #[.int .i64 ((hmakeV (hmake hp0 (newO 4 0 ByteArray.empty [])) 4).kind), .int .i64 ((hmakeV (hmake hp0 (newO 4 0 ByteArray.empty [])) 4).p), .int .i64 ((hmakeV (hmake hp0 (newO 4 0 ByteArray.empty [])) 4).q), .string ((hmakeV (hmake hp0 (newO 4 0 ByteArray.empty [])) 4).str), .int .i64 ((hmakeV (hmake hp0 (newO 4 0 ByteArray.empty [])) 4).ref)] 26, blkA g4 #[.int .i64 ((hmakeV hp0 4).kind), .int .i64 ((hmakeV hp0 4).p), .int .i64 ((hmakeV hp0 4).q), .string ((hmakeV hp0 4).str), .int .i64 ((hmakeV hp0 4).ref)] 26] ?_
 refine hp_ 0 [0, 1] (pB g4 0) ?_
 refine h_l 1 rfl [0, 1] (fun _ => (t_load 1 (.int .i64 ((hmakeV hp0 4).kind)))) ?_
 refine h_l 2 rfl [0, 1] (fun _ => (Lt.to t_cmp (congrArg Value.bool ((by kernel_rfl) : (decide ((hmakeV hp0 4).kind ≠ 4)) = false)))) ?_
 refine hp_ 3 [0, 1] (.bool false) ?_
 refine hp_ 4 [0, 1] (pB hb1 0) ?_
 refine h_l 5 rfl [0, 1] (fun _ => (t_loadA 0 #[.int .i64 ((hmakeV (hmake hp0 (newO 4 0 ByteArray.empty [])) 4).kind), .int .i64 ((hmakeV (hmake hp0 (newO 4 0 ByteArray.empty [])) 4).p), .int .i64 ((hmakeV (hmake hp0 (newO 4 0 ByteArray.empty [])) 4).q), .string ((hmakeV (hmake hp0 (newO 4 0 ByteArray.empty [])) 4).str), .int .i64 ((hmakeV (hmake hp0 (newO 4 0 ByteArray.empty [])) 4).ref)])) ?_
 refine h_stepS 6 ?_
 refine s_vcall (fun _ h => lstr_s ⟨#[95, 95, 108, 101, 110]⟩) ?_
 rintro _ rfl
 refine s_nil (xs_held [0, 1] ?_)
 refine h_stepS 7 ?_
 refine s_vcall (fun _ h => lstr_s ⟨#[120]⟩) ?_
 rintro _ rfl
 refine s_nil (xs_held [0, 1] ?_)
 refine h_stepS 8 ?_
 refine s_call [1] (hset_s (st := (hmake (hmake hp0 (newO 4 0 ByteArray.empty [])) (newO 4 0 ByteArray.empty []))) hs6 (by omega) (hmakeV (hmake hp0 (newO 4 0 ByteArray.empty [])) 4) (strV ⟨#[95, 95, 108, 101, 110]⟩) (strV ⟨#[120]⟩)) ?_
 rintro _ _ ⟨rfl, rfl⟩
 have hi8 := hset_inv hi5 (hmakeV (hmake hp0 (newO 4 0 ByteArray.empty [])) 4) (strV ⟨#[95, 95, 108, 101, 110]⟩) (strV ⟨#[120]⟩)
 have hs9 := hset_sm hi5 hs6 (hmakeV (hmake hp0 (newO 4 0 ByteArray.empty [])) 4) (strV ⟨#[95, 95, 108, 101, 110]⟩) (strV ⟨#[120]⟩)
 refine s_nil (xs_held [1, 1] ?_)
 refine h_l 9 rfl [1, 1] (fun _ => (Lt.to t_cmp (congrArg Value.bool ((by kernel_rfl) : (decide ((hsetE (hmake (hmake hp0 (newO 4 0 ByteArray.empty [])) (newO 4 0 ByteArray.empty [])) (hmakeV (hmake hp0 (newO 4 0 ByteArray.empty [])) 4) (strV ⟨#[95, 95, 108, 101, 110]⟩) (strV ⟨#[120]⟩)) ≠ 0)) = false)))) ?_
 refine hp_ 10 [1, 1] (.bool false) ?_
 refine hp_ 11 [1, 1] (.bool false) ?_
 refine hp_ 12 [1, 1] (pB hb1 0) ?_
 refine h_l 13 rfl [1, 1] (fun _ => (t_loadA 1 #[.int .i64 ((hmakeV hp0 4).kind), .int .i64 ((hmakeV hp0 4).p), .int .i64 ((hmakeV hp0 4).q), .string ((hmakeV hp0 4).str), .int .i64 ((hmakeV hp0 4).ref)])) ?_
 refine h_l 14 rfl [1, 1] (fun _ => (t_loadA 0 #[.int .i64 ((hmakeV (hmake hp0 (newO 4 0 ByteArray.empty [])) 4).kind), .int .i64 ((hmakeV (hmake hp0 (newO 4 0 ByteArray.empty [])) 4).p), .int .i64 ((hmakeV (hmake hp0 (newO 4 0 ByteArray.empty [])) 4).q), .string ((hmakeV (hmake hp0 (newO 4 0 ByteArray.empty [])) 4).str), .int .i64 ((hmakeV (hmake hp0 (newO 4 0 ByteArray.empty [])) 4).ref)])) ?_
 refine h_stepS 15 ?_
 refine s_call [0] (hsetmeta_s (st := (hset (hmake (hmake hp0 (newO 4 0 ByteArray.empty [])) (newO 4 0 ByteArray.empty [])) (hmakeV (hmake hp0 (newO 4 0 ByteArray.empty [])) 4) (strV ⟨#[95, 95, 108, 101, 110]⟩) (strV ⟨#[120]⟩))) (hmakeV hp0 4) (hmakeV (hmake hp0 (newO 4 0 ByteArray.empty [])) 4)) ?_
 rintro _ _ ⟨rfl, rfl⟩
 have hi10 := hsetMeta_inv hi8 (hmakeV hp0 4) (hmakeV (hmake hp0 (newO 4 0 ByteArray.empty [])) 4)
 have hs11 := hsetMeta_sm hs9 (hmakeV hp0 4) (hmakeV (hmake hp0 (newO 4 0 ByteArray.empty [])) 4)
 refine s_nil (xs_held [1, 1] ?_)
 refine h_l 16 rfl [1, 1] (fun _ => (Lt.to t_cmp (congrArg Value.bool ((by kernel_rfl) : (decide ((hsetMetaE (hset (hmake (hmake hp0 (newO 4 0 ByteArray.empty [])) (newO 4 0 ByteArray.empty [])) (hmakeV (hmake hp0 (newO 4 0 ByteArray.empty [])) 4) (strV ⟨#[95, 95, 108, 101, 110]⟩) (strV ⟨#[120]⟩)) (hmakeV hp0 4) (hmakeV (hmake hp0 (newO 4 0 ByteArray.empty [])) 4)) ≠ 0)) = false)))) ?_
 refine hp_ 17 [1, 1] (.bool false) ?_
 refine h_doneS ?_
 refine xs_then ?_
 refine k_false ?_
 refine k_st ?_
 refine k_sr ?_
 refine sp (pB hb1 0) ?_
 refine s_lt (t_loadA 2 #[.int .i64 ((hmakeV hp0 4).kind), .int .i64 ((hmakeV hp0 4).p), .int .i64 ((hmakeV hp0 4).q), .string ((hmakeV hp0 4).str), .int .i64 ((hmakeV hp0 4).ref)]) ?_
 refine s_call [0] (hdl_s (st := (hsetMeta (hset (hmake (hmake hp0 (newO 4 0 ByteArray.empty [])) (newO 4 0 ByteArray.empty [])) (hmakeV (hmake hp0 (newO 4 0 ByteArray.empty [])) 4) (strV ⟨#[95, 95, 108, 101, 110]⟩) (strV ⟨#[120]⟩)) (hmakeV hp0 4) (hmakeV (hmake hp0 (newO 4 0 ByteArray.empty [])) 4))) hs11 (by omega) (hmakeV hp0 4) ⟨#[95, 95, 108, 101, 110]⟩) ?_
 rintro _ _ ⟨rfl, rfl⟩
 refine s_vcall (fun _ h => lstr_s ⟨#[120]⟩) ?_
 rintro _ rfl
 refine s_lt (Lt.to (t_eqS (fun w => (eqVlT (hdl (hsetMeta (hset (hmake (hmake hp0 (newO 4 0 ByteArray.empty [])) (newO 4 0 ByteArray.empty [])) (hmakeV (hmake hp0 (newO 4 0 ByteArray.empty [])) 4) (strV ⟨#[95, 95, 108, 101, 110]⟩) (strV ⟨#[120]⟩)) (hmakeV hp0 4) (hmakeV (hmake hp0 (newO 4 0 ByteArray.empty [])) 4)) (hmakeV hp0 4) ⟨#[95, 95, 108, 101, 110]⟩) (strV ⟨#[120]⟩) w).1)) (congrArg Value.bool ((by kernel_rfl) : (decide ((hdl (hsetMeta (hset (hmake (hmake hp0 (newO 4 0 ByteArray.empty [])) (newO 4 0 ByteArray.empty [])) (hmakeV (hmake hp0 (newO 4 0 ByteArray.empty [])) 4) (strV ⟨#[95, 95, 108, 101, 110]⟩) (strV ⟨#[120]⟩)) (hmakeV hp0 4) (hmakeV (hmake hp0 (newO 4 0 ByteArray.empty [])) 4)) (hmakeV hp0 4) ⟨#[95, 95, 108, 101, 110]⟩) = (strV ⟨#[120]⟩))) = true))) ?_
 refine sp (.bool true) ?_
 refine sp (pB hb1 0) ?_
 refine s_lt (t_loadA 1 #[.int .i64 ((hmakeV (hmake hp0 (newO 4 0 ByteArray.empty [])) 4).kind), .int .i64 ((hmakeV (hmake hp0 (newO 4 0 ByteArray.empty [])) 4).p), .int .i64 ((hmakeV (hmake hp0 (newO 4 0 ByteArray.empty [])) 4).q), .string ((hmakeV (hmake hp0 (newO 4 0 ByteArray.empty [])) 4).str), .int .i64 ((hmakeV (hmake hp0 (newO 4 0 ByteArray.empty [])) 4).ref)]) ?_
 refine s_call [0] (hdl_s (st := (hsetMeta (hset (hmake (hmake hp0 (newO 4 0 ByteArray.empty [])) (newO 4 0 ByteArray.empty [])) (hmakeV (hmake hp0 (newO 4 0 ByteArray.empty [])) 4) (strV ⟨#[95, 95, 108, 101, 110]⟩) (strV ⟨#[120]⟩)) (hmakeV hp0 4) (hmakeV (hmake hp0 (newO 4 0 ByteArray.empty [])) 4))) hs11 (by omega) (hmakeV (hmake hp0 (newO 4 0 ByteArray.empty [])) 4) ⟨#[95, 95, 108, 101, 110]⟩) ?_
 rintro _ _ ⟨rfl, rfl⟩
 refine s_lt (t_kern (.agg #[.int .i64 0, .int .i64 0, .int .i64 0, .string ByteArray.empty, .int .i64 0])) ?_
 refine s_lt (Lt.to (t_eqS (fun w => (eqVlT (hdl (hsetMeta (hset (hmake (hmake hp0 (newO 4 0 ByteArray.empty [])) (newO 4 0 ByteArray.empty [])) (hmakeV (hmake hp0 (newO 4 0 ByteArray.empty [])) 4) (strV ⟨#[95, 95, 108, 101, 110]⟩) (strV ⟨#[120]⟩)) (hmakeV hp0 4) (hmakeV (hmake hp0 (newO 4 0 ByteArray.empty [])) 4)) (hmakeV (hmake hp0 (newO 4 0 ByteArray.empty [])) 4) ⟨#[95, 95, 108, 101, 110]⟩) zVl w).1)) (congrArg Value.bool ((by kernel_rfl) : (decide ((hdl (hsetMeta (hset (hmake (hmake hp0 (newO 4 0 ByteArray.empty [])) (newO 4 0 ByteArray.empty [])) (hmakeV (hmake hp0 (newO 4 0 ByteArray.empty [])) 4) (strV ⟨#[95, 95, 108, 101, 110]⟩) (strV ⟨#[120]⟩)) (hmakeV hp0 4) (hmakeV (hmake hp0 (newO 4 0 ByteArray.empty [])) 4)) (hmakeV (hmake hp0 (newO 4 0 ByteArray.empty [])) 4) ⟨#[95, 95, 108, 101, 110]⟩) = zVl)) = true))) ?_
 refine sp (.bool true) ?_
 refine sp (.bool true) ?_
 refine s_nt ?_
 refine k_ret ?_
 exact xs_fin [.bool true] [] (SI.tmp 0 SI.nil) (fun _ h => h.re [] [0, 0, 0]) ⟨rfl, rfl⟩
theorem made_s {Z : Zone} {F : List Asr} {lv : Value} {l : List Opc} (hl0 : Kn Z OpT lv l) : SF Tryz.prog 7 #[lv] Z F fun r Bs => ∃ hb gb lx, r = .tuple #[.agg #[ptrV hb, ptrV gb, lx], .bool true] ∧ Bs = hpA hb (made l).1 :: rhA gb (made l).1 :: own VlT lx (made l).2 :: F := by
 refine sf_enter Tryz.func7 152 [(0, lv)] (fun w0 => ?_)
 refine k_fact (fun H h => (hl0.get h).len_le) (fun lA => ?_)
 refine k_sr ?_
 refine s_alloc (.agg #[.pointer none, .pointer none, (.slice none 0 0)]) #[.pointer none, .pointer none, (.slice none 0 0)] (fun g1 => ?_)
 refine sp (.bool false) ?_
 refine s_nr ?_
 refine s_pcall (fun _ h => hnew_s) ?_
 rintro _ _ ⟨hb2, rfl, rfl⟩
 refine s_pcall (fun _ h => rhnew_s) ?_
 rintro _ _ ⟨hb3, rfl, rfl⟩
 refine s_lt (t_kern (.agg #[pB hb2 0, pB hb3 0, (.slice none 0 0)])) ?_
 refine s_alloc (.agg #[.pointer none, .pointer none, (.slice none 0 0)]) #[.pointer none, .pointer none, (.slice none 0 0)] (fun g4 => ?_)
 refine s_store 0 #[pB hb2 0, pB hb3 0, (.slice none 0 0)] ?_
 refine s_nt ?_
 refine k_seq ?_
 refine k_sr ?_
 refine sp (pB g4 0) ?_
 refine s_lt (t_load 0 (pB hb2 0)) ?_
 refine sp (.bool false) ?_
 refine s_nt ?_
 refine k_false ?_
 refine k_st ?_
 refine k_seq ?_
 refine k_sr ?_
 refine sp (.int .i64 0) ?_
 refine s_nt ?_
 refine k_block ?_
 refine k_mem (fun _ h => Holds.nilS (T := VlT) h) ?_
 refine k_mem (Bs := own VlT (.slice none 0 0) ((mst l 0).2) :: blkA g4 #[pB hb2 0, pB hb3 0, (.slice none 0 0)] 35 :: rhA hb3 ((mst l 0).1) :: hpA hb2 ((mst l 0).1) :: blkA g1 #[.pointer none, .pointer none, (.slice none 0 0)] 35 :: F) (fun _ h => h) ?_
 refine k_loop (ι := Value × Nat) (fun (lx, i) => i ≤ 100 ∧ i ≤ l.length) (fun (lx, i) => [(0, lv), (2, pB g1 0), (4, pB g4 0), (5, .int .i64 (i : Int))]) (fun (lx, i) => own VlT lx ((mst l i).2) :: blkA g4 #[pB hb2 0, pB hb3 0, lx] 35 :: rhA hb3 ((mst l i).1) :: hpA hb2 ((mst l i).1) :: blkA g1 #[.pointer none, .pointer none, (.slice none 0 0)] 35 :: F) (fun (lx, i) => 100 - i) ((.slice none 0 0), 0) ⟨by omega, by omega⟩ (sub_of rfl ⟨⟨rfl, rfl⟩, ⟨⟨rfl, rfl⟩, ⟨⟨rfl, rfl⟩, ⟨⟨rfl, rfl⟩, trivial⟩⟩⟩⟩) (fun _ h => h.re [0, 0, 0, 0, 0] []) ?_
 rintro ⟨lx, i⟩ hi5
 replace hi5 : i ≤ 100 ∧ i ≤ l.length := hi5
 show SK _ _ _ _ _ [(0, lv), (2, .pointer (some ⟨g1, 0, none⟩)), (4, .pointer (some ⟨g4, 0, none⟩)), (5, .int .i64 (i : Int))] _ (own VlT lx ((mst l i).2) :: blkA g4 #[.pointer (some ⟨hb2, 0, none⟩), .pointer (some ⟨hb3, 0, none⟩), lx] 35 :: rhA hb3 ((mst l i).1) :: hpA hb2 ((mst l i).1) :: blkA g1 #[.pointer none, .pointer none, (.slice none 0 0)] 35 :: F)
 obtain ⟨hinv, hsm, hll⟩ := mst_good l i
 refine k_seq ?_
 refine k_cut (ι := Unit) (fun _ => True) (fun _ => [(0, lv), (2, pB g1 0), (4, pB g4 0), (5, .int .i64 (i : Int)), (27, .bool ((decide ((i : Int) < (l.length : Int))) && (decide ((i : Int) < 100))))]) (fun _ => own VlT lx ((mst l i).2) :: blkA g4 #[pB hb2 0, pB hb3 0, lx] 35 :: rhA hb3 ((mst l i).1) :: hpA hb2 ((mst l i).1) :: blkA g1 #[.pointer none, .pointer none, (.slice none 0 0)] 35 :: F) ?_ (fun _ _ => ?_)
 ·
  refine k_reg ?_
  refine sp (.int .i64 (i : Int)) ?_
  refine sp lv ?_
  refine s_lt (t_len OpT_ok Tryz.underlying22 (.zn hl0)) ?_
  refine s_lt t_cmp ?_
  refine sp (.bool (decide ((i : Int) < (l.length : Int)))) ?_
  refine s_fork 24 (decide ((i : Int) < (l.length : Int))) (fun c6 => ?_) (fun c6 => ?_)
  ·
   have p7 := of_decide_eq_true c6
   refine sp (.int .i64 (i : Int)) ?_
   refine s_lt t_cmp ?_
   refine sp (.bool (decide ((i : Int) < 100))) ?_
   refine s_nil ?_
   exact xs_cut () trivial (sub_of rfl ⟨⟨rfl, rfl⟩, ⟨⟨rfl, rfl⟩, ⟨⟨rfl, rfl⟩, ⟨⟨rfl, rfl⟩, ⟨⟨rfl, show Value.bool (decide ((i : Int) < 100)) = Value.bool ((decide ((i : Int) < (l.length : Int))) && (decide ((i : Int) < 100))) by first | (simp only [c6, bls]; done) | simp [c6]⟩, trivial⟩⟩⟩⟩⟩) (fun _ h => h.re [0, 0, 0, 0, 0] [])
  ·
   have p8 := of_decide_eq_false c6
   refine s_skip ?_
   refine s_skip ?_
   refine sp (.bool false) ?_
   refine s_nil ?_
   exact xs_cut () trivial (sub_of rfl ⟨⟨rfl, rfl⟩, ⟨⟨rfl, rfl⟩, ⟨⟨rfl, rfl⟩, ⟨⟨rfl, rfl⟩, ⟨⟨rfl, show Value.bool false = Value.bool ((decide ((i : Int) < (l.length : Int))) && (decide ((i : Int) < 100))) by first | (simp only [c6, bls]; done) | simp [c6]⟩, trivial⟩⟩⟩⟩⟩) (fun _ h => h.re [0, 0, 0, 0, 0] [])
 ·
  refine k_cond ((decide ((i : Int) < (l.length : Int))) && (decide ((i : Int) < 100))) (fun c9 => ?_) (fun c9 => ?_)
  ·
   obtain ⟨c10, c11⟩ := and_t c9
   have p12 := of_decide_eq_true c10
   have p13 := of_decide_eq_true c11
   refine k_st ?_
   refine k_seq ?_
   refine k_block ?_
   obtain ⟨y14, hy15⟩ : ∃ y, l[i]? = some y := ⟨_, List.getElem?_eq_getElem (by (try simp only [lnm]); omega)⟩
   refine k_seq ?_
   refine k_held [own VlT lx ((mst l i).2), blkA g4 #[pB hb2 0, pB hb3 0, lx] 35, blkA g1 #[.pointer none, .pointer none, (.slice none 0 0)] 35] ?_
   refine h_l 0 rfl [0, 0, 2] (fun _ => (t_loadA 1 #[pB hb2 0, pB hb3 0, lx])) ?_
   refine hp_ 1 [0, 0, 2] lv ?_
   refine hp_ 2 [0, 0, 2] (.int .i64 (i : Int)) ?_
   refine h_l 3 rfl [0, 0, 2] (fun _ => (t_index OpT_ok Tryz.underlying22 (.zn hl0) (i : Int) i (by omega) (by (try simp only [lnm]); omega) (by omega))) ?_
   refine hp_ 4 [0, 0, 2] (.pointer (some ((elemAt OpT.size lv i).add 1))) ?_
   refine h_l 5 rfl [0, 0, 2] (fun _ => (t_loadG 1 #[.int .i64 y14.a.v.kind, .int .i64 y14.a.v.p, .int .i64 y14.a.v.q, .string y14.a.v.str, .int .i64 y14.a.v.ref, .int .i64 y14.a.obj] OpT_ok (.zn hl0) hy15)) ?_
   refine h_l 7 rfl [0, 0, 2] (fun _ => (t_loadA 1 #[pB hb2 0, pB hb3 0, lx])) ?_
   refine hp_ 8 [0, 0, 2] lv ?_
   refine hp_ 9 [0, 0, 2] (.int .i64 (i : Int)) ?_
   refine h_l 10 rfl [0, 0, 2] (fun _ => (t_index OpT_ok Tryz.underlying22 (.zn hl0) (i : Int) i (by omega) (by (try simp only [lnm]); omega) (by omega))) ?_
   refine hp_ 11 [0, 0, 2] (.pointer (some ((elemAt OpT.size lv i).add 7))) ?_
   refine h_l 12 rfl [0, 0, 2] (fun _ => (t_loadG 7 #[.int .i64 y14.b.v.kind, .int .i64 y14.b.v.p, .int .i64 y14.b.v.q, .string y14.b.v.str, .int .i64 y14.b.v.ref, .int .i64 y14.b.obj] OpT_ok (.zn hl0) hy15)) ?_
   refine h_l 14 rfl [0, 0, 2] (fun _ => (t_loadA 1 #[pB hb2 0, pB hb3 0, lx])) ?_
   refine hp_ 15 [0, 0, 2] lv ?_
   refine hp_ 16 [0, 0, 2] (.int .i64 (i : Int)) ?_
   refine h_l 17 rfl [0, 0, 2] (fun _ => (t_index OpT_ok Tryz.underlying22 (.zn hl0) (i : Int) i (by omega) (by (try simp only [lnm]); omega) (by omega))) ?_
   refine hp_ 18 [0, 0, 2] (.pointer (some ((elemAt OpT.size lv i).add 13))) ?_
   refine h_l 19 rfl [0, 0, 2] (fun _ => (t_loadG 13 #[.int .i64 y14.c.v.kind, .int .i64 y14.c.v.p, .int .i64 y14.c.v.q, .string y14.c.v.str, .int .i64 y14.c.v.ref, .int .i64 y14.c.obj] OpT_ok (.zn hl0) hy15)) ?_
   refine h_join (ι := Nat × Nat × Nat) 3 #[true, true, true, true, true, true, true, true, true, true, true, true, true, true, true, true, true, true, true, true, true, true, true, true, false, false, false] (fun (g16, g17, g18) => [(0, lv), (2, pB g1 0), (4, pB g4 0), (5, .int .i64 (i : Int)), (6, pB g16 0), (7, pB g17 0), (8, pB g18 0), (36, .agg #[.int .i64 ((ofS ((mst l i).2) y14.a).kind), .int .i64 ((ofS ((mst l i).2) y14.a).p), .int .i64 ((ofS ((mst l i).2) y14.a).q), .string ((ofS ((mst l i).2) y14.a).str), .int .i64 ((ofS ((mst l i).2) y14.a).ref)]), (43, .agg #[.int .i64 ((ofS ((mst l i).2) y14.b).kind), .int .i64 ((ofS ((mst l i).2) y14.b).p), .int .i64 ((ofS ((mst l i).2) y14.b).q), .string ((ofS ((mst l i).2) y14.b).str), .int .i64 ((ofS ((mst l i).2) y14.b).ref)]), (50, .agg #[.int .i64 ((ofS ((mst l i).2) y14.c).kind), .int .i64 ((ofS ((mst l i).2) y14.c).p), .int .i64 ((ofS ((mst l i).2) y14.c).q), .string ((ofS ((mst l i).2) y14.c).str), .int .i64 ((ofS ((mst l i).2) y14.c).ref)])]) (fun (g16, g17, g18) => blkA g18 #[.int .i64 0, .int .i64 0, .int .i64 0, .string ByteArray.empty, .int .i64 0] 26 :: blkA g17 #[.int .i64 0, .int .i64 0, .int .i64 0, .string ByteArray.empty, .int .i64 0] 26 :: blkA g16 #[.int .i64 0, .int .i64 0, .int .i64 0, .string ByteArray.empty, .int .i64 0] 26 :: own VlT lx ((mst l i).2) :: blkA g4 #[pB hb2 0, pB hb3 0, lx] 35 :: rhA hb3 ((mst l i).1) :: hpA hb2 ((mst l i).1) :: blkA g1 #[.pointer none, .pointer none, (.slice none 0 0)] 35 :: F) ?_ (fun hj64 => ?_)
   ·
    rintro ⟨g16, g17, g18⟩
    try dsimp only
    refine h_stepS 24 ?_
    refine s_store 2 #[.int .i64 ((ofS ((mst l i).2) y14.a).kind), .int .i64 ((ofS ((mst l i).2) y14.a).p), .int .i64 ((ofS ((mst l i).2) y14.a).q), .string ((ofS ((mst l i).2) y14.a).str), .int .i64 ((ofS ((mst l i).2) y14.a).ref)] ?_
    refine s_nil (xs_held [3, 3, 5] ?_)
    refine h_stepS 25 ?_
    refine s_store 1 #[.int .i64 ((ofS ((mst l i).2) y14.b).kind), .int .i64 ((ofS ((mst l i).2) y14.b).p), .int .i64 ((ofS ((mst l i).2) y14.b).q), .string ((ofS ((mst l i).2) y14.b).str), .int .i64 ((ofS ((mst l i).2) y14.b).ref)] ?_
    refine s_nil (xs_held [3, 3, 5] ?_)
    refine h_stepS 26 ?_
    refine s_store 0 #[.int .i64 ((ofS ((mst l i).2) y14.c).kind), .int .i64 ((ofS ((mst l i).2) y14.c).p), .int .i64 ((ofS ((mst l i).2) y14.c).q), .string ((ofS ((mst l i).2) y14.c).str), .int .i64 ((ofS ((mst l i).2) y14.c).ref)] ?_
    refine s_nil (xs_held [3, 3, 5] ?_)
    refine h_doneS ?_
    refine xs_then ?_
    refine k_sr ?_
    refine s_lt (t_kern (.agg #[.int .i64 0, .int .i64 0, .int .i64 0, .string ByteArray.empty, .int .i64 0])) ?_
    refine s_lt (t_kern (.agg #[.int .i64 0, .int .i64 0, .int .i64 0, .string ByteArray.empty, .int .i64 0])) ?_
    refine s_alloc (.agg #[.int .i64 0, .int .i64 0, .int .i64 0, .string ByteArray.empty, .int .i64 0]) #[.int .i64 0, .int .i64 0, .int .i64 0, .string ByteArray.empty, .int .i64 0] (fun g65 => ?_)
    refine s_alloc (.agg #[.int .i64 0, .int .i64 0, .int .i64 0, .string ByteArray.empty, .int .i64 0]) #[.int .i64 0, .int .i64 0, .int .i64 0, .string ByteArray.empty, .int .i64 0] (fun g66 => ?_)
    refine s_store 1 #[.int .i64 0, .int .i64 0, .int .i64 0, .string ByteArray.empty, .int .i64 0] ?_
    refine s_store 0 #[.int .i64 0, .int .i64 0, .int .i64 0, .string ByteArray.empty, .int .i64 0] ?_
    refine s_nr ?_
    refine sp (.int .i64 0) ?_
    refine sp (.int .i64 0) ?_
    refine s_nt ?_
    refine k_seq ?_
    refine k_sr ?_
    refine sp lv ?_
    refine sp (.int .i64 (i : Int)) ?_
    refine s_lt (t_index OpT_ok Tryz.underlying22 (.zn hl0) (i : Int) i (by omega) (by (try simp only [lnm]); omega) (by omega)) ?_
    refine sp (.pointer (some (elemAt OpT.size lv i))) ?_
    refine s_lt (t_loadF 0 OpT_ok (.zn hl0) hy15) ?_
    refine s_nt ?_
    refine k_block ?_
    refine k_sr ?_
    refine s_lt t_cmp ?_
    refine sp (.bool (decide (y14.kind = 0))) ?_
    refine s_nt ?_
    refine k_cond (decide (y14.kind = 0)) (fun c67 => ?_) (fun c67 => ?_)
    ·
     have p68 := of_decide_eq_true c67
     refine k_sr ?_
     refine sp (pB g4 0) ?_
     refine s_lt (t_load 6 (pB hb2 0)) ?_
     refine s_call [8] (hnewtable_s (st := (mst l i).1) (by have := hsm.len; omega)) ?_
     rintro _ _ ⟨rfl, rfl⟩
     refine sp (.tuple #[.agg #[.int .i64 ((hmakeV ((mst l i).1) 4).kind), .int .i64 ((hmakeV ((mst l i).1) 4).p), .int .i64 ((hmakeV ((mst l i).1) 4).q), .string ((hmakeV ((mst l i).1) 4).str), .int .i64 ((hmakeV ((mst l i).1) 4).ref)], .int .i64 (hmakeE ((mst l i).1))]) ?_
     refine sp (.agg #[.int .i64 ((hmakeV ((mst l i).1) 4).kind), .int .i64 ((hmakeV ((mst l i).1) 4).p), .int .i64 ((hmakeV ((mst l i).1) 4).q), .string ((hmakeV ((mst l i).1) 4).str), .int .i64 ((hmakeV ((mst l i).1) 4).ref)]) ?_
     refine sp (.int .i64 (hmakeE ((mst l i).1))) ?_
     refine s_store 2 #[.int .i64 ((hmakeV ((mst l i).1) 4).kind), .int .i64 ((hmakeV ((mst l i).1) 4).p), .int .i64 ((hmakeV ((mst l i).1) 4).q), .string ((hmakeV ((mst l i).1) 4).str), .int .i64 ((hmakeV ((mst l i).1) 4).ref)] ?_
     refine sp (.int .i64 (hmakeE ((mst l i).1))) ?_
     refine s_nt ?_
     refine k_reg ?_
     refine sp (pB g4 1) ?_
     refine s_lt (t_load 7 (pB hb3 0)) ?_
     refine s_call [8] (rhnewtable_s (st := (mst l i).1) (by have := hsm.len; omega)) ?_
     rintro _ _ ⟨rfl, rfl⟩
     refine sp (.tuple #[.agg #[.int .i64 ((hmakeV ((mst l i).1) 4).kind), .int .i64 ((hmakeV ((mst l i).1) 4).p), .int .i64 ((hmakeV ((mst l i).1) 4).q), .string ((hmakeV ((mst l i).1) 4).str), .int .i64 ((hmakeV ((mst l i).1) 4).ref)], .int .i64 (hmakeE ((mst l i).1))]) ?_
     refine sp (.agg #[.int .i64 ((hmakeV ((mst l i).1) 4).kind), .int .i64 ((hmakeV ((mst l i).1) 4).p), .int .i64 ((hmakeV ((mst l i).1) 4).q), .string ((hmakeV ((mst l i).1) 4).str), .int .i64 ((hmakeV ((mst l i).1) 4).ref)]) ?_
     refine sp (.int .i64 (hmakeE ((mst l i).1))) ?_
     refine s_store 2 #[.int .i64 ((hmakeV ((mst l i).1) 4).kind), .int .i64 ((hmakeV ((mst l i).1) 4).p), .int .i64 ((hmakeV ((mst l i).1) 4).q), .string ((hmakeV ((mst l i).1) 4).str), .int .i64 ((hmakeV ((mst l i).1) 4).ref)] ?_
     refine sp (.int .i64 (hmakeE ((mst l i).1))) ?_
     refine s_nil ?_
     refine xs_block ?_
     refine xs_then ?_
     refine k_seq ?_
     refine k_sr ?_
     refine s_lt (t_loadA 3 #[.int .i64 ((hmakeV ((mst l i).1) 4).kind), .int .i64 ((hmakeV ((mst l i).1) 4).p), .int .i64 ((hmakeV ((mst l i).1) 4).q), .string ((hmakeV ((mst l i).1) 4).str), .int .i64 ((hmakeV ((mst l i).1) 4).ref)]) ?_
     refine s_lt (t_loadA 2 #[.int .i64 ((hmakeV ((mst l i).1) 4).kind), .int .i64 ((hmakeV ((mst l i).1) 4).p), .int .i64 ((hmakeV ((mst l i).1) 4).q), .string ((hmakeV ((mst l i).1) 4).str), .int .i64 ((hmakeV ((mst l i).1) 4).ref)]) ?_
     refine s_lt (Lt.to (t_eqS (fun w => (eqVlT (hmakeV ((mst l i).1) 4) (hmakeV ((mst l i).1) 4) w).2)) (congrArg Value.bool ((congrArg Bool.not (decide_eq_true rfl : (decide ((hmakeV ((mst l i).1) 4) = (hmakeV ((mst l i).1) 4))) = true)).trans rfl : (!(decide ((hmakeV ((mst l i).1) 4) = (hmakeV ((mst l i).1) 4)))) = false))) ?_
     refine sp (.bool false) ?_
     refine sp (.int .i64 (hmakeE ((mst l i).1))) ?_
     refine sp (.int .i64 (hmakeE ((mst l i).1))) ?_
     refine s_lt (Lt.to t_cmp (congrArg Value.bool (decide_eq_false (fun h => h rfl) : (decide ((hmakeE ((mst l i).1)) ≠ (hmakeE ((mst l i).1)))) = false))) ?_
     refine sp (.bool false) ?_
     refine s_nt ?_
     refine k_false ?_
     refine k_st ?_
     refine k_sr ?_
     refine sp lv ?_
     refine sp (.int .i64 (i : Int)) ?_
     refine s_lt (t_index OpT_ok Tryz.underlying22 (.zn hl0) (i : Int) i (by omega) (by (try simp only [lnm]); omega) (by omega)) ?_
     refine sp (.pointer (some (elemAt OpT.size lv i))) ?_
     refine s_lt (t_loadF 0 OpT_ok (.zn hl0) hy15) ?_
     refine s_lt (Lt.to t_cmp (congrArg Value.bool (decide_eq_true (by have := of_decide_eq_true c67; omega) : (decide (y14.kind ≤ 2)) = true))) ?_
     refine sp (.bool true) ?_
     refine sp (.int .i64 (hmakeE ((mst l i).1))) ?_
     refine s_lt t_cmp ?_
     refine sp (.bool (decide ((hmakeE ((mst l i).1)) = 0))) ?_
     refine s_nt ?_
     refine k_cond (decide ((hmakeE ((mst l i).1)) = 0)) (fun c69 => ?_) (fun c69 => ?_)
     ·
      have p70 := of_decide_eq_true c69
      refine k_reg ?_
      refine sp (pB g4 2) ?_
      refine s_lt (t_load 8 lx) ?_
      refine s_lt (t_loadA 3 #[.int .i64 ((hmakeV ((mst l i).1) 4).kind), .int .i64 ((hmakeV ((mst l i).1) 4).p), .int .i64 ((hmakeV ((mst l i).1) 4).q), .string ((hmakeV ((mst l i).1) 4).str), .int .i64 ((hmakeV ((mst l i).1) 4).ref)]) ?_
      refine s_buildSlice (e := 26) [(0, .agg #[.int .i64 ((hmakeV ((mst l i).1) 4).kind), .int .i64 ((hmakeV ((mst l i).1) 4).p), .int .i64 ((hmakeV ((mst l i).1) 4).q), .string ((hmakeV ((mst l i).1) 4).str), .int .i64 ((hmakeV ((mst l i).1) 4).ref)])] #[.int .i64 ((hmakeV ((mst l i).1) 4).kind), .int .i64 ((hmakeV ((mst l i).1) 4).p), .int .i64 ((hmakeV ((mst l i).1) 4).q), .string ((hmakeV ((mst l i).1) 4).str), .int .i64 ((hmakeV ((mst l i).1) 4).ref)] (fun g71 => ?_) (hb := by kernel_rfl)
      refine s_append (L := (mst l i).2) 8 VlT_ok Tryz.underlying33 (.lit 0 VlT_ok [(hmakeV ((mst l i).1) 4)]) (by show _ * 48 ≤ _; (try simp only [lnm]); omega) (by (try simp only [lnm]); omega) (fun v72 => ?_)
      refine sp (pB g4 2) ?_
      refine s_fact (fun H h => ((Acc.own (T := VlT) (L := ((mst l i).2 ++ [(hmakeV ((mst l i).1) 4)])) 8 rfl) H h).form) (fun hf73 => ?_)
      refine s_store (u := v72) (m := 1) 9 #[pB hb2 0, pB hb3 0, v72] ?_ (hm := by (obtain ⟨_, _, e⟩ := hf73; rw [e]; rfl)) (h1 := by (obtain ⟨_, _, e⟩ := hf73; rw [e]; rfl)) (ha' := by (obtain ⟨_, _, e⟩ := hf73; rw [e]; rfl))
      refine s_nil ?_
      refine xs_block ?_
      refine xs_then ?_
      refine k_reg ?_
      refine sp (.int .i64 (i : Int)) ?_
      refine s_lt (t_add (i : Int) 1 (by (try simp only [lnm]); omega)) ?_
      refine sp (.int .i64 ((i : Int) + 1)) ?_
      refine s_nil ?_
      have hms := mst_succ hy15
      have h1 : (hmake ((mst l i).1) (newO 4 0 ByteArray.empty [])) = (mst l (i + 1)).1 := by rw [hms]; unfold mstep; simp [of_decide_eq_true c67, boxB]
      have h2 : ((mst l i).2 ++ [(hmakeV ((mst l i).1) 4)]) = (mst l (i + 1)).2 := by rw [hms]; unfold mstep; simp_all [boxB]
      refine xs_mem (Bs := blkA g71 #[.int .i64 ((hmakeV ((mst l i).1) 4).kind), .int .i64 ((hmakeV ((mst l i).1) 4).p), .int .i64 ((hmakeV ((mst l i).1) 4).q), .string ((hmakeV ((mst l i).1) 4).str), .int .i64 ((hmakeV ((mst l i).1) 4).ref)] 26 :: rhA hb3 ((mst l (i + 1)).1) :: hpA hb2 ((mst l (i + 1)).1) :: blkA g66 #[.int .i64 ((hmakeV ((mst l i).1) 4).kind), .int .i64 ((hmakeV ((mst l i).1) 4).p), .int .i64 ((hmakeV ((mst l i).1) 4).q), .string ((hmakeV ((mst l i).1) 4).str), .int .i64 ((hmakeV ((mst l i).1) 4).ref)] 26 :: blkA g65 #[.int .i64 ((hmakeV ((mst l i).1) 4).kind), .int .i64 ((hmakeV ((mst l i).1) 4).p), .int .i64 ((hmakeV ((mst l i).1) 4).q), .string ((hmakeV ((mst l i).1) 4).str), .int .i64 ((hmakeV ((mst l i).1) 4).ref)] 26 :: blkA g18 #[.int .i64 ((ofS ((mst l i).2) y14.c).kind), .int .i64 ((ofS ((mst l i).2) y14.c).p), .int .i64 ((ofS ((mst l i).2) y14.c).q), .string ((ofS ((mst l i).2) y14.c).str), .int .i64 ((ofS ((mst l i).2) y14.c).ref)] 26 :: blkA g17 #[.int .i64 ((ofS ((mst l i).2) y14.b).kind), .int .i64 ((ofS ((mst l i).2) y14.b).p), .int .i64 ((ofS ((mst l i).2) y14.b).q), .string ((ofS ((mst l i).2) y14.b).str), .int .i64 ((ofS ((mst l i).2) y14.b).ref)] 26 :: blkA g16 #[.int .i64 ((ofS ((mst l i).2) y14.a).kind), .int .i64 ((ofS ((mst l i).2) y14.a).p), .int .i64 ((ofS ((mst l i).2) y14.a).q), .string ((ofS ((mst l i).2) y14.a).str), .int .i64 ((ofS ((mst l i).2) y14.a).ref)] 26 :: own VlT v72 ((mst l (i + 1)).2) :: blkA g4 #[pB hb2 0, pB hb3 0, v72] 35 :: blkA g1 #[.pointer none, .pointer none, (.slice none 0 0)] 35 :: F) (fun _ h => by rw [← h1, ← h2]; exact h) ?_
      exact xs_round (v72, i + 1) (by show 100 - (i + 1) < 100 - i; omega) (by show i + 1 ≤ 100 ∧ i + 1 ≤ l.length; omega) (sub_of rfl ⟨⟨rfl, rfl⟩, ⟨⟨rfl, rfl⟩, ⟨⟨rfl, rfl⟩, ⟨⟨rfl, rfl⟩, trivial⟩⟩⟩⟩) (fun _ h => h.re [8, 8, 1, 1, 6] [5, 5, 5, 5, 5, 5])
     ·
      have p74 := of_decide_eq_false c69
      refine k_skip ?_
      refine xs_block ?_
      refine xs_then ?_
      refine k_reg ?_
      refine sp (.int .i64 (i : Int)) ?_
      refine s_lt (t_add (i : Int) 1 (by (try simp only [lnm]); omega)) ?_
      refine sp (.int .i64 ((i : Int) + 1)) ?_
      refine s_nil ?_
      have hms := mst_succ hy15
      have h1 : (hmake ((mst l i).1) (newO 4 0 ByteArray.empty [])) = (mst l (i + 1)).1 := by rw [hms]; unfold mstep; simp [of_decide_eq_true c67, boxB]
      have h2 : (mst l i).2 = (mst l (i + 1)).2 := by rw [hms]; unfold mstep; simp_all [boxB]
      refine xs_mem (Bs := rhA hb3 ((mst l (i + 1)).1) :: hpA hb2 ((mst l (i + 1)).1) :: blkA g66 #[.int .i64 ((hmakeV ((mst l i).1) 4).kind), .int .i64 ((hmakeV ((mst l i).1) 4).p), .int .i64 ((hmakeV ((mst l i).1) 4).q), .string ((hmakeV ((mst l i).1) 4).str), .int .i64 ((hmakeV ((mst l i).1) 4).ref)] 26 :: blkA g65 #[.int .i64 ((hmakeV ((mst l i).1) 4).kind), .int .i64 ((hmakeV ((mst l i).1) 4).p), .int .i64 ((hmakeV ((mst l i).1) 4).q), .string ((hmakeV ((mst l i).1) 4).str), .int .i64 ((hmakeV ((mst l i).1) 4).ref)] 26 :: blkA g18 #[.int .i64 ((ofS ((mst l i).2) y14.c).kind), .int .i64 ((ofS ((mst l i).2) y14.c).p), .int .i64 ((ofS ((mst l i).2) y14.c).q), .string ((ofS ((mst l i).2) y14.c).str), .int .i64 ((ofS ((mst l i).2) y14.c).ref)] 26 :: blkA g17 #[.int .i64 ((ofS ((mst l i).2) y14.b).kind), .int .i64 ((ofS ((mst l i).2) y14.b).p), .int .i64 ((ofS ((mst l i).2) y14.b).q), .string ((ofS ((mst l i).2) y14.b).str), .int .i64 ((ofS ((mst l i).2) y14.b).ref)] 26 :: blkA g16 #[.int .i64 ((ofS ((mst l i).2) y14.a).kind), .int .i64 ((ofS ((mst l i).2) y14.a).p), .int .i64 ((ofS ((mst l i).2) y14.a).q), .string ((ofS ((mst l i).2) y14.a).str), .int .i64 ((ofS ((mst l i).2) y14.a).ref)] 26 :: own VlT lx ((mst l (i + 1)).2) :: blkA g4 #[pB hb2 0, pB hb3 0, lx] 35 :: blkA g1 #[.pointer none, .pointer none, (.slice none 0 0)] 35 :: F) (fun _ h => by rw [← h1, ← h2]; exact h) ?_
      exact xs_round (lx, i + 1) (by show 100 - (i + 1) < 100 - i; omega) (by show i + 1 ≤ 100 ∧ i + 1 ≤ l.length; omega) (sub_of rfl ⟨⟨rfl, rfl⟩, ⟨⟨rfl, rfl⟩, ⟨⟨rfl, rfl⟩, ⟨⟨rfl, rfl⟩, trivial⟩⟩⟩⟩) (fun _ h => h.re [7, 7, 0, 0, 5] [5, 5, 5, 5, 5])
    ·
     have p75 := of_decide_eq_false c67
     refine k_sr ?_
     refine s_lt t_cmp ?_
     refine sp (.bool (decide (y14.kind = 1))) ?_
     refine s_nt ?_
     refine k_cond (decide (y14.kind = 1)) (fun c76 => ?_) (fun c76 => ?_)
     ·
      have p77 := of_decide_eq_true c76
      refine k_sr ?_
      refine sp (pB g4 0) ?_
      refine s_lt (t_load 6 (pB hb2 0)) ?_
      refine s_call [8] (hnewdata_s (st := (mst l i).1) (by have := hsm.len; omega) ⟨#[98, 111, 120]⟩) ?_
      rintro _ _ ⟨rfl, rfl⟩
      refine sp (.tuple #[.agg #[.int .i64 ((hdataV ((mst l i).1) ⟨#[98, 111, 120]⟩).kind), .int .i64 ((hdataV ((mst l i).1) ⟨#[98, 111, 120]⟩).p), .int .i64 ((hdataV ((mst l i).1) ⟨#[98, 111, 120]⟩).q), .string ((hdataV ((mst l i).1) ⟨#[98, 111, 120]⟩).str), .int .i64 ((hdataV ((mst l i).1) ⟨#[98, 111, 120]⟩).ref)], .int .i64 (hdataE ((mst l i).1) ⟨#[98, 111, 120]⟩)]) ?_
      refine sp (.agg #[.int .i64 ((hdataV ((mst l i).1) ⟨#[98, 111, 120]⟩).kind), .int .i64 ((hdataV ((mst l i).1) ⟨#[98, 111, 120]⟩).p), .int .i64 ((hdataV ((mst l i).1) ⟨#[98, 111, 120]⟩).q), .string ((hdataV ((mst l i).1) ⟨#[98, 111, 120]⟩).str), .int .i64 ((hdataV ((mst l i).1) ⟨#[98, 111, 120]⟩).ref)]) ?_
      refine sp (.int .i64 (hdataE ((mst l i).1) ⟨#[98, 111, 120]⟩)) ?_
      refine s_store 2 #[.int .i64 ((hdataV ((mst l i).1) ⟨#[98, 111, 120]⟩).kind), .int .i64 ((hdataV ((mst l i).1) ⟨#[98, 111, 120]⟩).p), .int .i64 ((hdataV ((mst l i).1) ⟨#[98, 111, 120]⟩).q), .string ((hdataV ((mst l i).1) ⟨#[98, 111, 120]⟩).str), .int .i64 ((hdataV ((mst l i).1) ⟨#[98, 111, 120]⟩).ref)] ?_
      refine sp (.int .i64 (hdataE ((mst l i).1) ⟨#[98, 111, 120]⟩)) ?_
      refine s_nt ?_
      refine k_reg ?_
      refine sp (pB g4 1) ?_
      refine s_lt (t_load 7 (pB hb3 0)) ?_
      refine s_call [8] (rhnewdata_s (st := (mst l i).1) (by have := hsm.len; omega) ⟨#[98, 111, 120]⟩) ?_
      rintro _ _ ⟨rfl, rfl⟩
      refine sp (.tuple #[.agg #[.int .i64 ((hdataV ((mst l i).1) ⟨#[98, 111, 120]⟩).kind), .int .i64 ((hdataV ((mst l i).1) ⟨#[98, 111, 120]⟩).p), .int .i64 ((hdataV ((mst l i).1) ⟨#[98, 111, 120]⟩).q), .string ((hdataV ((mst l i).1) ⟨#[98, 111, 120]⟩).str), .int .i64 ((hdataV ((mst l i).1) ⟨#[98, 111, 120]⟩).ref)], .int .i64 (hdataE ((mst l i).1) ⟨#[98, 111, 120]⟩)]) ?_
      refine sp (.agg #[.int .i64 ((hdataV ((mst l i).1) ⟨#[98, 111, 120]⟩).kind), .int .i64 ((hdataV ((mst l i).1) ⟨#[98, 111, 120]⟩).p), .int .i64 ((hdataV ((mst l i).1) ⟨#[98, 111, 120]⟩).q), .string ((hdataV ((mst l i).1) ⟨#[98, 111, 120]⟩).str), .int .i64 ((hdataV ((mst l i).1) ⟨#[98, 111, 120]⟩).ref)]) ?_
      refine sp (.int .i64 (hdataE ((mst l i).1) ⟨#[98, 111, 120]⟩)) ?_
      refine s_store 2 #[.int .i64 ((hdataV ((mst l i).1) ⟨#[98, 111, 120]⟩).kind), .int .i64 ((hdataV ((mst l i).1) ⟨#[98, 111, 120]⟩).p), .int .i64 ((hdataV ((mst l i).1) ⟨#[98, 111, 120]⟩).q), .string ((hdataV ((mst l i).1) ⟨#[98, 111, 120]⟩).str), .int .i64 ((hdataV ((mst l i).1) ⟨#[98, 111, 120]⟩).ref)] ?_
      refine sp (.int .i64 (hdataE ((mst l i).1) ⟨#[98, 111, 120]⟩)) ?_
      refine s_nil ?_
      refine xs_block ?_
      refine xs_then ?_
      refine k_seq ?_
      refine k_sr ?_
      refine s_lt (t_loadA 3 #[.int .i64 ((hdataV ((mst l i).1) ⟨#[98, 111, 120]⟩).kind), .int .i64 ((hdataV ((mst l i).1) ⟨#[98, 111, 120]⟩).p), .int .i64 ((hdataV ((mst l i).1) ⟨#[98, 111, 120]⟩).q), .string ((hdataV ((mst l i).1) ⟨#[98, 111, 120]⟩).str), .int .i64 ((hdataV ((mst l i).1) ⟨#[98, 111, 120]⟩).ref)]) ?_
      refine s_lt (t_loadA 2 #[.int .i64 ((hdataV ((mst l i).1) ⟨#[98, 111, 120]⟩).kind), .int .i64 ((hdataV ((mst l i).1) ⟨#[98, 111, 120]⟩).p), .int .i64 ((hdataV ((mst l i).1) ⟨#[98, 111, 120]⟩).q), .string ((hdataV ((mst l i).1) ⟨#[98, 111, 120]⟩).str), .int .i64 ((hdataV ((mst l i).1) ⟨#[98, 111, 120]⟩).ref)]) ?_
      refine s_lt (Lt.to (t_eqS (fun w => (eqVlT (hdataV ((mst l i).1) ⟨#[98, 111, 120]⟩) (hdataV ((mst l i).1) ⟨#[98, 111, 120]⟩) w).2)) (congrArg Value.bool ((congrArg Bool.not (decide_eq_true rfl : (decide ((hdataV ((mst l i).1) ⟨#[98, 111, 120]⟩) = (hdataV ((mst l i).1) ⟨#[98, 111, 120]⟩))) = true)).trans rfl : (!(decide ((hdataV ((mst l i).1) ⟨#[98, 111, 120]⟩) = (hdataV ((mst l i).1) ⟨#[98, 111, 120]⟩)))) = false))) ?_
      refine sp (.bool false) ?_
      refine sp (.int .i64 (hdataE ((mst l i).1) ⟨#[98, 111, 120]⟩)) ?_
      refine sp (.int .i64 (hdataE ((mst l i).1) ⟨#[98, 111, 120]⟩)) ?_
      refine s_lt (Lt.to t_cmp (congrArg Value.bool (decide_eq_false (fun h => h rfl) : (decide ((hdataE ((mst l i).1) ⟨#[98, 111, 120]⟩) ≠ (hdataE ((mst l i).1) ⟨#[98, 111, 120]⟩))) = false))) ?_
      refine sp (.bool false) ?_
      refine s_nt ?_
      refine k_false ?_
      refine k_st ?_
      refine k_sr ?_
      refine sp lv ?_
      refine sp (.int .i64 (i : Int)) ?_
      refine s_lt (t_index OpT_ok Tryz.underlying22 (.zn hl0) (i : Int) i (by omega) (by (try simp only [lnm]); omega) (by omega)) ?_
      refine sp (.pointer (some (elemAt OpT.size lv i))) ?_
      refine s_lt (t_loadF 0 OpT_ok (.zn hl0) hy15) ?_
      refine s_lt (Lt.to t_cmp (congrArg Value.bool (decide_eq_true (by have := of_decide_eq_true c76; omega) : (decide (y14.kind ≤ 2)) = true))) ?_
      refine sp (.bool true) ?_
      refine sp (.int .i64 (hdataE ((mst l i).1) ⟨#[98, 111, 120]⟩)) ?_
      refine s_lt t_cmp ?_
      refine sp (.bool (decide ((hdataE ((mst l i).1) ⟨#[98, 111, 120]⟩) = 0))) ?_
      refine s_nt ?_
      refine k_cond (decide ((hdataE ((mst l i).1) ⟨#[98, 111, 120]⟩) = 0)) (fun c78 => ?_) (fun c78 => ?_)
      ·
       have p79 := of_decide_eq_true c78
       refine k_reg ?_
       refine sp (pB g4 2) ?_
       refine s_lt (t_load 8 lx) ?_
       refine s_lt (t_loadA 3 #[.int .i64 ((hdataV ((mst l i).1) ⟨#[98, 111, 120]⟩).kind), .int .i64 ((hdataV ((mst l i).1) ⟨#[98, 111, 120]⟩).p), .int .i64 ((hdataV ((mst l i).1) ⟨#[98, 111, 120]⟩).q), .string ((hdataV ((mst l i).1) ⟨#[98, 111, 120]⟩).str), .int .i64 ((hdataV ((mst l i).1) ⟨#[98, 111, 120]⟩).ref)]) ?_
       refine s_buildSlice (e := 26) [(0, .agg #[.int .i64 ((hdataV ((mst l i).1) ⟨#[98, 111, 120]⟩).kind), .int .i64 ((hdataV ((mst l i).1) ⟨#[98, 111, 120]⟩).p), .int .i64 ((hdataV ((mst l i).1) ⟨#[98, 111, 120]⟩).q), .string ((hdataV ((mst l i).1) ⟨#[98, 111, 120]⟩).str), .int .i64 ((hdataV ((mst l i).1) ⟨#[98, 111, 120]⟩).ref)])] #[.int .i64 ((hdataV ((mst l i).1) ⟨#[98, 111, 120]⟩).kind), .int .i64 ((hdataV ((mst l i).1) ⟨#[98, 111, 120]⟩).p), .int .i64 ((hdataV ((mst l i).1) ⟨#[98, 111, 120]⟩).q), .string ((hdataV ((mst l i).1) ⟨#[98, 111, 120]⟩).str), .int .i64 ((hdataV ((mst l i).1) ⟨#[98, 111, 120]⟩).ref)] (fun g80 => ?_) (hb := by kernel_rfl)
       refine s_append (L := (mst l i).2) 8 VlT_ok Tryz.underlying33 (.lit 0 VlT_ok [(hdataV ((mst l i).1) ⟨#[98, 111, 120]⟩)]) (by show _ * 48 ≤ _; (try simp only [lnm]); omega) (by (try simp only [lnm]); omega) (fun v81 => ?_)
       refine sp (pB g4 2) ?_
       refine s_fact (fun H h => ((Acc.own (T := VlT) (L := ((mst l i).2 ++ [(hdataV ((mst l i).1) ⟨#[98, 111, 120]⟩)])) 8 rfl) H h).form) (fun hf82 => ?_)
       refine s_store (u := v81) (m := 1) 9 #[pB hb2 0, pB hb3 0, v81] ?_ (hm := by (obtain ⟨_, _, e⟩ := hf82; rw [e]; rfl)) (h1 := by (obtain ⟨_, _, e⟩ := hf82; rw [e]; rfl)) (ha' := by (obtain ⟨_, _, e⟩ := hf82; rw [e]; rfl))
       refine s_nil ?_
       refine xs_block ?_
       refine xs_then ?_
       refine k_reg ?_
       refine sp (.int .i64 (i : Int)) ?_
       refine s_lt (t_add (i : Int) 1 (by (try simp only [lnm]); omega)) ?_
       refine sp (.int .i64 ((i : Int) + 1)) ?_
       refine s_nil ?_
       have hms := mst_succ hy15
       have h1 : (hdata ((mst l i).1) ⟨#[98, 111, 120]⟩) = (mst l (i + 1)).1 := by rw [hms]; unfold mstep; simp [of_decide_eq_false c67, of_decide_eq_true c76, boxB]
       have h2 : ((mst l i).2 ++ [(hdataV ((mst l i).1) ⟨#[98, 111, 120]⟩)]) = (mst l (i + 1)).2 := by rw [hms]; unfold mstep; simp_all [boxB]
       refine xs_mem (Bs := blkA g80 #[.int .i64 ((hdataV ((mst l i).1) ⟨#[98, 111, 120]⟩).kind), .int .i64 ((hdataV ((mst l i).1) ⟨#[98, 111, 120]⟩).p), .int .i64 ((hdataV ((mst l i).1) ⟨#[98, 111, 120]⟩).q), .string ((hdataV ((mst l i).1) ⟨#[98, 111, 120]⟩).str), .int .i64 ((hdataV ((mst l i).1) ⟨#[98, 111, 120]⟩).ref)] 26 :: rhA hb3 ((mst l (i + 1)).1) :: hpA hb2 ((mst l (i + 1)).1) :: blkA g66 #[.int .i64 ((hdataV ((mst l i).1) ⟨#[98, 111, 120]⟩).kind), .int .i64 ((hdataV ((mst l i).1) ⟨#[98, 111, 120]⟩).p), .int .i64 ((hdataV ((mst l i).1) ⟨#[98, 111, 120]⟩).q), .string ((hdataV ((mst l i).1) ⟨#[98, 111, 120]⟩).str), .int .i64 ((hdataV ((mst l i).1) ⟨#[98, 111, 120]⟩).ref)] 26 :: blkA g65 #[.int .i64 ((hdataV ((mst l i).1) ⟨#[98, 111, 120]⟩).kind), .int .i64 ((hdataV ((mst l i).1) ⟨#[98, 111, 120]⟩).p), .int .i64 ((hdataV ((mst l i).1) ⟨#[98, 111, 120]⟩).q), .string ((hdataV ((mst l i).1) ⟨#[98, 111, 120]⟩).str), .int .i64 ((hdataV ((mst l i).1) ⟨#[98, 111, 120]⟩).ref)] 26 :: blkA g18 #[.int .i64 ((ofS ((mst l i).2) y14.c).kind), .int .i64 ((ofS ((mst l i).2) y14.c).p), .int .i64 ((ofS ((mst l i).2) y14.c).q), .string ((ofS ((mst l i).2) y14.c).str), .int .i64 ((ofS ((mst l i).2) y14.c).ref)] 26 :: blkA g17 #[.int .i64 ((ofS ((mst l i).2) y14.b).kind), .int .i64 ((ofS ((mst l i).2) y14.b).p), .int .i64 ((ofS ((mst l i).2) y14.b).q), .string ((ofS ((mst l i).2) y14.b).str), .int .i64 ((ofS ((mst l i).2) y14.b).ref)] 26 :: blkA g16 #[.int .i64 ((ofS ((mst l i).2) y14.a).kind), .int .i64 ((ofS ((mst l i).2) y14.a).p), .int .i64 ((ofS ((mst l i).2) y14.a).q), .string ((ofS ((mst l i).2) y14.a).str), .int .i64 ((ofS ((mst l i).2) y14.a).ref)] 26 :: own VlT v81 ((mst l (i + 1)).2) :: blkA g4 #[pB hb2 0, pB hb3 0, v81] 35 :: blkA g1 #[.pointer none, .pointer none, (.slice none 0 0)] 35 :: F) (fun _ h => by rw [← h1, ← h2]; exact h) ?_
       exact xs_round (v81, i + 1) (by show 100 - (i + 1) < 100 - i; omega) (by show i + 1 ≤ 100 ∧ i + 1 ≤ l.length; omega) (sub_of rfl ⟨⟨rfl, rfl⟩, ⟨⟨rfl, rfl⟩, ⟨⟨rfl, rfl⟩, ⟨⟨rfl, rfl⟩, trivial⟩⟩⟩⟩) (fun _ h => h.re [8, 8, 1, 1, 6] [5, 5, 5, 5, 5, 5])
      ·
       have p83 := of_decide_eq_false c78
       refine k_skip ?_
       refine xs_block ?_
       refine xs_then ?_
       refine k_reg ?_
       refine sp (.int .i64 (i : Int)) ?_
       refine s_lt (t_add (i : Int) 1 (by (try simp only [lnm]); omega)) ?_
       refine sp (.int .i64 ((i : Int) + 1)) ?_
       refine s_nil ?_
       have hms := mst_succ hy15
       have h1 : (hdata ((mst l i).1) ⟨#[98, 111, 120]⟩) = (mst l (i + 1)).1 := by rw [hms]; unfold mstep; simp [of_decide_eq_false c67, of_decide_eq_true c76, boxB]
       have h2 : (mst l i).2 = (mst l (i + 1)).2 := by rw [hms]; unfold mstep; simp_all [boxB]
       refine xs_mem (Bs := rhA hb3 ((mst l (i + 1)).1) :: hpA hb2 ((mst l (i + 1)).1) :: blkA g66 #[.int .i64 ((hdataV ((mst l i).1) ⟨#[98, 111, 120]⟩).kind), .int .i64 ((hdataV ((mst l i).1) ⟨#[98, 111, 120]⟩).p), .int .i64 ((hdataV ((mst l i).1) ⟨#[98, 111, 120]⟩).q), .string ((hdataV ((mst l i).1) ⟨#[98, 111, 120]⟩).str), .int .i64 ((hdataV ((mst l i).1) ⟨#[98, 111, 120]⟩).ref)] 26 :: blkA g65 #[.int .i64 ((hdataV ((mst l i).1) ⟨#[98, 111, 120]⟩).kind), .int .i64 ((hdataV ((mst l i).1) ⟨#[98, 111, 120]⟩).p), .int .i64 ((hdataV ((mst l i).1) ⟨#[98, 111, 120]⟩).q), .string ((hdataV ((mst l i).1) ⟨#[98, 111, 120]⟩).str), .int .i64 ((hdataV ((mst l i).1) ⟨#[98, 111, 120]⟩).ref)] 26 :: blkA g18 #[.int .i64 ((ofS ((mst l i).2) y14.c).kind), .int .i64 ((ofS ((mst l i).2) y14.c).p), .int .i64 ((ofS ((mst l i).2) y14.c).q), .string ((ofS ((mst l i).2) y14.c).str), .int .i64 ((ofS ((mst l i).2) y14.c).ref)] 26 :: blkA g17 #[.int .i64 ((ofS ((mst l i).2) y14.b).kind), .int .i64 ((ofS ((mst l i).2) y14.b).p), .int .i64 ((ofS ((mst l i).2) y14.b).q), .string ((ofS ((mst l i).2) y14.b).str), .int .i64 ((ofS ((mst l i).2) y14.b).ref)] 26 :: blkA g16 #[.int .i64 ((ofS ((mst l i).2) y14.a).kind), .int .i64 ((ofS ((mst l i).2) y14.a).p), .int .i64 ((ofS ((mst l i).2) y14.a).q), .string ((ofS ((mst l i).2) y14.a).str), .int .i64 ((ofS ((mst l i).2) y14.a).ref)] 26 :: own VlT lx ((mst l (i + 1)).2) :: blkA g4 #[pB hb2 0, pB hb3 0, lx] 35 :: blkA g1 #[.pointer none, .pointer none, (.slice none 0 0)] 35 :: F) (fun _ h => by rw [← h1, ← h2]; exact h) ?_
       exact xs_round (lx, i + 1) (by show 100 - (i + 1) < 100 - i; omega) (by show i + 1 ≤ 100 ∧ i + 1 ≤ l.length; omega) (sub_of rfl ⟨⟨rfl, rfl⟩, ⟨⟨rfl, rfl⟩, ⟨⟨rfl, rfl⟩, ⟨⟨rfl, rfl⟩, trivial⟩⟩⟩⟩) (fun _ h => h.re [7, 7, 0, 0, 5] [5, 5, 5, 5, 5])
     ·
      have p84 := of_decide_eq_false c76
      refine k_sr ?_
      refine s_lt t_cmp ?_
      refine sp (.bool (decide (y14.kind = 2))) ?_
      refine s_nt ?_
      refine k_cond (decide (y14.kind = 2)) (fun c85 => ?_) (fun c85 => ?_)
      ·
       have p86 := of_decide_eq_true c85
       refine k_sr ?_
       refine sp (pB g4 0) ?_
       refine s_lt (t_load 6 (pB hb2 0)) ?_
       refine sp (.int .i64 (i : Int)) ?_
       refine s_call [8] (hnewfunc_s (st := (mst l i).1) (by have := hsm.len; omega) (i : Int)) ?_
       rintro _ _ ⟨rfl, rfl⟩
       refine sp (.tuple #[.agg #[.int .i64 ((hmakeV ((mst l i).1) 5).kind), .int .i64 ((hmakeV ((mst l i).1) 5).p), .int .i64 ((hmakeV ((mst l i).1) 5).q), .string ((hmakeV ((mst l i).1) 5).str), .int .i64 ((hmakeV ((mst l i).1) 5).ref)], .int .i64 (hmakeE ((mst l i).1))]) ?_
       refine sp (.agg #[.int .i64 ((hmakeV ((mst l i).1) 5).kind), .int .i64 ((hmakeV ((mst l i).1) 5).p), .int .i64 ((hmakeV ((mst l i).1) 5).q), .string ((hmakeV ((mst l i).1) 5).str), .int .i64 ((hmakeV ((mst l i).1) 5).ref)]) ?_
       refine sp (.int .i64 (hmakeE ((mst l i).1))) ?_
       refine s_store 2 #[.int .i64 ((hmakeV ((mst l i).1) 5).kind), .int .i64 ((hmakeV ((mst l i).1) 5).p), .int .i64 ((hmakeV ((mst l i).1) 5).q), .string ((hmakeV ((mst l i).1) 5).str), .int .i64 ((hmakeV ((mst l i).1) 5).ref)] ?_
       refine sp (.int .i64 (hmakeE ((mst l i).1))) ?_
       refine s_nt ?_
       refine k_reg ?_
       refine sp (pB g4 1) ?_
       refine s_lt (t_load 7 (pB hb3 0)) ?_
       refine sp (.int .i64 (i : Int)) ?_
       refine s_call [8] (rhnewfunc_s (st := (mst l i).1) (by have := hsm.len; omega) (i : Int)) ?_
       rintro _ _ ⟨rfl, rfl⟩
       refine sp (.tuple #[.agg #[.int .i64 ((hmakeV ((mst l i).1) 5).kind), .int .i64 ((hmakeV ((mst l i).1) 5).p), .int .i64 ((hmakeV ((mst l i).1) 5).q), .string ((hmakeV ((mst l i).1) 5).str), .int .i64 ((hmakeV ((mst l i).1) 5).ref)], .int .i64 (hmakeE ((mst l i).1))]) ?_
       refine sp (.agg #[.int .i64 ((hmakeV ((mst l i).1) 5).kind), .int .i64 ((hmakeV ((mst l i).1) 5).p), .int .i64 ((hmakeV ((mst l i).1) 5).q), .string ((hmakeV ((mst l i).1) 5).str), .int .i64 ((hmakeV ((mst l i).1) 5).ref)]) ?_
       refine sp (.int .i64 (hmakeE ((mst l i).1))) ?_
       refine s_store 2 #[.int .i64 ((hmakeV ((mst l i).1) 5).kind), .int .i64 ((hmakeV ((mst l i).1) 5).p), .int .i64 ((hmakeV ((mst l i).1) 5).q), .string ((hmakeV ((mst l i).1) 5).str), .int .i64 ((hmakeV ((mst l i).1) 5).ref)] ?_
       refine sp (.int .i64 (hmakeE ((mst l i).1))) ?_
       refine s_nil ?_
       refine xs_block ?_
       refine xs_then ?_
       refine k_seq ?_
       refine k_sr ?_
       refine s_lt (t_loadA 3 #[.int .i64 ((hmakeV ((mst l i).1) 5).kind), .int .i64 ((hmakeV ((mst l i).1) 5).p), .int .i64 ((hmakeV ((mst l i).1) 5).q), .string ((hmakeV ((mst l i).1) 5).str), .int .i64 ((hmakeV ((mst l i).1) 5).ref)]) ?_
       refine s_lt (t_loadA 2 #[.int .i64 ((hmakeV ((mst l i).1) 5).kind), .int .i64 ((hmakeV ((mst l i).1) 5).p), .int .i64 ((hmakeV ((mst l i).1) 5).q), .string ((hmakeV ((mst l i).1) 5).str), .int .i64 ((hmakeV ((mst l i).1) 5).ref)]) ?_
       refine s_lt (Lt.to (t_eqS (fun w => (eqVlT (hmakeV ((mst l i).1) 5) (hmakeV ((mst l i).1) 5) w).2)) (congrArg Value.bool ((congrArg Bool.not (decide_eq_true rfl : (decide ((hmakeV ((mst l i).1) 5) = (hmakeV ((mst l i).1) 5))) = true)).trans rfl : (!(decide ((hmakeV ((mst l i).1) 5) = (hmakeV ((mst l i).1) 5)))) = false))) ?_
       refine sp (.bool false) ?_
       refine sp (.int .i64 (hmakeE ((mst l i).1))) ?_
       refine sp (.int .i64 (hmakeE ((mst l i).1))) ?_
       refine s_lt (Lt.to t_cmp (congrArg Value.bool (decide_eq_false (fun h => h rfl) : (decide ((hmakeE ((mst l i).1)) ≠ (hmakeE ((mst l i).1)))) = false))) ?_
       refine sp (.bool false) ?_
       refine s_nt ?_
       refine k_false ?_
       refine k_st ?_
       refine k_sr ?_
       refine sp lv ?_
       refine sp (.int .i64 (i : Int)) ?_
       refine s_lt (t_index OpT_ok Tryz.underlying22 (.zn hl0) (i : Int) i (by omega) (by (try simp only [lnm]); omega) (by omega)) ?_
       refine sp (.pointer (some (elemAt OpT.size lv i))) ?_
       refine s_lt (t_loadF 0 OpT_ok (.zn hl0) hy15) ?_
       refine s_lt (Lt.to t_cmp (congrArg Value.bool (decide_eq_true (by have := of_decide_eq_true c85; omega) : (decide (y14.kind ≤ 2)) = true))) ?_
       refine sp (.bool true) ?_
       refine sp (.int .i64 (hmakeE ((mst l i).1))) ?_
       refine s_lt t_cmp ?_
       refine sp (.bool (decide ((hmakeE ((mst l i).1)) = 0))) ?_
       refine s_nt ?_
       refine k_cond (decide ((hmakeE ((mst l i).1)) = 0)) (fun c87 => ?_) (fun c87 => ?_)
       ·
        have p88 := of_decide_eq_true c87
        refine k_reg ?_
        refine sp (pB g4 2) ?_
        refine s_lt (t_load 8 lx) ?_
        refine s_lt (t_loadA 3 #[.int .i64 ((hmakeV ((mst l i).1) 5).kind), .int .i64 ((hmakeV ((mst l i).1) 5).p), .int .i64 ((hmakeV ((mst l i).1) 5).q), .string ((hmakeV ((mst l i).1) 5).str), .int .i64 ((hmakeV ((mst l i).1) 5).ref)]) ?_
        refine s_buildSlice (e := 26) [(0, .agg #[.int .i64 ((hmakeV ((mst l i).1) 5).kind), .int .i64 ((hmakeV ((mst l i).1) 5).p), .int .i64 ((hmakeV ((mst l i).1) 5).q), .string ((hmakeV ((mst l i).1) 5).str), .int .i64 ((hmakeV ((mst l i).1) 5).ref)])] #[.int .i64 ((hmakeV ((mst l i).1) 5).kind), .int .i64 ((hmakeV ((mst l i).1) 5).p), .int .i64 ((hmakeV ((mst l i).1) 5).q), .string ((hmakeV ((mst l i).1) 5).str), .int .i64 ((hmakeV ((mst l i).1) 5).ref)] (fun g89 => ?_) (hb := by kernel_rfl)
        refine s_append (L := (mst l i).2) 8 VlT_ok Tryz.underlying33 (.lit 0 VlT_ok [(hmakeV ((mst l i).1) 5)]) (by show _ * 48 ≤ _; (try simp only [lnm]); omega) (by (try simp only [lnm]); omega) (fun v90 => ?_)
        refine sp (pB g4 2) ?_
        refine s_fact (fun H h => ((Acc.own (T := VlT) (L := ((mst l i).2 ++ [(hmakeV ((mst l i).1) 5)])) 8 rfl) H h).form) (fun hf91 => ?_)
        refine s_store (u := v90) (m := 1) 9 #[pB hb2 0, pB hb3 0, v90] ?_ (hm := by (obtain ⟨_, _, e⟩ := hf91; rw [e]; rfl)) (h1 := by (obtain ⟨_, _, e⟩ := hf91; rw [e]; rfl)) (ha' := by (obtain ⟨_, _, e⟩ := hf91; rw [e]; rfl))
        refine s_nil ?_
        refine xs_block ?_
        refine xs_then ?_
        refine k_reg ?_
        refine sp (.int .i64 (i : Int)) ?_
        refine s_lt (t_add (i : Int) 1 (by (try simp only [lnm]); omega)) ?_
        refine sp (.int .i64 ((i : Int) + 1)) ?_
        refine s_nil ?_
        have hms := mst_succ hy15
        have h1 : (hmake ((mst l i).1) (newO 5 (i : Int) ByteArray.empty [])) = (mst l (i + 1)).1 := by rw [hms]; unfold mstep; simp [of_decide_eq_false c67, of_decide_eq_false c76, of_decide_eq_true c85, boxB]
        have h2 : ((mst l i).2 ++ [(hmakeV ((mst l i).1) 5)]) = (mst l (i + 1)).2 := by rw [hms]; unfold mstep; simp_all [boxB]
        refine xs_mem (Bs := blkA g89 #[.int .i64 ((hmakeV ((mst l i).1) 5).kind), .int .i64 ((hmakeV ((mst l i).1) 5).p), .int .i64 ((hmakeV ((mst l i).1) 5).q), .string ((hmakeV ((mst l i).1) 5).str), .int .i64 ((hmakeV ((mst l i).1) 5).ref)] 26 :: rhA hb3 ((mst l (i + 1)).1) :: hpA hb2 ((mst l (i + 1)).1) :: blkA g66 #[.int .i64 ((hmakeV ((mst l i).1) 5).kind), .int .i64 ((hmakeV ((mst l i).1) 5).p), .int .i64 ((hmakeV ((mst l i).1) 5).q), .string ((hmakeV ((mst l i).1) 5).str), .int .i64 ((hmakeV ((mst l i).1) 5).ref)] 26 :: blkA g65 #[.int .i64 ((hmakeV ((mst l i).1) 5).kind), .int .i64 ((hmakeV ((mst l i).1) 5).p), .int .i64 ((hmakeV ((mst l i).1) 5).q), .string ((hmakeV ((mst l i).1) 5).str), .int .i64 ((hmakeV ((mst l i).1) 5).ref)] 26 :: blkA g18 #[.int .i64 ((ofS ((mst l i).2) y14.c).kind), .int .i64 ((ofS ((mst l i).2) y14.c).p), .int .i64 ((ofS ((mst l i).2) y14.c).q), .string ((ofS ((mst l i).2) y14.c).str), .int .i64 ((ofS ((mst l i).2) y14.c).ref)] 26 :: blkA g17 #[.int .i64 ((ofS ((mst l i).2) y14.b).kind), .int .i64 ((ofS ((mst l i).2) y14.b).p), .int .i64 ((ofS ((mst l i).2) y14.b).q), .string ((ofS ((mst l i).2) y14.b).str), .int .i64 ((ofS ((mst l i).2) y14.b).ref)] 26 :: blkA g16 #[.int .i64 ((ofS ((mst l i).2) y14.a).kind), .int .i64 ((ofS ((mst l i).2) y14.a).p), .int .i64 ((ofS ((mst l i).2) y14.a).q), .string ((ofS ((mst l i).2) y14.a).str), .int .i64 ((ofS ((mst l i).2) y14.a).ref)] 26 :: own VlT v90 ((mst l (i + 1)).2) :: blkA g4 #[pB hb2 0, pB hb3 0, v90] 35 :: blkA g1 #[.pointer none, .pointer none, (.slice none 0 0)] 35 :: F) (fun _ h => by rw [← h1, ← h2]; exact h) ?_
        exact xs_round (v90, i + 1) (by show 100 - (i + 1) < 100 - i; omega) (by show i + 1 ≤ 100 ∧ i + 1 ≤ l.length; omega) (sub_of rfl ⟨⟨rfl, rfl⟩, ⟨⟨rfl, rfl⟩, ⟨⟨rfl, rfl⟩, ⟨⟨rfl, rfl⟩, trivial⟩⟩⟩⟩) (fun _ h => h.re [8, 8, 1, 1, 6] [5, 5, 5, 5, 5, 5])
       ·
        have p92 := of_decide_eq_false c87
        refine k_skip ?_
        refine xs_block ?_
        refine xs_then ?_
        refine k_reg ?_
        refine sp (.int .i64 (i : Int)) ?_
        refine s_lt (t_add (i : Int) 1 (by (try simp only [lnm]); omega)) ?_
        refine sp (.int .i64 ((i : Int) + 1)) ?_
        refine s_nil ?_
        have hms := mst_succ hy15
        have h1 : (hmake ((mst l i).1) (newO 5 (i : Int) ByteArray.empty [])) = (mst l (i + 1)).1 := by rw [hms]; unfold mstep; simp [of_decide_eq_false c67, of_decide_eq_false c76, of_decide_eq_true c85, boxB]
        have h2 : (mst l i).2 = (mst l (i + 1)).2 := by rw [hms]; unfold mstep; simp_all [boxB]
        refine xs_mem (Bs := rhA hb3 ((mst l (i + 1)).1) :: hpA hb2 ((mst l (i + 1)).1) :: blkA g66 #[.int .i64 ((hmakeV ((mst l i).1) 5).kind), .int .i64 ((hmakeV ((mst l i).1) 5).p), .int .i64 ((hmakeV ((mst l i).1) 5).q), .string ((hmakeV ((mst l i).1) 5).str), .int .i64 ((hmakeV ((mst l i).1) 5).ref)] 26 :: blkA g65 #[.int .i64 ((hmakeV ((mst l i).1) 5).kind), .int .i64 ((hmakeV ((mst l i).1) 5).p), .int .i64 ((hmakeV ((mst l i).1) 5).q), .string ((hmakeV ((mst l i).1) 5).str), .int .i64 ((hmakeV ((mst l i).1) 5).ref)] 26 :: blkA g18 #[.int .i64 ((ofS ((mst l i).2) y14.c).kind), .int .i64 ((ofS ((mst l i).2) y14.c).p), .int .i64 ((ofS ((mst l i).2) y14.c).q), .string ((ofS ((mst l i).2) y14.c).str), .int .i64 ((ofS ((mst l i).2) y14.c).ref)] 26 :: blkA g17 #[.int .i64 ((ofS ((mst l i).2) y14.b).kind), .int .i64 ((ofS ((mst l i).2) y14.b).p), .int .i64 ((ofS ((mst l i).2) y14.b).q), .string ((ofS ((mst l i).2) y14.b).str), .int .i64 ((ofS ((mst l i).2) y14.b).ref)] 26 :: blkA g16 #[.int .i64 ((ofS ((mst l i).2) y14.a).kind), .int .i64 ((ofS ((mst l i).2) y14.a).p), .int .i64 ((ofS ((mst l i).2) y14.a).q), .string ((ofS ((mst l i).2) y14.a).str), .int .i64 ((ofS ((mst l i).2) y14.a).ref)] 26 :: own VlT lx ((mst l (i + 1)).2) :: blkA g4 #[pB hb2 0, pB hb3 0, lx] 35 :: blkA g1 #[.pointer none, .pointer none, (.slice none 0 0)] 35 :: F) (fun _ h => by rw [← h1, ← h2]; exact h) ?_
        exact xs_round (lx, i + 1) (by show 100 - (i + 1) < 100 - i; omega) (by show i + 1 ≤ 100 ∧ i + 1 ≤ l.length; omega) (sub_of rfl ⟨⟨rfl, rfl⟩, ⟨⟨rfl, rfl⟩, ⟨⟨rfl, rfl⟩, ⟨⟨rfl, rfl⟩, trivial⟩⟩⟩⟩) (fun _ h => h.re [7, 7, 0, 0, 5] [5, 5, 5, 5, 5])
      ·
       have p93 := of_decide_eq_false c85
       refine k_sr ?_
       refine s_lt t_cmp ?_
       refine sp (.bool (decide (y14.kind = 3))) ?_
       refine s_nt ?_
       refine k_cond (decide (y14.kind = 3)) (fun c94 => ?_) (fun c94 => ?_)
       ·
        have p95 := of_decide_eq_true c94
        refine k_held [blkA g66 #[.int .i64 0, .int .i64 0, .int .i64 0, .string ByteArray.empty, .int .i64 0] 26, blkA g65 #[.int .i64 0, .int .i64 0, .int .i64 0, .string ByteArray.empty, .int .i64 0] 26, blkA g18 #[.int .i64 ((ofS ((mst l i).2) y14.c).kind), .int .i64 ((ofS ((mst l i).2) y14.c).p), .int .i64 ((ofS ((mst l i).2) y14.c).q), .string ((ofS ((mst l i).2) y14.c).str), .int .i64 ((ofS ((mst l i).2) y14.c).ref)] 26, blkA g17 #[.int .i64 ((ofS ((mst l i).2) y14.b).kind), .int .i64 ((ofS ((mst l i).2) y14.b).p), .int .i64 ((ofS ((mst l i).2) y14.b).q), .string ((ofS ((mst l i).2) y14.b).str), .int .i64 ((ofS ((mst l i).2) y14.b).ref)] 26, blkA g16 #[.int .i64 ((ofS ((mst l i).2) y14.a).kind), .int .i64 ((ofS ((mst l i).2) y14.a).p), .int .i64 ((ofS ((mst l i).2) y14.a).q), .string ((ofS ((mst l i).2) y14.a).str), .int .i64 ((ofS ((mst l i).2) y14.a).ref)] 26, own VlT lx ((mst l i).2), blkA g4 #[pB hb2 0, pB hb3 0, lx] 35, blkA g1 #[.pointer none, .pointer none, (.slice none 0 0)] 35] ?_
        refine hp_ 0 [0, 0, 0, 0, 0, 0, 0, 2] (pB g4 0) ?_
        refine h_l 1 rfl [0, 0, 0, 0, 0, 0, 0, 2] (fun _ => (t_load 6 (pB hb2 0))) ?_
        refine h_l 2 rfl [0, 0, 0, 0, 0, 0, 0, 2] (fun _ => (t_loadA 4 #[.int .i64 ((ofS ((mst l i).2) y14.a).kind), .int .i64 ((ofS ((mst l i).2) y14.a).p), .int .i64 ((ofS ((mst l i).2) y14.a).q), .string ((ofS ((mst l i).2) y14.a).str), .int .i64 ((ofS ((mst l i).2) y14.a).ref)])) ?_
        refine h_l 3 rfl [0, 0, 0, 0, 0, 0, 0, 2] (fun _ => (t_loadA 3 #[.int .i64 ((ofS ((mst l i).2) y14.b).kind), .int .i64 ((ofS ((mst l i).2) y14.b).p), .int .i64 ((ofS ((mst l i).2) y14.b).q), .string ((ofS ((mst l i).2) y14.b).str), .int .i64 ((ofS ((mst l i).2) y14.b).ref)])) ?_
        refine h_l 4 rfl [0, 0, 0, 0, 0, 0, 0, 2] (fun _ => (t_loadA 2 #[.int .i64 ((ofS ((mst l i).2) y14.c).kind), .int .i64 ((ofS ((mst l i).2) y14.c).p), .int .i64 ((ofS ((mst l i).2) y14.c).q), .string ((ofS ((mst l i).2) y14.c).str), .int .i64 ((ofS ((mst l i).2) y14.c).ref)])) ?_
        refine hp_ 6 [0, 0, 0, 0, 0, 0, 0, 2] (pB g4 1) ?_
        refine h_l 7 rfl [0, 0, 0, 0, 0, 0, 0, 2] (fun _ => (t_load 6 (pB hb3 0))) ?_
        refine h_l 8 rfl [0, 0, 0, 0, 0, 0, 0, 2] (fun _ => (t_loadA 4 #[.int .i64 ((ofS ((mst l i).2) y14.a).kind), .int .i64 ((ofS ((mst l i).2) y14.a).p), .int .i64 ((ofS ((mst l i).2) y14.a).q), .string ((ofS ((mst l i).2) y14.a).str), .int .i64 ((ofS ((mst l i).2) y14.a).ref)])) ?_
        refine h_l 9 rfl [0, 0, 0, 0, 0, 0, 0, 2] (fun _ => (t_loadA 3 #[.int .i64 ((ofS ((mst l i).2) y14.b).kind), .int .i64 ((ofS ((mst l i).2) y14.b).p), .int .i64 ((ofS ((mst l i).2) y14.b).q), .string ((ofS ((mst l i).2) y14.b).str), .int .i64 ((ofS ((mst l i).2) y14.b).ref)])) ?_
        refine h_l 10 rfl [0, 0, 0, 0, 0, 0, 0, 2] (fun _ => (t_loadA 2 #[.int .i64 ((ofS ((mst l i).2) y14.c).kind), .int .i64 ((ofS ((mst l i).2) y14.c).p), .int .i64 ((ofS ((mst l i).2) y14.c).q), .string ((ofS ((mst l i).2) y14.c).str), .int .i64 ((ofS ((mst l i).2) y14.c).ref)])) ?_
        refine h_stepS 5 ?_
        refine s_call [8] (hset_s (st := (mst l i).1) hsm (by omega) (ofS ((mst l i).2) y14.a) (ofS ((mst l i).2) y14.b) (ofS ((mst l i).2) y14.c)) ?_
        rintro _ _ ⟨rfl, rfl⟩
        refine s_nil (xs_held [1, 1, 1, 1, 1, 1, 1, 2] ?_)
        refine h_stepS 11 ?_
        refine s_call [8] (rhset_s (st := (mst l i).1) hsm (by omega) (ofS ((mst l i).2) y14.a) (ofS ((mst l i).2) y14.b) (ofS ((mst l i).2) y14.c)) ?_
        rintro _ _ ⟨rfl, rfl⟩
        refine s_nil (xs_held [2, 2, 2, 2, 2, 2, 2, 2] ?_)
        refine hp_ 12 [2, 2, 2, 2, 2, 2, 2, 2] (.int .i64 (hsetE ((mst l i).1) (ofS ((mst l i).2) y14.a) (ofS ((mst l i).2) y14.b) (ofS ((mst l i).2) y14.c))) ?_
        refine hp_ 13 [2, 2, 2, 2, 2, 2, 2, 2] (.int .i64 (hsetE ((mst l i).1) (ofS ((mst l i).2) y14.a) (ofS ((mst l i).2) y14.b) (ofS ((mst l i).2) y14.c))) ?_
        refine h_doneS ?_
        refine xs_block ?_
        refine xs_then ?_
        refine k_seq ?_
        refine k_sr ?_
        refine s_lt (t_loadA 3 #[.int .i64 0, .int .i64 0, .int .i64 0, .string ByteArray.empty, .int .i64 0]) ?_
        refine s_lt (t_loadA 2 #[.int .i64 0, .int .i64 0, .int .i64 0, .string ByteArray.empty, .int .i64 0]) ?_
        refine s_lt (Lt.to (t_eqS (fun w => (eqVlT zVl zVl w).2)) (congrArg Value.bool ((congrArg Bool.not (decide_eq_true rfl : (decide (zVl = zVl)) = true)).trans rfl : (!(decide (zVl = zVl))) = false))) ?_
        refine sp (.bool false) ?_
        refine sp (.int .i64 (hsetE ((mst l i).1) (ofS ((mst l i).2) y14.a) (ofS ((mst l i).2) y14.b) (ofS ((mst l i).2) y14.c))) ?_
        refine sp (.int .i64 (hsetE ((mst l i).1) (ofS ((mst l i).2) y14.a) (ofS ((mst l i).2) y14.b) (ofS ((mst l i).2) y14.c))) ?_
        refine s_lt (Lt.to t_cmp (congrArg Value.bool (decide_eq_false (fun h => h rfl) : (decide ((hsetE ((mst l i).1) (ofS ((mst l i).2) y14.a) (ofS ((mst l i).2) y14.b) (ofS ((mst l i).2) y14.c)) ≠ (hsetE ((mst l i).1) (ofS ((mst l i).2) y14.a) (ofS ((mst l i).2) y14.b) (ofS ((mst l i).2) y14.c)))) = false))) ?_
        refine sp (.bool false) ?_
        refine s_nt ?_
        refine k_false ?_
        refine k_st ?_
        refine k_sr ?_
        refine sp lv ?_
        refine sp (.int .i64 (i : Int)) ?_
        refine s_lt (t_index OpT_ok Tryz.underlying22 (.zn hl0) (i : Int) i (by omega) (by (try simp only [lnm]); omega) (by omega)) ?_
        refine sp (.pointer (some (elemAt OpT.size lv i))) ?_
        refine s_lt (t_loadF 0 OpT_ok (.zn hl0) hy15) ?_
        refine s_lt (Lt.to t_cmp (congrArg Value.bool (decide_eq_false (by have := of_decide_eq_true c94; omega) : (decide (y14.kind ≤ 2)) = false))) ?_
        refine sp (.bool false) ?_
        refine s_skip ?_
        refine s_skip ?_
        refine sp (.bool false) ?_
        refine s_nt ?_
        refine k_false ?_
        refine k_skip ?_
        refine xs_block ?_
        refine xs_then ?_
        refine k_reg ?_
        refine sp (.int .i64 (i : Int)) ?_
        refine s_lt (t_add (i : Int) 1 (by (try simp only [lnm]); omega)) ?_
        refine sp (.int .i64 ((i : Int) + 1)) ?_
        refine s_nil ?_
        have hms := mst_succ hy15
        have h1 : (hset ((mst l i).1) (ofS ((mst l i).2) y14.a) (ofS ((mst l i).2) y14.b) (ofS ((mst l i).2) y14.c)) = (mst l (i + 1)).1 := by rw [hms]; unfold mstep; simp [of_decide_eq_false c67, of_decide_eq_false c76, of_decide_eq_false c85, of_decide_eq_true c94, boxB]
        have h2 : (mst l i).2 = (mst l (i + 1)).2 := by rw [hms]; unfold mstep; simp_all [boxB]
        refine xs_mem (Bs := rhA hb3 ((mst l (i + 1)).1) :: hpA hb2 ((mst l (i + 1)).1) :: blkA g66 #[.int .i64 0, .int .i64 0, .int .i64 0, .string ByteArray.empty, .int .i64 0] 26 :: blkA g65 #[.int .i64 0, .int .i64 0, .int .i64 0, .string ByteArray.empty, .int .i64 0] 26 :: blkA g18 #[.int .i64 ((ofS ((mst l i).2) y14.c).kind), .int .i64 ((ofS ((mst l i).2) y14.c).p), .int .i64 ((ofS ((mst l i).2) y14.c).q), .string ((ofS ((mst l i).2) y14.c).str), .int .i64 ((ofS ((mst l i).2) y14.c).ref)] 26 :: blkA g17 #[.int .i64 ((ofS ((mst l i).2) y14.b).kind), .int .i64 ((ofS ((mst l i).2) y14.b).p), .int .i64 ((ofS ((mst l i).2) y14.b).q), .string ((ofS ((mst l i).2) y14.b).str), .int .i64 ((ofS ((mst l i).2) y14.b).ref)] 26 :: blkA g16 #[.int .i64 ((ofS ((mst l i).2) y14.a).kind), .int .i64 ((ofS ((mst l i).2) y14.a).p), .int .i64 ((ofS ((mst l i).2) y14.a).q), .string ((ofS ((mst l i).2) y14.a).str), .int .i64 ((ofS ((mst l i).2) y14.a).ref)] 26 :: own VlT lx ((mst l (i + 1)).2) :: blkA g4 #[pB hb2 0, pB hb3 0, lx] 35 :: blkA g1 #[.pointer none, .pointer none, (.slice none 0 0)] 35 :: F) (fun _ h => by rw [← h1, ← h2]; exact h) ?_
        exact xs_round (lx, i + 1) (by show 100 - (i + 1) < 100 - i; omega) (by show i + 1 ≤ 100 ∧ i + 1 ≤ l.length; omega) (sub_of rfl ⟨⟨rfl, rfl⟩, ⟨⟨rfl, rfl⟩, ⟨⟨rfl, rfl⟩, ⟨⟨rfl, rfl⟩, trivial⟩⟩⟩⟩) (fun _ h => h.re [7, 7, 0, 0, 5] [5, 5, 5, 5, 5])
       ·
        have p96 := of_decide_eq_false c94
        refine k_held [blkA g66 #[.int .i64 0, .int .i64 0, .int .i64 0, .string ByteArray.empty, .int .i64 0] 26, blkA g65 #[.int .i64 0, .int .i64 0, .int .i64 0, .string ByteArray.empty, .int .i64 0] 26, blkA g18 #[.int .i64 ((ofS ((mst l i).2) y14.c).kind), .int .i64 ((ofS ((mst l i).2) y14.c).p), .int .i64 ((ofS ((mst l i).2) y14.c).q), .string ((ofS ((mst l i).2) y14.c).str), .int .i64 ((ofS ((mst l i).2) y14.c).ref)] 26, blkA g17 #[.int .i64 ((ofS ((mst l i).2) y14.b).kind), .int .i64 ((ofS ((mst l i).2) y14.b).p), .int .i64 ((ofS ((mst l i).2) y14.b).q), .string ((ofS ((mst l i).2) y14.b).str), .int .i64 ((ofS ((mst l i).2) y14.b).ref)] 26, blkA g16 #[.int .i64 ((ofS ((mst l i).2) y14.a).kind), .int .i64 ((ofS ((mst l i).2) y14.a).p), .int .i64 ((ofS ((mst l i).2) y14.a).q), .string ((ofS ((mst l i).2) y14.a).str), .int .i64 ((ofS ((mst l i).2) y14.a).ref)] 26, own VlT lx ((mst l i).2), blkA g4 #[pB hb2 0, pB hb3 0, lx] 35, blkA g1 #[.pointer none, .pointer none, (.slice none 0 0)] 35] ?_
        refine hp_ 0 [0, 0, 0, 0, 0, 0, 0, 2] (pB g4 0) ?_
        refine h_l 1 rfl [0, 0, 0, 0, 0, 0, 0, 2] (fun _ => (t_load 6 (pB hb2 0))) ?_
        refine h_l 2 rfl [0, 0, 0, 0, 0, 0, 0, 2] (fun _ => (t_loadA 4 #[.int .i64 ((ofS ((mst l i).2) y14.a).kind), .int .i64 ((ofS ((mst l i).2) y14.a).p), .int .i64 ((ofS ((mst l i).2) y14.a).q), .string ((ofS ((mst l i).2) y14.a).str), .int .i64 ((ofS ((mst l i).2) y14.a).ref)])) ?_
        refine h_l 3 rfl [0, 0, 0, 0, 0, 0, 0, 2] (fun _ => (t_loadA 3 #[.int .i64 ((ofS ((mst l i).2) y14.b).kind), .int .i64 ((ofS ((mst l i).2) y14.b).p), .int .i64 ((ofS ((mst l i).2) y14.b).q), .string ((ofS ((mst l i).2) y14.b).str), .int .i64 ((ofS ((mst l i).2) y14.b).ref)])) ?_
        refine hp_ 5 [0, 0, 0, 0, 0, 0, 0, 2] (pB g4 1) ?_
        refine h_l 6 rfl [0, 0, 0, 0, 0, 0, 0, 2] (fun _ => (t_load 6 (pB hb3 0))) ?_
        refine h_l 7 rfl [0, 0, 0, 0, 0, 0, 0, 2] (fun _ => (t_loadA 4 #[.int .i64 ((ofS ((mst l i).2) y14.a).kind), .int .i64 ((ofS ((mst l i).2) y14.a).p), .int .i64 ((ofS ((mst l i).2) y14.a).q), .string ((ofS ((mst l i).2) y14.a).str), .int .i64 ((ofS ((mst l i).2) y14.a).ref)])) ?_
        refine h_l 8 rfl [0, 0, 0, 0, 0, 0, 0, 2] (fun _ => (t_loadA 3 #[.int .i64 ((ofS ((mst l i).2) y14.b).kind), .int .i64 ((ofS ((mst l i).2) y14.b).p), .int .i64 ((ofS ((mst l i).2) y14.b).q), .string ((ofS ((mst l i).2) y14.b).str), .int .i64 ((ofS ((mst l i).2) y14.b).ref)])) ?_
        refine h_stepS 4 ?_
        refine s_call [8] (hsetmeta_s (st := (mst l i).1) (ofS ((mst l i).2) y14.a) (ofS ((mst l i).2) y14.b)) ?_
        rintro _ _ ⟨rfl, rfl⟩
        refine s_nil (xs_held [1, 1, 1, 1, 1, 1, 1, 2] ?_)
        refine h_stepS 9 ?_
        refine s_call [8] (rhsetmeta_s (st := (mst l i).1) (by have := hsm.len; omega) (ofS ((mst l i).2) y14.a) (ofS ((mst l i).2) y14.b)) ?_
        rintro _ _ ⟨rfl, rfl⟩
        refine s_nil (xs_held [2, 2, 2, 2, 2, 2, 2, 2] ?_)
        refine hp_ 10 [2, 2, 2, 2, 2, 2, 2, 2] (.int .i64 (hsetMetaE ((mst l i).1) (ofS ((mst l i).2) y14.a) (ofS ((mst l i).2) y14.b))) ?_
        refine hp_ 11 [2, 2, 2, 2, 2, 2, 2, 2] (.int .i64 (hsetMetaE ((mst l i).1) (ofS ((mst l i).2) y14.a) (ofS ((mst l i).2) y14.b))) ?_
        refine h_doneS ?_
        refine xs_block ?_
        refine xs_then ?_
        refine k_seq ?_
        refine k_sr ?_
        refine s_lt (t_loadA 3 #[.int .i64 0, .int .i64 0, .int .i64 0, .string ByteArray.empty, .int .i64 0]) ?_
        refine s_lt (t_loadA 2 #[.int .i64 0, .int .i64 0, .int .i64 0, .string ByteArray.empty, .int .i64 0]) ?_
        refine s_lt (Lt.to (t_eqS (fun w => (eqVlT zVl zVl w).2)) (congrArg Value.bool ((congrArg Bool.not (decide_eq_true rfl : (decide (zVl = zVl)) = true)).trans rfl : (!(decide (zVl = zVl))) = false))) ?_
        refine sp (.bool false) ?_
        refine sp (.int .i64 (hsetMetaE ((mst l i).1) (ofS ((mst l i).2) y14.a) (ofS ((mst l i).2) y14.b))) ?_
        refine sp (.int .i64 (hsetMetaE ((mst l i).1) (ofS ((mst l i).2) y14.a) (ofS ((mst l i).2) y14.b))) ?_
        refine s_lt (Lt.to t_cmp (congrArg Value.bool (decide_eq_false (fun h => h rfl) : (decide ((hsetMetaE ((mst l i).1) (ofS ((mst l i).2) y14.a) (ofS ((mst l i).2) y14.b)) ≠ (hsetMetaE ((mst l i).1) (ofS ((mst l i).2) y14.a) (ofS ((mst l i).2) y14.b)))) = false))) ?_
        refine sp (.bool false) ?_
        refine s_nt ?_
        refine k_false ?_
        refine k_st ?_
        refine k_cut (ι := Unit) (fun _ => True) (fun _ => [(0, lv), (2, pB g1 0), (4, pB g4 0), (5, .int .i64 (i : Int)), (9, pB g65 0), (144, .bool ((decide (y14.kind ≤ 2)) && (decide ((hsetMetaE ((mst l i).1) (ofS ((mst l i).2) y14.a) (ofS ((mst l i).2) y14.b)) = 0))))]) (fun _ => rhA hb3 (hsetMeta ((mst l i).1) (ofS ((mst l i).2) y14.a) (ofS ((mst l i).2) y14.b)) :: hpA hb2 (hsetMeta ((mst l i).1) (ofS ((mst l i).2) y14.a) (ofS ((mst l i).2) y14.b)) :: blkA g66 #[.int .i64 0, .int .i64 0, .int .i64 0, .string ByteArray.empty, .int .i64 0] 26 :: blkA g65 #[.int .i64 0, .int .i64 0, .int .i64 0, .string ByteArray.empty, .int .i64 0] 26 :: blkA g18 #[.int .i64 ((ofS ((mst l i).2) y14.c).kind), .int .i64 ((ofS ((mst l i).2) y14.c).p), .int .i64 ((ofS ((mst l i).2) y14.c).q), .string ((ofS ((mst l i).2) y14.c).str), .int .i64 ((ofS ((mst l i).2) y14.c).ref)] 26 :: blkA g17 #[.int .i64 ((ofS ((mst l i).2) y14.b).kind), .int .i64 ((ofS ((mst l i).2) y14.b).p), .int .i64 ((ofS ((mst l i).2) y14.b).q), .string ((ofS ((mst l i).2) y14.b).str), .int .i64 ((ofS ((mst l i).2) y14.b).ref)] 26 :: blkA g16 #[.int .i64 ((ofS ((mst l i).2) y14.a).kind), .int .i64 ((ofS ((mst l i).2) y14.a).p), .int .i64 ((ofS ((mst l i).2) y14.a).q), .string ((ofS ((mst l i).2) y14.a).str), .int .i64 ((ofS ((mst l i).2) y14.a).ref)] 26 :: own VlT lx ((mst l i).2) :: blkA g4 #[pB hb2 0, pB hb3 0, lx] 35 :: blkA g1 #[.pointer none, .pointer none, (.slice none 0 0)] 35 :: F) ?_ (fun _ _ => ?_)
        ·
         refine k_reg ?_
         refine sp lv ?_
         refine sp (.int .i64 (i : Int)) ?_
         refine s_lt (t_index OpT_ok Tryz.underlying22 (.zn hl0) (i : Int) i (by omega) (by (try simp only [lnm]); omega) (by omega)) ?_
         refine sp (.pointer (some (elemAt OpT.size lv i))) ?_
         refine s_lt (t_loadF 0 OpT_ok (.zn hl0) hy15) ?_
         refine s_lt t_cmp ?_
         refine sp (.bool (decide (y14.kind ≤ 2))) ?_
         refine s_fork 141 (decide (y14.kind ≤ 2)) (fun c97 => ?_) (fun c97 => ?_)
         ·
          have p98 := of_decide_eq_true c97
          refine sp (.int .i64 (hsetMetaE ((mst l i).1) (ofS ((mst l i).2) y14.a) (ofS ((mst l i).2) y14.b))) ?_
          refine s_lt t_cmp ?_
          refine sp (.bool (decide ((hsetMetaE ((mst l i).1) (ofS ((mst l i).2) y14.a) (ofS ((mst l i).2) y14.b)) = 0))) ?_
          refine s_nil ?_
          exact xs_cut () trivial (sub_of rfl ⟨⟨rfl, rfl⟩, ⟨⟨rfl, rfl⟩, ⟨⟨rfl, rfl⟩, ⟨⟨rfl, rfl⟩, ⟨⟨rfl, rfl⟩, ⟨⟨rfl, show Value.bool (decide ((hsetMetaE ((mst l i).1) (ofS ((mst l i).2) y14.a) (ofS ((mst l i).2) y14.b)) = 0)) = Value.bool ((decide (y14.kind ≤ 2)) && (decide ((hsetMetaE ((mst l i).1) (ofS ((mst l i).2) y14.a) (ofS ((mst l i).2) y14.b)) = 0))) by first | (simp only [c97, bls]; done) | simp [c97]⟩, trivial⟩⟩⟩⟩⟩⟩) (fun _ h => h.re [0, 0, 0, 0, 0, 0, 0, 0, 0, 0] [])
         ·
          have p99 := of_decide_eq_false c97
          refine s_skip ?_
          refine s_skip ?_
          refine sp (.bool false) ?_
          refine s_nil ?_
          exact xs_cut () trivial (sub_of rfl ⟨⟨rfl, rfl⟩, ⟨⟨rfl, rfl⟩, ⟨⟨rfl, rfl⟩, ⟨⟨rfl, rfl⟩, ⟨⟨rfl, rfl⟩, ⟨⟨rfl, show Value.bool false = Value.bool ((decide (y14.kind ≤ 2)) && (decide ((hsetMetaE ((mst l i).1) (ofS ((mst l i).2) y14.a) (ofS ((mst l i).2) y14.b)) = 0))) by first | (simp only [c97, bls]; done) | simp [c97]⟩, trivial⟩⟩⟩⟩⟩⟩) (fun _ h => h.re [0, 0, 0, 0, 0, 0, 0, 0, 0, 0] [])
        ·
         refine k_cond ((decide (y14.kind ≤ 2)) && (decide ((hsetMetaE ((mst l i).1) (ofS ((mst l i).2) y14.a) (ofS ((mst l i).2) y14.b)) = 0))) (fun c100 => ?_) (fun c100 => ?_)
         ·
          obtain ⟨c101, c102⟩ := and_t c100
          have p103 := of_decide_eq_true c101
          have p104 := of_decide_eq_true c102
          refine k_reg ?_
          refine sp (pB g4 2) ?_
          refine s_lt (t_load 8 lx) ?_
          refine s_lt (t_loadA 3 #[.int .i64 0, .int .i64 0, .int .i64 0, .string ByteArray.empty, .int .i64 0]) ?_
          refine s_buildSlice (e := 26) [(0, .agg #[.int .i64 0, .int .i64 0, .int .i64 0, .string ByteArray.empty, .int .i64 0])] #[.int .i64 0, .int .i64 0, .int .i64 0, .string ByteArray.empty, .int .i64 0] (fun g105 => ?_) (hb := by kernel_rfl)
          refine s_append (L := (mst l i).2) 8 VlT_ok Tryz.underlying33 (.lit 0 VlT_ok [zVl]) (by show _ * 48 ≤ _; (try simp only [lnm]); omega) (by (try simp only [lnm]); omega) (fun v106 => ?_)
          refine sp (pB g4 2) ?_
          refine s_fact (fun H h => ((Acc.own (T := VlT) (L := ((mst l i).2 ++ [zVl])) 8 rfl) H h).form) (fun hf107 => ?_)
          refine s_store (u := v106) (m := 1) 9 #[pB hb2 0, pB hb3 0, v106] ?_ (hm := by (obtain ⟨_, _, e⟩ := hf107; rw [e]; rfl)) (h1 := by (obtain ⟨_, _, e⟩ := hf107; rw [e]; rfl)) (ha' := by (obtain ⟨_, _, e⟩ := hf107; rw [e]; rfl))
          refine s_nil ?_
          refine xs_block ?_
          refine xs_then ?_
          refine k_reg ?_
          refine sp (.int .i64 (i : Int)) ?_
          refine s_lt (t_add (i : Int) 1 (by (try simp only [lnm]); omega)) ?_
          refine sp (.int .i64 ((i : Int) + 1)) ?_
          refine s_nil ?_
          have hms := mst_succ hy15
          have h1 : (hsetMeta ((mst l i).1) (ofS ((mst l i).2) y14.a) (ofS ((mst l i).2) y14.b)) = (mst l (i + 1)).1 := by rw [hms]; unfold mstep; simp [of_decide_eq_false c67, of_decide_eq_false c76, of_decide_eq_false c85, of_decide_eq_false c94, boxB]
          have h2 : ((mst l i).2 ++ [zVl]) = (mst l (i + 1)).2 := by rw [hms]; unfold mstep; simp_all [boxB]
          refine xs_mem (Bs := blkA g105 #[.int .i64 0, .int .i64 0, .int .i64 0, .string ByteArray.empty, .int .i64 0] 26 :: rhA hb3 ((mst l (i + 1)).1) :: hpA hb2 ((mst l (i + 1)).1) :: blkA g66 #[.int .i64 0, .int .i64 0, .int .i64 0, .string ByteArray.empty, .int .i64 0] 26 :: blkA g65 #[.int .i64 0, .int .i64 0, .int .i64 0, .string ByteArray.empty, .int .i64 0] 26 :: blkA g18 #[.int .i64 ((ofS ((mst l i).2) y14.c).kind), .int .i64 ((ofS ((mst l i).2) y14.c).p), .int .i64 ((ofS ((mst l i).2) y14.c).q), .string ((ofS ((mst l i).2) y14.c).str), .int .i64 ((ofS ((mst l i).2) y14.c).ref)] 26 :: blkA g17 #[.int .i64 ((ofS ((mst l i).2) y14.b).kind), .int .i64 ((ofS ((mst l i).2) y14.b).p), .int .i64 ((ofS ((mst l i).2) y14.b).q), .string ((ofS ((mst l i).2) y14.b).str), .int .i64 ((ofS ((mst l i).2) y14.b).ref)] 26 :: blkA g16 #[.int .i64 ((ofS ((mst l i).2) y14.a).kind), .int .i64 ((ofS ((mst l i).2) y14.a).p), .int .i64 ((ofS ((mst l i).2) y14.a).q), .string ((ofS ((mst l i).2) y14.a).str), .int .i64 ((ofS ((mst l i).2) y14.a).ref)] 26 :: own VlT v106 ((mst l (i + 1)).2) :: blkA g4 #[pB hb2 0, pB hb3 0, v106] 35 :: blkA g1 #[.pointer none, .pointer none, (.slice none 0 0)] 35 :: F) (fun _ h => by rw [← h1, ← h2]; exact h) ?_
          exact xs_round (v106, i + 1) (by show 100 - (i + 1) < 100 - i; omega) (by show i + 1 ≤ 100 ∧ i + 1 ≤ l.length; omega) (sub_of rfl ⟨⟨rfl, rfl⟩, ⟨⟨rfl, rfl⟩, ⟨⟨rfl, rfl⟩, ⟨⟨rfl, rfl⟩, trivial⟩⟩⟩⟩) (fun _ h => h.re [8, 8, 1, 1, 6] [5, 5, 5, 5, 5, 5])
         ·
          have p108 := c100
          simp only [Bool.and_eq_true, Bool.or_eq_true, Bool.and_eq_false_iff, Bool.or_eq_false_iff, Bool.not_eq_true', Bool.not_eq_false', decide_eq_true_eq, decide_eq_false_iff_not] at p108
          refine k_skip ?_
          refine xs_block ?_
          refine xs_then ?_
          refine k_reg ?_
          refine sp (.int .i64 (i : Int)) ?_
          refine s_lt (t_add (i : Int) 1 (by (try simp only [lnm]); omega)) ?_
          refine sp (.int .i64 ((i : Int) + 1)) ?_
          refine s_nil ?_
          have hms := mst_succ hy15
          have h1 : (hsetMeta ((mst l i).1) (ofS ((mst l i).2) y14.a) (ofS ((mst l i).2) y14.b)) = (mst l (i + 1)).1 := by rw [hms]; unfold mstep; simp [of_decide_eq_false c67, of_decide_eq_false c76, of_decide_eq_false c85, of_decide_eq_false c94, boxB]
          have h2 : (mst l i).2 = (mst l (i + 1)).2 := by rw [hms]; unfold mstep; simp_all [boxB]
          refine xs_mem (Bs := rhA hb3 ((mst l (i + 1)).1) :: hpA hb2 ((mst l (i + 1)).1) :: blkA g66 #[.int .i64 0, .int .i64 0, .int .i64 0, .string ByteArray.empty, .int .i64 0] 26 :: blkA g65 #[.int .i64 0, .int .i64 0, .int .i64 0, .string ByteArray.empty, .int .i64 0] 26 :: blkA g18 #[.int .i64 ((ofS ((mst l i).2) y14.c).kind), .int .i64 ((ofS ((mst l i).2) y14.c).p), .int .i64 ((ofS ((mst l i).2) y14.c).q), .string ((ofS ((mst l i).2) y14.c).str), .int .i64 ((ofS ((mst l i).2) y14.c).ref)] 26 :: blkA g17 #[.int .i64 ((ofS ((mst l i).2) y14.b).kind), .int .i64 ((ofS ((mst l i).2) y14.b).p), .int .i64 ((ofS ((mst l i).2) y14.b).q), .string ((ofS ((mst l i).2) y14.b).str), .int .i64 ((ofS ((mst l i).2) y14.b).ref)] 26 :: blkA g16 #[.int .i64 ((ofS ((mst l i).2) y14.a).kind), .int .i64 ((ofS ((mst l i).2) y14.a).p), .int .i64 ((ofS ((mst l i).2) y14.a).q), .string ((ofS ((mst l i).2) y14.a).str), .int .i64 ((ofS ((mst l i).2) y14.a).ref)] 26 :: own VlT lx ((mst l (i + 1)).2) :: blkA g4 #[pB hb2 0, pB hb3 0, lx] 35 :: blkA g1 #[.pointer none, .pointer none, (.slice none 0 0)] 35 :: F) (fun _ h => by rw [← h1, ← h2]; exact h) ?_
          exact xs_round (lx, i + 1) (by show 100 - (i + 1) < 100 - i; omega) (by show i + 1 ≤ 100 ∧ i + 1 ≤ l.length; omega) (sub_of rfl ⟨⟨rfl, rfl⟩, ⟨⟨rfl, rfl⟩, ⟨⟨rfl, rfl⟩, ⟨⟨rfl, rfl⟩, trivial⟩⟩⟩⟩) (fun _ h => h.re [7, 7, 0, 0, 5] [5, 5, 5, 5, 5])
   refine h_join (ι := Nat × Nat) 4 #[true, true, true, true, true, true, true, true, true, true, true, true, true, true, true, true, true, true, true, true, true, true, true, false, false, false, false] (fun (g16, g17) => [(0, lv), (2, pB g1 0), (4, pB g4 0), (5, .int .i64 (i : Int)), (6, pB g16 0), (7, pB g17 0), (36, .agg #[.int .i64 ((ofS ((mst l i).2) y14.a).kind), .int .i64 ((ofS ((mst l i).2) y14.a).p), .int .i64 ((ofS ((mst l i).2) y14.a).q), .string ((ofS ((mst l i).2) y14.a).str), .int .i64 ((ofS ((mst l i).2) y14.a).ref)]), (43, .agg #[.int .i64 ((ofS ((mst l i).2) y14.b).kind), .int .i64 ((ofS ((mst l i).2) y14.b).p), .int .i64 ((ofS ((mst l i).2) y14.b).q), .string ((ofS ((mst l i).2) y14.b).str), .int .i64 ((ofS ((mst l i).2) y14.b).ref)]), (50, .agg #[.int .i64 ((ofS ((mst l i).2) y14.c).kind), .int .i64 ((ofS ((mst l i).2) y14.c).p), .int .i64 ((ofS ((mst l i).2) y14.c).q), .string ((ofS ((mst l i).2) y14.c).str), .int .i64 ((ofS ((mst l i).2) y14.c).ref)])]) (fun (g16, g17) => blkA g17 #[.int .i64 0, .int .i64 0, .int .i64 0, .string ByteArray.empty, .int .i64 0] 26 :: blkA g16 #[.int .i64 0, .int .i64 0, .int .i64 0, .string ByteArray.empty, .int .i64 0] 26 :: own VlT lx ((mst l i).2) :: blkA g4 #[pB hb2 0, pB hb3 0, lx] 35 :: rhA hb3 ((mst l i).1) :: hpA hb2 ((mst l i).1) :: blkA g1 #[.pointer none, .pointer none, (.slice none 0 0)] 35 :: F) ?_ (fun hj109 => ?_)
   ·
    rintro ⟨g16, g17⟩
    try dsimp only
    refine h_stepS 23 ?_
    refine s_alloc (.agg #[.int .i64 0, .int .i64 0, .int .i64 0, .string ByteArray.empty, .int .i64 0]) #[.int .i64 0, .int .i64 0, .int .i64 0, .string ByteArray.empty, .int .i64 0] (fun g110 => ?_)
    refine s_nil (xs_held [3, 3, 5] ?_)
    exact h_use hj64 (g16, g17, g110) (fun _ h => h.re [0, 0, 0, 0, 0, 0, 0, 0] [])
   refine h_join (ι := Nat × Nat) 4 #[true, true, true, true, true, true, true, true, true, true, true, true, true, true, true, true, true, true, true, true, true, true, false, true, false, false, false] (fun (g16, g19) => [(0, lv), (2, pB g1 0), (4, pB g4 0), (5, .int .i64 (i : Int)), (6, pB g16 0), (8, pB g19 0), (36, .agg #[.int .i64 ((ofS ((mst l i).2) y14.a).kind), .int .i64 ((ofS ((mst l i).2) y14.a).p), .int .i64 ((ofS ((mst l i).2) y14.a).q), .string ((ofS ((mst l i).2) y14.a).str), .int .i64 ((ofS ((mst l i).2) y14.a).ref)]), (43, .agg #[.int .i64 ((ofS ((mst l i).2) y14.b).kind), .int .i64 ((ofS ((mst l i).2) y14.b).p), .int .i64 ((ofS ((mst l i).2) y14.b).q), .string ((ofS ((mst l i).2) y14.b).str), .int .i64 ((ofS ((mst l i).2) y14.b).ref)]), (50, .agg #[.int .i64 ((ofS ((mst l i).2) y14.c).kind), .int .i64 ((ofS ((mst l i).2) y14.c).p), .int .i64 ((ofS ((mst l i).2) y14.c).q), .string ((ofS ((mst l i).2) y14.c).str), .int .i64 ((ofS ((mst l i).2) y14.c).ref)])]) (fun (g16, g19) => blkA g19 #[.int .i64 0, .int .i64 0, .int .i64 0, .string ByteArray.empty, .int .i64 0] 26 :: blkA g16 #[.int .i64 0, .int .i64 0, .int .i64 0, .string ByteArray.empty, .int .i64 0] 26 :: own VlT lx ((mst l i).2) :: blkA g4 #[pB hb2 0, pB hb3 0, lx] 35 :: rhA hb3 ((mst l i).1) :: hpA hb2 ((mst l i).1) :: blkA g1 #[.pointer none, .pointer none, (.slice none 0 0)] 35 :: F) ?_ (fun hj111 => ?_)
   ·
    rintro ⟨g16, g19⟩
    try dsimp only
    refine h_stepS 22 ?_
    refine s_alloc (.agg #[.int .i64 0, .int .i64 0, .int .i64 0, .string ByteArray.empty, .int .i64 0]) #[.int .i64 0, .int .i64 0, .int .i64 0, .string ByteArray.empty, .int .i64 0] (fun g112 => ?_)
    refine s_nil (xs_held [3, 3, 5] ?_)
    exact h_use hj64 (g16, g112, g19) (fun _ h => h.re [1, 0, 0, 0, 0, 0, 0, 0] [])
   refine h_join (ι := Nat × Nat) 4 #[true, true, true, true, true, true, true, true, true, true, true, true, true, true, true, true, true, true, true, true, true, false, true, true, false, false, false] (fun (g21, g23) => [(0, lv), (2, pB g1 0), (4, pB g4 0), (5, .int .i64 (i : Int)), (7, pB g21 0), (8, pB g23 0), (36, .agg #[.int .i64 ((ofS ((mst l i).2) y14.a).kind), .int .i64 ((ofS ((mst l i).2) y14.a).p), .int .i64 ((ofS ((mst l i).2) y14.a).q), .string ((ofS ((mst l i).2) y14.a).str), .int .i64 ((ofS ((mst l i).2) y14.a).ref)]), (43, .agg #[.int .i64 ((ofS ((mst l i).2) y14.b).kind), .int .i64 ((ofS ((mst l i).2) y14.b).p), .int .i64 ((ofS ((mst l i).2) y14.b).q), .string ((ofS ((mst l i).2) y14.b).str), .int .i64 ((ofS ((mst l i).2) y14.b).ref)]), (50, .agg #[.int .i64 ((ofS ((mst l i).2) y14.c).kind), .int .i64 ((ofS ((mst l i).2) y14.c).p), .int .i64 ((ofS ((mst l i).2) y14.c).q), .string ((ofS ((mst l i).2) y14.c).str), .int .i64 ((ofS ((mst l i).2) y14.c).ref)])]) (fun (g21, g23) => blkA g23 #[.int .i64 0, .int .i64 0, .int .i64 0, .string ByteArray.empty, .int .i64 0] 26 :: blkA g21 #[.int .i64 0, .int .i64 0, .int .i64 0, .string ByteArray.empty, .int .i64 0] 26 :: own VlT lx ((mst l i).2) :: blkA g4 #[pB hb2 0, pB hb3 0, lx] 35 :: rhA hb3 ((mst l i).1) :: hpA hb2 ((mst l i).1) :: blkA g1 #[.pointer none, .pointer none, (.slice none 0 0)] 35 :: F) ?_ (fun hj113 => ?_)
   ·
    rintro ⟨g21, g23⟩
    try dsimp only
    refine h_stepS 21 ?_
    refine s_alloc (.agg #[.int .i64 0, .int .i64 0, .int .i64 0, .string ByteArray.empty, .int .i64 0]) #[.int .i64 0, .int .i64 0, .int .i64 0, .string ByteArray.empty, .int .i64 0] (fun g114 => ?_)
    refine s_nil (xs_held [3, 3, 5] ?_)
    exact h_use hj64 (g114, g21, g23) (fun _ h => h.re [1, 1, 0, 0, 0, 0, 0, 0] [])
   refine h_join (ι := Nat × Nat × Nat) 4 #[true, true, true, true, true, true, true, true, true, true, true, true, true, true, true, true, true, true, true, true, false, true, true, true, false, false, false] (fun (g28, g29, g30) => [(0, lv), (2, pB g1 0), (4, pB g4 0), (5, .int .i64 (i : Int)), (6, pB g28 0), (7, pB g29 0), (8, pB g30 0), (36, .agg #[.int .i64 ((ofS ((mst l i).2) y14.a).kind), .int .i64 ((ofS ((mst l i).2) y14.a).p), .int .i64 ((ofS ((mst l i).2) y14.a).q), .string ((ofS ((mst l i).2) y14.a).str), .int .i64 ((ofS ((mst l i).2) y14.a).ref)]), (43, .agg #[.int .i64 ((ofS ((mst l i).2) y14.b).kind), .int .i64 ((ofS ((mst l i).2) y14.b).p), .int .i64 ((ofS ((mst l i).2) y14.b).q), .string ((ofS ((mst l i).2) y14.b).str), .int .i64 ((ofS ((mst l i).2) y14.b).ref)]), (44, .agg #[pB hb2 0, pB hb3 0, lx]), (49, .agg #[.int .i64 y14.c.v.kind, .int .i64 y14.c.v.p, .int .i64 y14.c.v.q, .string y14.c.v.str, .int .i64 y14.c.v.ref, .int .i64 y14.c.obj])]) (fun (g28, g29, g30) => blkA g30 #[.int .i64 0, .int .i64 0, .int .i64 0, .string ByteArray.empty, .int .i64 0] 26 :: blkA g29 #[.int .i64 0, .int .i64 0, .int .i64 0, .string ByteArray.empty, .int .i64 0] 26 :: blkA g28 #[.int .i64 0, .int .i64 0, .int .i64 0, .string ByteArray.empty, .int .i64 0] 26 :: own VlT lx ((mst l i).2) :: blkA g4 #[pB hb2 0, pB hb3 0, lx] 35 :: rhA hb3 ((mst l i).1) :: hpA hb2 ((mst l i).1) :: blkA g1 #[.pointer none, .pointer none, (.slice none 0 0)] 35 :: F) ?_ (fun hj115 => ?_)
   ·
    rintro ⟨g28, g29, g30⟩
    try dsimp only
    refine h_stepS 20 ?_
    refine s_call [3] (of_s (L := (mst l i).2) (by (try simp only [lnm]); omega) y14.c) ?_
    rintro _ _ ⟨rfl, rfl⟩
    refine s_nil (xs_held [0, 3, 5] ?_)
    exact h_use hj64 (g28, g29, g30) (fun _ h => h.re [1, 1, 1, 0, 0, 0, 0, 0] [])
   refine h_join (ι := Nat) 5 #[true, true, true, true, true, true, true, true, true, true, true, true, true, true, true, true, true, true, true, true, true, true, false, false, false, false, false] (fun g16 => [(0, lv), (2, pB g1 0), (4, pB g4 0), (5, .int .i64 (i : Int)), (6, pB g16 0), (36, .agg #[.int .i64 ((ofS ((mst l i).2) y14.a).kind), .int .i64 ((ofS ((mst l i).2) y14.a).p), .int .i64 ((ofS ((mst l i).2) y14.a).q), .string ((ofS ((mst l i).2) y14.a).str), .int .i64 ((ofS ((mst l i).2) y14.a).ref)]), (43, .agg #[.int .i64 ((ofS ((mst l i).2) y14.b).kind), .int .i64 ((ofS ((mst l i).2) y14.b).p), .int .i64 ((ofS ((mst l i).2) y14.b).q), .string ((ofS ((mst l i).2) y14.b).str), .int .i64 ((ofS ((mst l i).2) y14.b).ref)]), (50, .agg #[.int .i64 ((ofS ((mst l i).2) y14.c).kind), .int .i64 ((ofS ((mst l i).2) y14.c).p), .int .i64 ((ofS ((mst l i).2) y14.c).q), .string ((ofS ((mst l i).2) y14.c).str), .int .i64 ((ofS ((mst l i).2) y14.c).ref)])]) (fun g16 => blkA g16 #[.int .i64 0, .int .i64 0, .int .i64 0, .string ByteArray.empty, .int .i64 0] 26 :: own VlT lx ((mst l i).2) :: blkA g4 #[pB hb2 0, pB hb3 0, lx] 35 :: rhA hb3 ((mst l i).1) :: hpA hb2 ((mst l i).1) :: blkA g1 #[.pointer none, .pointer none, (.slice none 0 0)] 35 :: F) ?_ (fun hj116 => ?_)
   ·
    rintro g16
    try dsimp only
    refine h_stepS2 22 23 ?_ ?_
    ·
     refine s_alloc (.agg #[.int .i64 0, .int .i64 0, .int .i64 0, .string ByteArray.empty, .int .i64 0]) #[.int .i64 0, .int .i64 0, .int .i64 0, .string ByteArray.empty, .int .i64 0] (fun g117 => ?_)
     refine s_nil (xs_held [2, 2, 4] ?_)
     exact h_use hj109 (g16, g117) (fun _ h => h.re [0, 0, 0, 0, 0, 0, 0] [])
    ·
     refine s_alloc (.agg #[.int .i64 0, .int .i64 0, .int .i64 0, .string ByteArray.empty, .int .i64 0]) #[.int .i64 0, .int .i64 0, .int .i64 0, .string ByteArray.empty, .int .i64 0] (fun g118 => ?_)
     refine s_nil (xs_held [2, 2, 4] ?_)
     exact h_use hj111 (g16, g118) (fun _ h => h.re [0, 0, 0, 0, 0, 0, 0] [])
   refine h_join (ι := Nat) 5 #[true, true, true, true, true, true, true, true, true, true, true, true, true, true, true, true, true, true, true, true, true, false, true, false, false, false, false] (fun g21 => [(0, lv), (2, pB g1 0), (4, pB g4 0), (5, .int .i64 (i : Int)), (7, pB g21 0), (36, .agg #[.int .i64 ((ofS ((mst l i).2) y14.a).kind), .int .i64 ((ofS ((mst l i).2) y14.a).p), .int .i64 ((ofS ((mst l i).2) y14.a).q), .string ((ofS ((mst l i).2) y14.a).str), .int .i64 ((ofS ((mst l i).2) y14.a).ref)]), (43, .agg #[.int .i64 ((ofS ((mst l i).2) y14.b).kind), .int .i64 ((ofS ((mst l i).2) y14.b).p), .int .i64 ((ofS ((mst l i).2) y14.b).q), .string ((ofS ((mst l i).2) y14.b).str), .int .i64 ((ofS ((mst l i).2) y14.b).ref)]), (50, .agg #[.int .i64 ((ofS ((mst l i).2) y14.c).kind), .int .i64 ((ofS ((mst l i).2) y14.c).p), .int .i64 ((ofS ((mst l i).2) y14.c).q), .string ((ofS ((mst l i).2) y14.c).str), .int .i64 ((ofS ((mst l i).2) y14.c).ref)])]) (fun g21 => blkA g21 #[.int .i64 0, .int .i64 0, .int .i64 0, .string ByteArray.empty, .int .i64 0] 26 :: own VlT lx ((mst l i).2) :: blkA g4 #[pB hb2 0, pB hb3 0, lx] 35 :: rhA hb3 ((mst l i).1) :: hpA hb2 ((mst l i).1) :: blkA g1 #[.pointer none, .pointer none, (.slice none 0 0)] 35 :: F) ?_ (fun hj119 => ?_)
   ·
    rintro g21
    try dsimp only
    refine h_stepS2 21 23 ?_ ?_
    ·
     refine s_alloc (.agg #[.int .i64 0, .int .i64 0, .int .i64 0, .string ByteArray.empty, .int .i64 0]) #[.int .i64 0, .int .i64 0, .int .i64 0, .string ByteArray.empty, .int .i64 0] (fun g120 => ?_)
     refine s_nil (xs_held [2, 2, 4] ?_)
     exact h_use hj109 (g120, g21) (fun _ h => h.re [1, 0, 0, 0, 0, 0, 0] [])
    ·
     refine s_alloc (.agg #[.int .i64 0, .int .i64 0, .int .i64 0, .string ByteArray.empty, .int .i64 0]) #[.int .i64 0, .int .i64 0, .int .i64 0, .string ByteArray.empty, .int .i64 0] (fun g121 => ?_)
     refine s_nil (xs_held [2, 2, 4] ?_)
     exact h_use hj113 (g21, g121) (fun _ h => h.re [0, 0, 0, 0, 0, 0, 0] [])
   refine h_join (ι := Nat) 5 #[true, true, true, true, true, true, true, true, true, true, true, true, true, true, true, true, true, true, true, true, true, false, false, true, false, false, false] (fun g25 => [(0, lv), (2, pB g1 0), (4, pB g4 0), (5, .int .i64 (i : Int)), (8, pB g25 0), (36, .agg #[.int .i64 ((ofS ((mst l i).2) y14.a).kind), .int .i64 ((ofS ((mst l i).2) y14.a).p), .int .i64 ((ofS ((mst l i).2) y14.a).q), .string ((ofS ((mst l i).2) y14.a).str), .int .i64 ((ofS ((mst l i).2) y14.a).ref)]), (43, .agg #[.int .i64 ((ofS ((mst l i).2) y14.b).kind), .int .i64 ((ofS ((mst l i).2) y14.b).p), .int .i64 ((ofS ((mst l i).2) y14.b).q), .string ((ofS ((mst l i).2) y14.b).str), .int .i64 ((ofS ((mst l i).2) y14.b).ref)]), (50, .agg #[.int .i64 ((ofS ((mst l i).2) y14.c).kind), .int .i64 ((ofS ((mst l i).2) y14.c).p), .int .i64 ((ofS ((mst l i).2) y14.c).q), .string ((ofS ((mst l i).2) y14.c).str), .int .i64 ((ofS ((mst l i).2) y14.c).ref)])]) (fun g25 => blkA g25 #[.int .i64 0, .int .i64 0, .int .i64 0, .string ByteArray.empty, .int .i64 0] 26 :: own VlT lx ((mst l i).2) :: blkA g4 #[pB hb2 0, pB hb3 0, lx] 35 :: rhA hb3 ((mst l i).1) :: hpA hb2 ((mst l i).1) :: blkA g1 #[.pointer none, .pointer none, (.slice none 0 0)] 35 :: F) ?_ (fun hj122 => ?_)
   ·
    rintro g25
    try dsimp only
    refine h_stepS2 21 22 ?_ ?_
    ·
     refine s_alloc (.agg #[.int .i64 0, .int .i64 0, .int .i64 0, .string ByteArray.empty, .int .i64 0]) #[.int .i64 0, .int .i64 0, .int .i64 0, .string ByteArray.empty, .int .i64 0] (fun g123 => ?_)
     refine s_nil (xs_held [2, 2, 4] ?_)
     exact h_use hj111 (g123, g25) (fun _ h => h.re [1, 0, 0, 0, 0, 0, 0] [])
    ·
     refine s_alloc (.agg #[.int .i64 0, .int .i64 0, .int .i64 0, .string ByteArray.empty, .int .i64 0]) #[.int .i64 0, .int .i64 0, .int .i64 0, .string ByteArray.empty, .int .i64 0] (fun g124 => ?_)
     refine s_nil (xs_held [2, 2, 4] ?_)
     exact h_use hj113 (g124, g25) (fun _ h => h.re [1, 0, 0, 0, 0, 0, 0] [])
   refine h_join (ι := Nat × Nat) 5 #[true, true, true, true, true, true, true, true, true, true, true, true, true, true, true, true, true, true, true, true, false, true, true, false, false, false, false] (fun (g28, g29) => [(0, lv), (2, pB g1 0), (4, pB g4 0), (5, .int .i64 (i : Int)), (6, pB g28 0), (7, pB g29 0), (36, .agg #[.int .i64 ((ofS ((mst l i).2) y14.a).kind), .int .i64 ((ofS ((mst l i).2) y14.a).p), .int .i64 ((ofS ((mst l i).2) y14.a).q), .string ((ofS ((mst l i).2) y14.a).str), .int .i64 ((ofS ((mst l i).2) y14.a).ref)]), (43, .agg #[.int .i64 ((ofS ((mst l i).2) y14.b).kind), .int .i64 ((ofS ((mst l i).2) y14.b).p), .int .i64 ((ofS ((mst l i).2) y14.b).q), .string ((ofS ((mst l i).2) y14.b).str), .int .i64 ((ofS ((mst l i).2) y14.b).ref)]), (44, .agg #[pB hb2 0, pB hb3 0, lx]), (49, .agg #[.int .i64 y14.c.v.kind, .int .i64 y14.c.v.p, .int .i64 y14.c.v.q, .string y14.c.v.str, .int .i64 y14.c.v.ref, .int .i64 y14.c.obj])]) (fun (g28, g29) => blkA g29 #[.int .i64 0, .int .i64 0, .int .i64 0, .string ByteArray.empty, .int .i64 0] 26 :: blkA g28 #[.int .i64 0, .int .i64 0, .int .i64 0, .string ByteArray.empty, .int .i64 0] 26 :: own VlT lx ((mst l i).2) :: blkA g4 #[pB hb2 0, pB hb3 0, lx] 35 :: rhA hb3 ((mst l i).1) :: hpA hb2 ((mst l i).1) :: blkA g1 #[.pointer none, .pointer none, (.slice none 0 0)] 35 :: F) ?_ (fun hj125 => ?_)
   ·
    rintro ⟨g28, g29⟩
    try dsimp only
    refine h_stepS2 20 23 ?_ ?_
    ·
     refine s_call [2] (of_s (L := (mst l i).2) (by (try simp only [lnm]); omega) y14.c) ?_
     rintro _ _ ⟨rfl, rfl⟩
     refine s_nil (xs_held [0, 2, 4] ?_)
     exact h_use hj109 (g28, g29) (fun _ h => h.re [1, 1, 0, 0, 0, 0, 0] [])
    ·
     refine s_alloc (.agg #[.int .i64 0, .int .i64 0, .int .i64 0, .string ByteArray.empty, .int .i64 0]) #[.int .i64 0, .int .i64 0, .int .i64 0, .string ByteArray.empty, .int .i64 0] (fun g126 => ?_)
     refine s_nil (xs_held [3, 3, 5] ?_)
     exact h_use hj115 (g28, g29, g126) (fun _ h => h.re [0, 0, 0, 0, 0, 0, 0, 0] [])
   refine h_join (ι := Nat × Nat) 5 #[true, true, true, true, true, true, true, true, true, true, true, true, true, true, true, true, true, true, true, true, false, true, false, true, false, false, false] (fun (g28, g31) => [(0, lv), (2, pB g1 0), (4, pB g4 0), (5, .int .i64 (i : Int)), (6, pB g28 0), (8, pB g31 0), (36, .agg #[.int .i64 ((ofS ((mst l i).2) y14.a).kind), .int .i64 ((ofS ((mst l i).2) y14.a).p), .int .i64 ((ofS ((mst l i).2) y14.a).q), .string ((ofS ((mst l i).2) y14.a).str), .int .i64 ((ofS ((mst l i).2) y14.a).ref)]), (43, .agg #[.int .i64 ((ofS ((mst l i).2) y14.b).kind), .int .i64 ((ofS ((mst l i).2) y14.b).p), .int .i64 ((ofS ((mst l i).2) y14.b).q), .string ((ofS ((mst l i).2) y14.b).str), .int .i64 ((ofS ((mst l i).2) y14.b).ref)]), (44, .agg #[pB hb2 0, pB hb3 0, lx]), (49, .agg #[.int .i64 y14.c.v.kind, .int .i64 y14.c.v.p, .int .i64 y14.c.v.q, .string y14.c.v.str, .int .i64 y14.c.v.ref, .int .i64 y14.c.obj])]) (fun (g28, g31) => blkA g31 #[.int .i64 0, .int .i64 0, .int .i64 0, .string ByteArray.empty, .int .i64 0] 26 :: blkA g28 #[.int .i64 0, .int .i64 0, .int .i64 0, .string ByteArray.empty, .int .i64 0] 26 :: own VlT lx ((mst l i).2) :: blkA g4 #[pB hb2 0, pB hb3 0, lx] 35 :: rhA hb3 ((mst l i).1) :: hpA hb2 ((mst l i).1) :: blkA g1 #[.pointer none, .pointer none, (.slice none 0 0)] 35 :: F) ?_ (fun hj127 => ?_)
   ·
    rintro ⟨g28, g31⟩
    try dsimp only
    refine h_stepS2 20 22 ?_ ?_
    ·
     refine s_call [2] (of_s (L := (mst l i).2) (by (try simp only [lnm]); omega) y14.c) ?_
     rintro _ _ ⟨rfl, rfl⟩
     refine s_nil (xs_held [0, 2, 4] ?_)
     exact h_use hj111 (g28, g31) (fun _ h => h.re [1, 1, 0, 0, 0, 0, 0] [])
    ·
     refine s_alloc (.agg #[.int .i64 0, .int .i64 0, .int .i64 0, .string ByteArray.empty, .int .i64 0]) #[.int .i64 0, .int .i64 0, .int .i64 0, .string ByteArray.empty, .int .i64 0] (fun g128 => ?_)
     refine s_nil (xs_held [3, 3, 5] ?_)
     exact h_use hj115 (g28, g128, g31) (fun _ h => h.re [1, 0, 0, 0, 0, 0, 0, 0] [])
   refine h_join (ι := Nat × Nat) 5 #[true, true, true, true, true, true, true, true, true, true, true, true, true, true, true, true, true, true, true, true, false, false, true, true, false, false, false] (fun (g33, g35) => [(0, lv), (2, pB g1 0), (4, pB g4 0), (5, .int .i64 (i : Int)), (7, pB g33 0), (8, pB g35 0), (36, .agg #[.int .i64 ((ofS ((mst l i).2) y14.a).kind), .int .i64 ((ofS ((mst l i).2) y14.a).p), .int .i64 ((ofS ((mst l i).2) y14.a).q), .string ((ofS ((mst l i).2) y14.a).str), .int .i64 ((ofS ((mst l i).2) y14.a).ref)]), (43, .agg #[.int .i64 ((ofS ((mst l i).2) y14.b).kind), .int .i64 ((ofS ((mst l i).2) y14.b).p), .int .i64 ((ofS ((mst l i).2) y14.b).q), .string ((ofS ((mst l i).2) y14.b).str), .int .i64 ((ofS ((mst l i).2) y14.b).ref)]), (44, .agg #[pB hb2 0, pB hb3 0, lx]), (49, .agg #[.int .i64 y14.c.v.kind, .int .i64 y14.c.v.p, .int .i64 y14.c.v.q, .string y14.c.v.str, .int .i64 y14.c.v.ref, .int .i64 y14.c.obj])]) (fun (g33, g35) => blkA g35 #[.int .i64 0, .int .i64 0, .int .i64 0, .string ByteArray.empty, .int .i64 0] 26 :: blkA g33 #[.int .i64 0, .int .i64 0, .int .i64 0, .string ByteArray.empty, .int .i64 0] 26 :: own VlT lx ((mst l i).2) :: blkA g4 #[pB hb2 0, pB hb3 0, lx] 35 :: rhA hb3 ((mst l i).1) :: hpA hb2 ((mst l i).1) :: blkA g1 #[.pointer none, .pointer none, (.slice none 0 0)] 35 :: F) ?_ (fun hj129 => ?_)
   ·
    rintro ⟨g33, g35⟩
    try dsimp only
    refine h_stepS2 20 21 ?_ ?_
    ·
     refine s_call [2] (of_s (L := (mst l i).2) (by (try simp only [lnm]); omega) y14.c) ?_
     rintro _ _ ⟨rfl, rfl⟩
     refine s_nil (xs_held [0, 2, 4] ?_)
     exact h_use hj113 (g33, g35) (fun _ h => h.re [1, 1, 0, 0, 0, 0, 0] [])
    ·
     refine s_alloc (.agg #[.int .i64 0, .int .i64 0, .int .i64 0, .string ByteArray.empty, .int .i64 0]) #[.int .i64 0, .int .i64 0, .int .i64 0, .string ByteArray.empty, .int .i64 0] (fun g130 => ?_)
     refine s_nil (xs_held [3, 3, 5] ?_)
     exact h_use hj115 (g130, g33, g35) (fun _ h => h.re [1, 1, 0, 0, 0, 0, 0, 0] [])
   refine h_join (ι := Nat × Nat × Nat) 5 #[true, true, true, true, true, true, true, true, true, true, true, true, true, false, true, true, true, true, true, true, false, true, true, true, false, false, false] (fun (g40, g41, g42) => [(0, lv), (2, pB g1 0), (4, pB g4 0), (5, .int .i64 (i : Int)), (6, pB g40 0), (7, pB g41 0), (8, pB g42 0), (36, .agg #[.int .i64 ((ofS ((mst l i).2) y14.a).kind), .int .i64 ((ofS ((mst l i).2) y14.a).p), .int .i64 ((ofS ((mst l i).2) y14.a).q), .string ((ofS ((mst l i).2) y14.a).str), .int .i64 ((ofS ((mst l i).2) y14.a).ref)]), (37, .agg #[pB hb2 0, pB hb3 0, lx]), (42, .agg #[.int .i64 y14.b.v.kind, .int .i64 y14.b.v.p, .int .i64 y14.b.v.q, .string y14.b.v.str, .int .i64 y14.b.v.ref, .int .i64 y14.b.obj]), (44, .agg #[pB hb2 0, pB hb3 0, lx]), (49, .agg #[.int .i64 y14.c.v.kind, .int .i64 y14.c.v.p, .int .i64 y14.c.v.q, .string y14.c.v.str, .int .i64 y14.c.v.ref, .int .i64 y14.c.obj])]) (fun (g40, g41, g42) => blkA g42 #[.int .i64 0, .int .i64 0, .int .i64 0, .string ByteArray.empty, .int .i64 0] 26 :: blkA g41 #[.int .i64 0, .int .i64 0, .int .i64 0, .string ByteArray.empty, .int .i64 0] 26 :: blkA g40 #[.int .i64 0, .int .i64 0, .int .i64 0, .string ByteArray.empty, .int .i64 0] 26 :: own VlT lx ((mst l i).2) :: blkA g4 #[pB hb2 0, pB hb3 0, lx] 35 :: rhA hb3 ((mst l i).1) :: hpA hb2 ((mst l i).1) :: blkA g1 #[.pointer none, .pointer none, (.slice none 0 0)] 35 :: F) ?_ (fun hj131 => ?_)
   ·
    rintro ⟨g40, g41, g42⟩
    try dsimp only
    refine h_stepS 13 ?_
    refine s_call [3] (of_s (L := (mst l i).2) (by (try simp only [lnm]); omega) y14.b) ?_
    rintro _ _ ⟨rfl, rfl⟩
    refine s_nil (xs_held [0, 3, 5] ?_)
    exact h_use hj115 (g40, g41, g42) (fun _ h => h.re [1, 1, 1, 0, 0, 0, 0, 0] [])
   refine h_join (ι := Nat) 6 #[true, true, true, true, true, true, true, true, true, true, true, true, true, true, true, true, true, true, true, true, false, true, false, false, false, false, false] (fun g28 => [(0, lv), (2, pB g1 0), (4, pB g4 0), (5, .int .i64 (i : Int)), (6, pB g28 0), (36, .agg #[.int .i64 ((ofS ((mst l i).2) y14.a).kind), .int .i64 ((ofS ((mst l i).2) y14.a).p), .int .i64 ((ofS ((mst l i).2) y14.a).q), .string ((ofS ((mst l i).2) y14.a).str), .int .i64 ((ofS ((mst l i).2) y14.a).ref)]), (43, .agg #[.int .i64 ((ofS ((mst l i).2) y14.b).kind), .int .i64 ((ofS ((mst l i).2) y14.b).p), .int .i64 ((ofS ((mst l i).2) y14.b).q), .string ((ofS ((mst l i).2) y14.b).str), .int .i64 ((ofS ((mst l i).2) y14.b).ref)]), (44, .agg #[pB hb2 0, pB hb3 0, lx]), (49, .agg #[.int .i64 y14.c.v.kind, .int .i64 y14.c.v.p, .int .i64 y14.c.v.q, .string y14.c.v.str, .int .i64 y14.c.v.ref, .int .i64 y14.c.obj])]) (fun g28 => blkA g28 #[.int .i64 0, .int .i64 0, .int .i64 0, .string ByteArray.empty, .int .i64 0] 26 :: own VlT lx ((mst l i).2) :: blkA g4 #[pB hb2 0, pB hb3 0, lx] 35 :: rhA hb3 ((mst l i).1) :: hpA hb2 ((mst l i).1) :: blkA g1 #[.pointer none, .pointer none, (.slice none 0 0)] 35 :: F) ?_ (fun hj132 => ?_)
   ·
    rintro g28
    try dsimp only
    refine h_stepS3 20 22 23 ?_ ?_ ?_
    ·
     refine s_call [1] (of_s (L := (mst l i).2) (by (try simp only [lnm]); omega) y14.c) ?_
     rintro _ _ ⟨rfl, rfl⟩
     refine s_nil (xs_held [0, 1, 3] ?_)
     exact h_use hj116 g28 (fun _ h => h.re [1, 0, 0, 0, 0, 0] [])
    ·
     refine s_alloc (.agg #[.int .i64 0, .int .i64 0, .int .i64 0, .string ByteArray.empty, .int .i64 0]) #[.int .i64 0, .int .i64 0, .int .i64 0, .string ByteArray.empty, .int .i64 0] (fun g133 => ?_)
     refine s_nil (xs_held [2, 2, 4] ?_)
     exact h_use hj125 (g28, g133) (fun _ h => h.re [0, 0, 0, 0, 0, 0, 0] [])
    ·
     refine s_alloc (.agg #[.int .i64 0, .int .i64 0, .int .i64 0, .string ByteArray.empty, .int .i64 0]) #[.int .i64 0, .int .i64 0, .int .i64 0, .string ByteArray.empty, .int .i64 0] (fun g134 => ?_)
     refine s_nil (xs_held [2, 2, 4] ?_)
     exact h_use hj127 (g28, g134) (fun _ h => h.re [0, 0, 0, 0, 0, 0, 0] [])
   refine h_join (ι := Nat) 6 #[true, true, true, true, true, true, true, true, true, true, true, true, true, true, true, true, true, true, true, true, false, false, true, false, false, false, false] (fun g33 => [(0, lv), (2, pB g1 0), (4, pB g4 0), (5, .int .i64 (i : Int)), (7, pB g33 0), (36, .agg #[.int .i64 ((ofS ((mst l i).2) y14.a).kind), .int .i64 ((ofS ((mst l i).2) y14.a).p), .int .i64 ((ofS ((mst l i).2) y14.a).q), .string ((ofS ((mst l i).2) y14.a).str), .int .i64 ((ofS ((mst l i).2) y14.a).ref)]), (43, .agg #[.int .i64 ((ofS ((mst l i).2) y14.b).kind), .int .i64 ((ofS ((mst l i).2) y14.b).p), .int .i64 ((ofS ((mst l i).2) y14.b).q), .string ((ofS ((mst l i).2) y14.b).str), .int .i64 ((ofS ((mst l i).2) y14.b).ref)]), (44, .agg #[pB hb2 0, pB hb3 0, lx]), (49, .agg #[.int .i64 y14.c.v.kind, .int .i64 y14.c.v.p, .int .i64 y14.c.v.q, .string y14.c.v.str, .int .i64 y14.c.v.ref, .int .i64 y14.c.obj])]) (fun g33 => blkA g33 #[.int .i64 0, .int .i64 0, .int .i64 0, .string ByteArray.empty, .int .i64 0] 26 :: own VlT lx ((mst l i).2) :: blkA g4 #[pB hb2 0, pB hb3 0, lx] 35 :: rhA hb3 ((mst l i).1) :: hpA hb2 ((mst l i).1) :: blkA g1 #[.pointer none, .pointer none, (.slice none 0 0)] 35 :: F) ?_ (fun hj135 => ?_)
   ·
    rintro g33
    try dsimp only
    refine h_stepS3 20 21 23 ?_ ?_ ?_
    ·
     refine s_call [1] (of_s (L := (mst l i).2) (by (try simp only [lnm]); omega) y14.c) ?_
     rintro _ _ ⟨rfl, rfl⟩
     refine s_nil (xs_held [0, 1, 3] ?_)
     exact h_use hj119 g33 (fun _ h => h.re [1, 0, 0, 0, 0, 0] [])
    ·
     refine s_alloc (.agg #[.int .i64 0, .int .i64 0, .int .i64 0, .string ByteArray.empty, .int .i64 0]) #[.int .i64 0, .int .i64 0, .int .i64 0, .string ByteArray.empty, .int .i64 0] (fun g136 => ?_)
     refine s_nil (xs_held [2, 2, 4] ?_)
     exact h_use hj125 (g136, g33) (fun _ h => h.re [1, 0, 0, 0, 0, 0, 0] [])
    ·
     refine s_alloc (.agg #[.int .i64 0, .int .i64 0, .int .i64 0, .string ByteArray.empty, .int .i64 0]) #[.int .i64 0, .int .i64 0, .int .i64 0, .string ByteArray.empty, .int .i64 0] (fun g137 => ?_)
     refine s_nil (xs_held [2, 2, 4] ?_)
     exact h_use hj129 (g33, g137) (fun _ h => h.re [0, 0, 0, 0, 0, 0, 0] [])
   refine h_join (ι := Nat) 6 #[true, true, true, true, true, true, true, true, true, true, true, true, true, true, true, true, true, true, true, true, false, false, false, true, false, false, false] (fun g37 => [(0, lv), (2, pB g1 0), (4, pB g4 0), (5, .int .i64 (i : Int)), (8, pB g37 0), (36, .agg #[.int .i64 ((ofS ((mst l i).2) y14.a).kind), .int .i64 ((ofS ((mst l i).2) y14.a).p), .int .i64 ((ofS ((mst l i).2) y14.a).q), .string ((ofS ((mst l i).2) y14.a).str), .int .i64 ((ofS ((mst l i).2) y14.a).ref)]), (43, .agg #[.int .i64 ((ofS ((mst l i).2) y14.b).kind), .int .i64 ((ofS ((mst l i).2) y14.b).p), .int .i64 ((ofS ((mst l i).2) y14.b).q), .string ((ofS ((mst l i).2) y14.b).str), .int .i64 ((ofS ((mst l i).2) y14.b).ref)]), (44, .agg #[pB hb2 0, pB hb3 0, lx]), (49, .agg #[.int .i64 y14.c.v.kind, .int .i64 y14.c.v.p, .int .i64 y14.c.v.q, .string y14.c.v.str, .int .i64 y14.c.v.ref, .int .i64 y14.c.obj])]) (fun g37 => blkA g37 #[.int .i64 0, .int .i64 0, .int .i64 0, .string ByteArray.empty, .int .i64 0] 26 :: own VlT lx ((mst l i).2) :: blkA g4 #[pB hb2 0, pB hb3 0, lx] 35 :: rhA hb3 ((mst l i).1) :: hpA hb2 ((mst l i).1) :: blkA g1 #[.pointer none, .pointer none, (.slice none 0 0)] 35 :: F) ?_ (fun hj138 => ?_)
   ·
    rintro g37
    try dsimp only
    refine h_stepS3 20 21 22 ?_ ?_ ?_
    ·
     refine s_call [1] (of_s (L := (mst l i).2) (by (try simp only [lnm]); omega) y14.c) ?_
     rintro _ _ ⟨rfl, rfl⟩
     refine s_nil (xs_held [0, 1, 3] ?_)
     exact h_use hj122 g37 (fun _ h => h.re [1, 0, 0, 0, 0, 0] [])
    ·
     refine s_alloc (.agg #[.int .i64 0, .int .i64 0, .int .i64 0, .string ByteArray.empty, .int .i64 0]) #[.int .i64 0, .int .i64 0, .int .i64 0, .string ByteArray.empty, .int .i64 0] (fun g139 => ?_)
     refine s_nil (xs_held [2, 2, 4] ?_)
     exact h_use hj127 (g139, g37) (fun _ h => h.re [1, 0, 0, 0, 0, 0, 0] [])
    ·
     refine s_alloc (.agg #[.int .i64 0, .int .i64 0, .int .i64 0, .string ByteArray.empty, .int .i64 0]) #[.int .i64 0, .int .i64 0, .int .i64 0, .string ByteArray.empty, .int .i64 0] (fun g140 => ?_)
     refine s_nil (xs_held [2, 2, 4] ?_)
     exact h_use hj129 (g140, g37) (fun _ h => h.re [1, 0, 0, 0, 0, 0, 0] [])
   refine h_join (ι := Nat × Nat) 6 #[true, true, true, true, true, true, true, true, true, true, true, true, true, false, true, true, true, true, true, true, false, true, true, false, false, false, false] (fun (g40, g41) => [(0, lv), (2, pB g1 0), (4, pB g4 0), (5, .int .i64 (i : Int)), (6, pB g40 0), (7, pB g41 0), (36, .agg #[.int .i64 ((ofS ((mst l i).2) y14.a).kind), .int .i64 ((ofS ((mst l i).2) y14.a).p), .int .i64 ((ofS ((mst l i).2) y14.a).q), .string ((ofS ((mst l i).2) y14.a).str), .int .i64 ((ofS ((mst l i).2) y14.a).ref)]), (37, .agg #[pB hb2 0, pB hb3 0, lx]), (42, .agg #[.int .i64 y14.b.v.kind, .int .i64 y14.b.v.p, .int .i64 y14.b.v.q, .string y14.b.v.str, .int .i64 y14.b.v.ref, .int .i64 y14.b.obj]), (44, .agg #[pB hb2 0, pB hb3 0, lx]), (49, .agg #[.int .i64 y14.c.v.kind, .int .i64 y14.c.v.p, .int .i64 y14.c.v.q, .string y14.c.v.str, .int .i64 y14.c.v.ref, .int .i64 y14.c.obj])]) (fun (g40, g41) => blkA g41 #[.int .i64 0, .int .i64 0, .int .i64 0, .string ByteArray.empty, .int .i64 0] 26 :: blkA g40 #[.int .i64 0, .int .i64 0, .int .i64 0, .string ByteArray.empty, .int .i64 0] 26 :: own VlT lx ((mst l i).2) :: blkA g4 #[pB hb2 0, pB hb3 0, lx] 35 :: rhA hb3 ((mst l i).1) :: hpA hb2 ((mst l i).1) :: blkA g1 #[.pointer none, .pointer none, (.slice none 0 0)] 35 :: F) ?_ (fun hj141 => ?_)
   ·
    rintro ⟨g40, g41⟩
    try dsimp only
    refine h_stepS2 13 23 ?_ ?_
    ·
     refine s_call [2] (of_s (L := (mst l i).2) (by (try simp only [lnm]); omega) y14.b) ?_
     rintro _ _ ⟨rfl, rfl⟩
     refine s_nil (xs_held [0, 2, 4] ?_)
     exact h_use hj125 (g40, g41) (fun _ h => h.re [1, 1, 0, 0, 0, 0, 0] [])
    ·
     refine s_alloc (.agg #[.int .i64 0, .int .i64 0, .int .i64 0, .string ByteArray.empty, .int .i64 0]) #[.int .i64 0, .int .i64 0, .int .i64 0, .string ByteArray.empty, .int .i64 0] (fun g142 => ?_)
     refine s_nil (xs_held [3, 3, 5] ?_)
     exact h_use hj131 (g40, g41, g142) (fun _ h => h.re [0, 0, 0, 0, 0, 0, 0, 0] [])
   refine h_join (ι := Nat × Nat) 6 #[true, true, true, true, true, true, true, true, true, true, true, true, true, false, true, true, true, true, true, true, false, true, false, true, false, false, false] (fun (g40, g43) => [(0, lv), (2, pB g1 0), (4, pB g4 0), (5, .int .i64 (i : Int)), (6, pB g40 0), (8, pB g43 0), (36, .agg #[.int .i64 ((ofS ((mst l i).2) y14.a).kind), .int .i64 ((ofS ((mst l i).2) y14.a).p), .int .i64 ((ofS ((mst l i).2) y14.a).q), .string ((ofS ((mst l i).2) y14.a).str), .int .i64 ((ofS ((mst l i).2) y14.a).ref)]), (37, .agg #[pB hb2 0, pB hb3 0, lx]), (42, .agg #[.int .i64 y14.b.v.kind, .int .i64 y14.b.v.p, .int .i64 y14.b.v.q, .string y14.b.v.str, .int .i64 y14.b.v.ref, .int .i64 y14.b.obj]), (44, .agg #[pB hb2 0, pB hb3 0, lx]), (49, .agg #[.int .i64 y14.c.v.kind, .int .i64 y14.c.v.p, .int .i64 y14.c.v.q, .string y14.c.v.str, .int .i64 y14.c.v.ref, .int .i64 y14.c.obj])]) (fun (g40, g43) => blkA g43 #[.int .i64 0, .int .i64 0, .int .i64 0, .string ByteArray.empty, .int .i64 0] 26 :: blkA g40 #[.int .i64 0, .int .i64 0, .int .i64 0, .string ByteArray.empty, .int .i64 0] 26 :: own VlT lx ((mst l i).2) :: blkA g4 #[pB hb2 0, pB hb3 0, lx] 35 :: rhA hb3 ((mst l i).1) :: hpA hb2 ((mst l i).1) :: blkA g1 #[.pointer none, .pointer none, (.slice none 0 0)] 35 :: F) ?_ (fun hj143 => ?_)
   ·
    rintro ⟨g40, g43⟩
    try dsimp only
    refine h_stepS2 13 22 ?_ ?_
    ·
     refine s_call [2] (of_s (L := (mst l i).2) (by (try simp only [lnm]); omega) y14.b) ?_
     rintro _ _ ⟨rfl, rfl⟩
     refine s_nil (xs_held [0, 2, 4] ?_)
     exact h_use hj127 (g40, g43) (fun _ h => h.re [1, 1, 0, 0, 0, 0, 0] [])
    ·
     refine s_alloc (.agg #[.int .i64 0, .int .i64 0, .int .i64 0, .string ByteArray.empty, .int .i64 0]) #[.int .i64 0, .int .i64 0, .int .i64 0, .string ByteArray.empty, .int .i64 0] (fun g144 => ?_)
     refine s_nil (xs_held [3, 3, 5] ?_)
     exact h_use hj131 (g40, g144, g43) (fun _ h => h.re [1, 0, 0, 0, 0, 0, 0, 0] [])
   refine h_join (ι := Nat × Nat) 6 #[true, true, true, true, true, true, true, true, true, true, true, true, true, false, true, true, true, true, true, true, false, false, true, true, false, false, false] (fun (g45, g47) => [(0, lv), (2, pB g1 0), (4, pB g4 0), (5, .int .i64 (i : Int)), (7, pB g45 0), (8, pB g47 0), (36, .agg #[.int .i64 ((ofS ((mst l i).2) y14.a).kind), .int .i64 ((ofS ((mst l i).2) y14.a).p), .int .i64 ((ofS ((mst l i).2) y14.a).q), .string ((ofS ((mst l i).2) y14.a).str), .int .i64 ((ofS ((mst l i).2) y14.a).ref)]), (37, .agg #[pB hb2 0, pB hb3 0, lx]), (42, .agg #[.int .i64 y14.b.v.kind, .int .i64 y14.b.v.p, .int .i64 y14.b.v.q, .string y14.b.v.str, .int .i64 y14.b.v.ref, .int .i64 y14.b.obj]), (44, .agg #[pB hb2 0, pB hb3 0, lx]), (49, .agg #[.int .i64 y14.c.v.kind, .int .i64 y14.c.v.p, .int .i64 y14.c.v.q, .string y14.c.v.str, .int .i64 y14.c.v.ref, .int .i64 y14.c.obj])]) (fun (g45, g47) => blkA g47 #[.int .i64 0, .int .i64 0, .int .i64 0, .string ByteArray.empty, .int .i64 0] 26 :: blkA g45 #[.int .i64 0, .int .i64 0, .int .i64 0, .string ByteArray.empty, .int .i64 0] 26 :: own VlT lx ((mst l i).2) :: blkA g4 #[pB hb2 0, pB hb3 0, lx] 35 :: rhA hb3 ((mst l i).1) :: hpA hb2 ((mst l i).1) :: blkA g1 #[.pointer none, .pointer none, (.slice none 0 0)] 35 :: F) ?_ (fun hj145 => ?_)
   ·
    rintro ⟨g45, g47⟩
    try dsimp only
    refine h_stepS2 13 21 ?_ ?_
    ·
     refine s_call [2] (of_s (L := (mst l i).2) (by (try simp only [lnm]); omega) y14.b) ?_
     rintro _ _ ⟨rfl, rfl⟩
     refine s_nil (xs_held [0, 2, 4] ?_)
     exact h_use hj129 (g45, g47) (fun _ h => h.re [1, 1, 0, 0, 0, 0, 0] [])
    ·
     refine s_alloc (.agg #[.int .i64 0, .int .i64 0, .int .i64 0, .string ByteArray.empty, .int .i64 0]) #[.int .i64 0, .int .i64 0, .int .i64 0, .string ByteArray.empty, .int .i64 0] (fun g146 => ?_)
     refine s_nil (xs_held [3, 3, 5] ?_)
     exact h_use hj131 (g146, g45, g47) (fun _ h => h.re [1, 1, 0, 0, 0, 0, 0, 0] [])
   refine h_join (ι := Nat × Nat × Nat) 6 #[true, true, true, true, true, true, false, true, true, true, true, true, true, false, true, true, true, true, true, true, false, true, true, true, false, false, false] (fun (g52, g53, g54) => [(0, lv), (2, pB g1 0), (4, pB g4 0), (5, .int .i64 (i : Int)), (6, pB g52 0), (7, pB g53 0), (8, pB g54 0), (30, .agg #[pB hb2 0, pB hb3 0, lx]), (35, .agg #[.int .i64 y14.a.v.kind, .int .i64 y14.a.v.p, .int .i64 y14.a.v.q, .string y14.a.v.str, .int .i64 y14.a.v.ref, .int .i64 y14.a.obj]), (37, .agg #[pB hb2 0, pB hb3 0, lx]), (42, .agg #[.int .i64 y14.b.v.kind, .int .i64 y14.b.v.p, .int .i64 y14.b.v.q, .string y14.b.v.str, .int .i64 y14.b.v.ref, .int .i64 y14.b.obj]), (44, .agg #[pB hb2 0, pB hb3 0, lx]), (49, .agg #[.int .i64 y14.c.v.kind, .int .i64 y14.c.v.p, .int .i64 y14.c.v.q, .string y14.c.v.str, .int .i64 y14.c.v.ref, .int .i64 y14.c.obj])]) (fun (g52, g53, g54) => blkA g54 #[.int .i64 0, .int .i64 0, .int .i64 0, .string ByteArray.empty, .int .i64 0] 26 :: blkA g53 #[.int .i64 0, .int .i64 0, .int .i64 0, .string ByteArray.empty, .int .i64 0] 26 :: blkA g52 #[.int .i64 0, .int .i64 0, .int .i64 0, .string ByteArray.empty, .int .i64 0] 26 :: own VlT lx ((mst l i).2) :: blkA g4 #[pB hb2 0, pB hb3 0, lx] 35 :: rhA hb3 ((mst l i).1) :: hpA hb2 ((mst l i).1) :: blkA g1 #[.pointer none, .pointer none, (.slice none 0 0)] 35 :: F) ?_ (fun hj147 => ?_)
   ·
    rintro ⟨g52, g53, g54⟩
    try dsimp only
    refine h_stepS 6 ?_
    refine s_call [3] (of_s (L := (mst l i).2) (by (try simp only [lnm]); omega) y14.a) ?_
    rintro _ _ ⟨rfl, rfl⟩
    refine s_nil (xs_held [0, 3, 5] ?_)
    exact h_use hj131 (g52, g53, g54) (fun _ h => h.re [1, 1, 1, 0, 0, 0, 0, 0] [])
   refine h_join (ι := Nat) 7 #[true, true, true, true, true, true, true, true, true, true, true, true, true, false, true, true, true, true, true, true, false, true, false, false, false, false, false] (fun g40 => [(0, lv), (2, pB g1 0), (4, pB g4 0), (5, .int .i64 (i : Int)), (6, pB g40 0), (36, .agg #[.int .i64 ((ofS ((mst l i).2) y14.a).kind), .int .i64 ((ofS ((mst l i).2) y14.a).p), .int .i64 ((ofS ((mst l i).2) y14.a).q), .string ((ofS ((mst l i).2) y14.a).str), .int .i64 ((ofS ((mst l i).2) y14.a).ref)]), (37, .agg #[pB hb2 0, pB hb3 0, lx]), (42, .agg #[.int .i64 y14.b.v.kind, .int .i64 y14.b.v.p, .int .i64 y14.b.v.q, .string y14.b.v.str, .int .i64 y14.b.v.ref, .int .i64 y14.b.obj]), (44, .agg #[pB hb2 0, pB hb3 0, lx]), (49, .agg #[.int .i64 y14.c.v.kind, .int .i64 y14.c.v.p, .int .i64 y14.c.v.q, .string y14.c.v.str, .int .i64 y14.c.v.ref, .int .i64 y14.c.obj])]) (fun g40 => blkA g40 #[.int .i64 0, .int .i64 0, .int .i64 0, .string ByteArray.empty, .int .i64 0] 26 :: own VlT lx ((mst l i).2) :: blkA g4 #[pB hb2 0, pB hb3 0, lx] 35 :: rhA hb3 ((mst l i).1) :: hpA hb2 ((mst l i).1) :: blkA g1 #[.pointer none, .pointer none, (.slice none 0 0)] 35 :: F) ?_ (fun hj148 => ?_)
   ·
    rintro g40
    try dsimp only
    refine h_stepS3 13 22 23 ?_ ?_ ?_
    ·
     refine s_call [1] (of_s (L := (mst l i).2) (by (try simp only [lnm]); omega) y14.b) ?_
     rintro _ _ ⟨rfl, rfl⟩
     refine s_nil (xs_held [0, 1, 3] ?_)
     exact h_use hj132 g40 (fun _ h => h.re [1, 0, 0, 0, 0, 0] [])
    ·
     refine s_alloc (.agg #[.int .i64 0, .int .i64 0, .int .i64 0, .string ByteArray.empty, .int .i64 0]) #[.int .i64 0, .int .i64 0, .int .i64 0, .string ByteArray.empty, .int .i64 0] (fun g149 => ?_)
     refine s_nil (xs_held [2, 2, 4] ?_)
     exact h_use hj141 (g40, g149) (fun _ h => h.re [0, 0, 0, 0, 0, 0, 0] [])
    ·
     refine s_alloc (.agg #[.int .i64 0, .int .i64 0, .int .i64 0, .string ByteArray.empty, .int .i64 0]) #[.int .i64 0, .int .i64 0, .int .i64 0, .string ByteArray.empty, .int .i64 0] (fun g150 => ?_)
     refine s_nil (xs_held [2, 2, 4] ?_)
     exact h_use hj143 (g40, g150) (fun _ h => h.re [0, 0, 0, 0, 0, 0, 0] [])
   refine h_join (ι := Nat) 7 #[true, true, true, true, true, true, true, true, true, true, true, true, true, false, true, true, true, true, true, true, false, false, true, false, false, false, false] (fun g45 => [(0, lv), (2, pB g1 0), (4, pB g4 0), (5, .int .i64 (i : Int)), (7, pB g45 0), (36, .agg #[.int .i64 ((ofS ((mst l i).2) y14.a).kind), .int .i64 ((ofS ((mst l i).2) y14.a).p), .int .i64 ((ofS ((mst l i).2) y14.a).q), .string ((ofS ((mst l i).2) y14.a).str), .int .i64 ((ofS ((mst l i).2) y14.a).ref)]), (37, .agg #[pB hb2 0, pB hb3 0, lx]), (42, .agg #[.int .i64 y14.b.v.kind, .int .i64 y14.b.v.p, .int .i64 y14.b.v.q, .string y14.b.v.str, .int .i64 y14.b.v.ref, .int .i64 y14.b.obj]), (44, .agg #[pB hb2 0, pB hb3 0, lx]), (49, .agg #[.int .i64 y14.c.v.kind, .int .i64 y14.c.v.p, .int .i64 y14.c.v.q, .string y14.c.v.str, .int .i64 y14.c.v.ref, .int .i64 y14.c.obj])]) (fun g45 => blkA g45 #[.int .i64 0, .int .i64 0, .int .i64 0, .string ByteArray.empty, .int .i64 0] 26 :: own VlT lx ((mst l i).2) :: blkA g4 #[pB hb2 0, pB hb3 0, lx] 35 :: rhA hb3 ((mst l i).1) :: hpA hb2 ((mst l i).1) :: blkA g1 #[.pointer none, .pointer none, (.slice none 0 0)] 35 :: F) ?_ (fun hj151 => ?_)
   ·
    rintro g45
    try dsimp only
    refine h_stepS3 13 21 23 ?_ ?_ ?_
    ·
     refine s_call [1] (of_s (L := (mst l i).2) (by (try simp only [lnm]); omega) y14.b) ?_
     rintro _ _ ⟨rfl, rfl⟩
     refine s_nil (xs_held [0, 1, 3] ?_)
     exact h_use hj135 g45 (fun _ h => h.re [1, 0, 0, 0, 0, 0] [])
    ·
     refine s_alloc (.agg #[.int .i64 0, .int .i64 0, .int .i64 0, .string ByteArray.empty, .int .i64 0]) #[.int .i64 0, .int .i64 0, .int .i64 0, .string ByteArray.empty, .int .i64 0] (fun g152 => ?_)
     refine s_nil (xs_held [2, 2, 4] ?_)
     exact h_use hj141 (g152, g45) (fun _ h => h.re [1, 0, 0, 0, 0, 0, 0] [])
    ·
     refine s_alloc (.agg #[.int .i64 0, .int .i64 0, .int .i64 0, .string ByteArray.empty, .int .i64 0]) #[.int .i64 0, .int .i64 0, .int .i64 0, .string ByteArray.empty, .int .i64 0] (fun g153 => ?_)
     refine s_nil (xs_held [2, 2, 4] ?_)
     exact h_use hj145 (g45, g153) (fun _ h => h.re [0, 0, 0, 0, 0, 0, 0] [])
   refine h_join (ι := Nat) 7 #[true, true, true, true, true, true, true, true, true, true, true, true, true, false, true, true, true, true, true, true, false, false, false, true, false, false, false] (fun g49 => [(0, lv), (2, pB g1 0), (4, pB g4 0), (5, .int .i64 (i : Int)), (8, pB g49 0), (36, .agg #[.int .i64 ((ofS ((mst l i).2) y14.a).kind), .int .i64 ((ofS ((mst l i).2) y14.a).p), .int .i64 ((ofS ((mst l i).2) y14.a).q), .string ((ofS ((mst l i).2) y14.a).str), .int .i64 ((ofS ((mst l i).2) y14.a).ref)]), (37, .agg #[pB hb2 0, pB hb3 0, lx]), (42, .agg #[.int .i64 y14.b.v.kind, .int .i64 y14.b.v.p, .int .i64 y14.b.v.q, .string y14.b.v.str, .int .i64 y14.b.v.ref, .int .i64 y14.b.obj]), (44, .agg #[pB hb2 0, pB hb3 0, lx]), (49, .agg #[.int .i64 y14.c.v.kind, .int .i64 y14.c.v.p, .int .i64 y14.c.v.q, .string y14.c.v.str, .int .i64 y14.c.v.ref, .int .i64 y14.c.obj])]) (fun g49 => blkA g49 #[.int .i64 0, .int .i64 0, .int .i64 0, .string ByteArray.empty, .int .i64 0] 26 :: own VlT lx ((mst l i).2) :: blkA g4 #[pB hb2 0, pB hb3 0, lx] 35 :: rhA hb3 ((mst l i).1) :: hpA hb2 ((mst l i).1) :: blkA g1 #[.pointer none, .pointer none, (.slice none 0 0)] 35 :: F) ?_ (fun hj154 => ?_)
   ·
    rintro g49
    try dsimp only
    refine h_stepS3 13 21 22 ?_ ?_ ?_
    ·
     refine s_call [1] (of_s (L := (mst l i).2) (by (try simp only [lnm]); omega) y14.b) ?_
     rintro _ _ ⟨rfl, rfl⟩
     refine s_nil (xs_held [0, 1, 3] ?_)
     exact h_use hj138 g49 (fun _ h => h.re [1, 0, 0, 0, 0, 0] [])
    ·
     refine s_alloc (.agg #[.int .i64 0, .int .i64 0, .int .i64 0, .string ByteArray.empty, .int .i64 0]) #[.int .i64 0, .int .i64 0, .int .i64 0, .string ByteArray.empty, .int .i64 0] (fun g155 => ?_)
     refine s_nil (xs_held [2, 2, 4] ?_)
     exact h_use hj143 (g155, g49) (fun _ h => h.re [1, 0, 0, 0, 0, 0, 0] [])
    ·
     refine s_alloc (.agg #[.int .i64 0, .int .i64 0, .int .i64 0, .string ByteArray.empty, .int .i64 0]) #[.int .i64 0, .int .i64 0, .int .i64 0, .string ByteArray.empty, .int .i64 0] (fun g156 => ?_)
     refine s_nil (xs_held [2, 2, 4] ?_)
     exact h_use hj145 (g156, g49) (fun _ h => h.re [1, 0, 0, 0, 0, 0, 0] [])
   refine h_join (ι := Nat × Nat) 7 #[true, true, true, true, true, true, false, true, true, true, true, true, true, false, true, true, true, true, true, true, false, true, true, false, false, false, false] (fun (g52, g53) => [(0, lv), (2, pB g1 0), (4, pB g4 0), (5, .int .i64 (i : Int)), (6, pB g52 0), (7, pB g53 0), (30, .agg #[pB hb2 0, pB hb3 0, lx]), (35, .agg #[.int .i64 y14.a.v.kind, .int .i64 y14.a.v.p, .int .i64 y14.a.v.q, .string y14.a.v.str, .int .i64 y14.a.v.ref, .int .i64 y14.a.obj]), (37, .agg #[pB hb2 0, pB hb3 0, lx]), (42, .agg #[.int .i64 y14.b.v.kind, .int .i64 y14.b.v.p, .int .i64 y14.b.v.q, .string y14.b.v.str, .int .i64 y14.b.v.ref, .int .i64 y14.b.obj]), (44, .agg #[pB hb2 0, pB hb3 0, lx]), (49, .agg #[.int .i64 y14.c.v.kind, .int .i64 y14.c.v.p, .int .i64 y14.c.v.q, .string y14.c.v.str, .int .i64 y14.c.v.ref, .int .i64 y14.c.obj])]) (fun (g52, g53) => blkA g53 #[.int .i64 0, .int .i64 0, .int .i64 0, .string ByteArray.empty, .int .i64 0] 26 :: blkA g52 #[.int .i64 0, .int .i64 0, .int .i64 0, .string ByteArray.empty, .int .i64 0] 26 :: own VlT lx ((mst l i).2) :: blkA g4 #[pB hb2 0, pB hb3 0, lx] 35 :: rhA hb3 ((mst l i).1) :: hpA hb2 ((mst l i).1) :: blkA g1 #[.pointer none, .pointer none, (.slice none 0 0)] 35 :: F) ?_ (fun hj157 => ?_)
   ·
    rintro ⟨g52, g53⟩
    try dsimp only
    refine h_stepS2 6 23 ?_ ?_
    ·
     refine s_call [2] (of_s (L := (mst l i).2) (by (try simp only [lnm]); omega) y14.a) ?_
     rintro _ _ ⟨rfl, rfl⟩
     refine s_nil (xs_held [0, 2, 4] ?_)
     exact h_use hj141 (g52, g53) (fun _ h => h.re [1, 1, 0, 0, 0, 0, 0] [])
    ·
     refine s_alloc (.agg #[.int .i64 0, .int .i64 0, .int .i64 0, .string ByteArray.empty, .int .i64 0]) #[.int .i64 0, .int .i64 0, .int .i64 0, .string ByteArray.empty, .int .i64 0] (fun g158 => ?_)
     refine s_nil (xs_held [3, 3, 5] ?_)
     exact h_use hj147 (g52, g53, g158) (fun _ h => h.re [0, 0, 0, 0, 0, 0, 0, 0] [])
   refine h_join (ι := Nat × Nat) 7 #[true, true, true, true, true, true, false, true, true, true, true, true, true, false, true, true, true, true, true, true, false, true, false, true, false, false, false] (fun (g52, g55) => [(0, lv), (2, pB g1 0), (4, pB g4 0), (5, .int .i64 (i : Int)), (6, pB g52 0), (8, pB g55 0), (30, .agg #[pB hb2 0, pB hb3 0, lx]), (35, .agg #[.int .i64 y14.a.v.kind, .int .i64 y14.a.v.p, .int .i64 y14.a.v.q, .string y14.a.v.str, .int .i64 y14.a.v.ref, .int .i64 y14.a.obj]), (37, .agg #[pB hb2 0, pB hb3 0, lx]), (42, .agg #[.int .i64 y14.b.v.kind, .int .i64 y14.b.v.p, .int .i64 y14.b.v.q, .string y14.b.v.str, .int .i64 y14.b.v.ref, .int .i64 y14.b.obj]), (44, .agg #[pB hb2 0, pB hb3 0, lx]), (49, .agg #[.int .i64 y14.c.v.kind, .int .i64 y14.c.v.p, .int .i64 y14.c.v.q, .string y14.c.v.str, .int .i64 y14.c.v.ref, .int .i64 y14.c.obj])]) (fun (g52, g55) => blkA g55 #[.int .i64 0, .int .i64 0, .int .i64 0, .string ByteArray.empty, .int .i64 0] 26 :: blkA g52 #[.int .i64 0, .int .i64 0, .int .i64 0, .string ByteArray.empty, .int .i64 0] 26 :: own VlT lx ((mst l i).2) :: blkA g4 #[pB hb2 0, pB hb3 0, lx] 35 :: rhA hb3 ((mst l i).1) :: hpA hb2 ((mst l i).1) :: blkA g1 #[.pointer none, .pointer none, (.slice none 0 0)] 35 :: F) ?_ (fun hj159 => ?_)
   ·
    rintro ⟨g52, g55⟩
    try dsimp only
    refine h_stepS2 6 22 ?_ ?_
    ·
     refine s_call [2] (of_s (L := (mst l i).2) (by (try simp only [lnm]); omega) y14.a) ?_
     rintro _ _ ⟨rfl, rfl⟩
     refine s_nil (xs_held [0, 2, 4] ?_)
     exact h_use hj143 (g52, g55) (fun _ h => h.re [1, 1, 0, 0, 0, 0, 0] [])
    ·
     refine s_alloc (.agg #[.int .i64 0, .int .i64 0, .int .i64 0, .string ByteArray.empty, .int .i64 0]) #[.int .i64 0, .int .i64 0, .int .i64 0, .string ByteArray.empty, .int .i64 0] (fun g160 => ?_)
     refine s_nil (xs_held [3, 3, 5] ?_)
     exact h_use hj147 (g52, g160, g55) (fun _ h => h.re [1, 0, 0, 0, 0, 0, 0, 0] [])
   refine h_join (ι := Nat × Nat) 7 #[true, true, true, true, true, true, false, true, true, true, true, true, true, false, true, true, true, true, true, true, false, false, true, true, false, false, false] (fun (g57, g59) => [(0, lv), (2, pB g1 0), (4, pB g4 0), (5, .int .i64 (i : Int)), (7, pB g57 0), (8, pB g59 0), (30, .agg #[pB hb2 0, pB hb3 0, lx]), (35, .agg #[.int .i64 y14.a.v.kind, .int .i64 y14.a.v.p, .int .i64 y14.a.v.q, .string y14.a.v.str, .int .i64 y14.a.v.ref, .int .i64 y14.a.obj]), (37, .agg #[pB hb2 0, pB hb3 0, lx]), (42, .agg #[.int .i64 y14.b.v.kind, .int .i64 y14.b.v.p, .int .i64 y14.b.v.q, .string y14.b.v.str, .int .i64 y14.b.v.ref, .int .i64 y14.b.obj]), (44, .agg #[pB hb2 0, pB hb3 0, lx]), (49, .agg #[.int .i64 y14.c.v.kind, .int .i64 y14.c.v.p, .int .i64 y14.c.v.q, .string y14.c.v.str, .int .i64 y14.c.v.ref, .int .i64 y14.c.obj])]) (fun (g57, g59) => blkA g59 #[.int .i64 0, .int .i64 0, .int .i64 0, .string ByteArray.empty, .int .i64 0] 26 :: blkA g57 #[.int .i64 0, .int .i64 0, .int .i64 0, .string ByteArray.empty, .int .i64 0] 26 :: own VlT lx ((mst l i).2) :: blkA g4 #[pB hb2 0, pB hb3 0, lx] 35 :: rhA hb3 ((mst l i).1) :: hpA hb2 ((mst l i).1) :: blkA g1 #[.pointer none, .pointer none, (.slice none 0 0)] 35 :: F) ?_ (fun hj161 => ?_)
   ·
    rintro ⟨g57, g59⟩
    try dsimp only
    refine h_stepS2 6 21 ?_ ?_
    ·
     refine s_call [2] (of_s (L := (mst l i).2) (by (try simp only [lnm]); omega) y14.a) ?_
     rintro _ _ ⟨rfl, rfl⟩
     refine s_nil (xs_held [0, 2, 4] ?_)
     exact h_use hj145 (g57, g59) (fun _ h => h.re [1, 1, 0, 0, 0, 0, 0] [])
    ·
     refine s_alloc (.agg #[.int .i64 0, .int .i64 0, .int .i64 0, .string ByteArray.empty, .int .i64 0]) #[.int .i64 0, .int .i64 0, .int .i64 0, .string ByteArray.empty, .int .i64 0] (fun g162 => ?_)
     refine s_nil (xs_held [3, 3, 5] ?_)
     exact h_use hj147 (g162, g57, g59) (fun _ h => h.re [1, 1, 0, 0, 0, 0, 0, 0] [])
   refine h_stepS4 6 21 22 23 ?_ ?_ ?_ ?_
   ·
    refine s_call [0] (of_s (L := (mst l i).2) (by (try simp only [lnm]); omega) y14.a) ?_
    rintro _ _ ⟨rfl, rfl⟩
    refine s_nil (xs_held [0, 0, 2] ?_)
    refine h_stepS4 13 21 22 23 ?_ ?_ ?_ ?_
    ·
     refine s_call [0] (of_s (L := (mst l i).2) (by (try simp only [lnm]); omega) y14.b) ?_
     rintro _ _ ⟨rfl, rfl⟩
     refine s_nil (xs_held [0, 0, 2] ?_)
     refine h_stepS4 20 21 22 23 ?_ ?_ ?_ ?_
     ·
      refine s_call [0] (of_s (L := (mst l i).2) (by (try simp only [lnm]); omega) y14.c) ?_
      rintro _ _ ⟨rfl, rfl⟩
      refine s_nil (xs_held [0, 0, 2] ?_)
      refine h_stepS3 21 22 23 ?_ ?_ ?_
      ·
       refine s_alloc (.agg #[.int .i64 0, .int .i64 0, .int .i64 0, .string ByteArray.empty, .int .i64 0]) #[.int .i64 0, .int .i64 0, .int .i64 0, .string ByteArray.empty, .int .i64 0] (fun g163 => ?_)
       refine s_nil (xs_held [1, 1, 3] ?_)
       exact h_use hj116 g163 (fun _ h => h.re [0, 0, 0, 0, 0, 0] [])
      ·
       refine s_alloc (.agg #[.int .i64 0, .int .i64 0, .int .i64 0, .string ByteArray.empty, .int .i64 0]) #[.int .i64 0, .int .i64 0, .int .i64 0, .string ByteArray.empty, .int .i64 0] (fun g164 => ?_)
       refine s_nil (xs_held [1, 1, 3] ?_)
       exact h_use hj119 g164 (fun _ h => h.re [0, 0, 0, 0, 0, 0] [])
      ·
       refine s_alloc (.agg #[.int .i64 0, .int .i64 0, .int .i64 0, .string ByteArray.empty, .int .i64 0]) #[.int .i64 0, .int .i64 0, .int .i64 0, .string ByteArray.empty, .int .i64 0] (fun g165 => ?_)
       refine s_nil (xs_held [1, 1, 3] ?_)
       exact h_use hj122 g165 (fun _ h => h.re [0, 0, 0, 0, 0, 0] [])
     ·
      refine s_alloc (.agg #[.int .i64 0, .int .i64 0, .int .i64 0, .string ByteArray.empty, .int .i64 0]) #[.int .i64 0, .int .i64 0, .int .i64 0, .string ByteArray.empty, .int .i64 0] (fun g166 => ?_)
      refine s_nil (xs_held [1, 1, 3] ?_)
      exact h_use hj132 g166 (fun _ h => h.re [0, 0, 0, 0, 0, 0] [])
     ·
      refine s_alloc (.agg #[.int .i64 0, .int .i64 0, .int .i64 0, .string ByteArray.empty, .int .i64 0]) #[.int .i64 0, .int .i64 0, .int .i64 0, .string ByteArray.empty, .int .i64 0] (fun g167 => ?_)
      refine s_nil (xs_held [1, 1, 3] ?_)
      exact h_use hj135 g167 (fun _ h => h.re [0, 0, 0, 0, 0, 0] [])
     ·
      refine s_alloc (.agg #[.int .i64 0, .int .i64 0, .int .i64 0, .string ByteArray.empty, .int .i64 0]) #[.int .i64 0, .int .i64 0, .int .i64 0, .string ByteArray.empty, .int .i64 0] (fun g168 => ?_)
      refine s_nil (xs_held [1, 1, 3] ?_)
      exact h_use hj138 g168 (fun _ h => h.re [0, 0, 0, 0, 0, 0] [])
    ·
     refine s_alloc (.agg #[.int .i64 0, .int .i64 0, .int .i64 0, .string ByteArray.empty, .int .i64 0]) #[.int .i64 0, .int .i64 0, .int .i64 0, .string ByteArray.empty, .int .i64 0] (fun g169 => ?_)
     refine s_nil (xs_held [1, 1, 3] ?_)
     exact h_use hj148 g169 (fun _ h => h.re [0, 0, 0, 0, 0, 0] [])
    ·
     refine s_alloc (.agg #[.int .i64 0, .int .i64 0, .int .i64 0, .string ByteArray.empty, .int .i64 0]) #[.int .i64 0, .int .i64 0, .int .i64 0, .string ByteArray.empty, .int .i64 0] (fun g170 => ?_)
     refine s_nil (xs_held [1, 1, 3] ?_)
     exact h_use hj151 g170 (fun _ h => h.re [0, 0, 0, 0, 0, 0] [])
    ·
     refine s_alloc (.agg #[.int .i64 0, .int .i64 0, .int .i64 0, .string ByteArray.empty, .int .i64 0]) #[.int .i64 0, .int .i64 0, .int .i64 0, .string ByteArray.empty, .int .i64 0] (fun g171 => ?_)
     refine s_nil (xs_held [1, 1, 3] ?_)
     exact h_use hj154 g171 (fun _ h => h.re [0, 0, 0, 0, 0, 0] [])
   ·
    refine s_alloc (.agg #[.int .i64 0, .int .i64 0, .int .i64 0, .string ByteArray.empty, .int .i64 0]) #[.int .i64 0, .int .i64 0, .int .i64 0, .string ByteArray.empty, .int .i64 0] (fun g172 => ?_)
    refine s_nil (xs_held [1, 1, 3] ?_)
    refine h_stepS3 6 22 23 ?_ ?_ ?_
    ·
     refine s_call [1] (of_s (L := (mst l i).2) (by (try simp only [lnm]); omega) y14.a) ?_
     rintro _ _ ⟨rfl, rfl⟩
     refine s_nil (xs_held [0, 1, 3] ?_)
     exact h_use hj148 g172 (fun _ h => h.re [1, 0, 0, 0, 0, 0] [])
    ·
     refine s_alloc (.agg #[.int .i64 0, .int .i64 0, .int .i64 0, .string ByteArray.empty, .int .i64 0]) #[.int .i64 0, .int .i64 0, .int .i64 0, .string ByteArray.empty, .int .i64 0] (fun g173 => ?_)
     refine s_nil (xs_held [2, 2, 4] ?_)
     exact h_use hj157 (g172, g173) (fun _ h => h.re [0, 0, 0, 0, 0, 0, 0] [])
    ·
     refine s_alloc (.agg #[.int .i64 0, .int .i64 0, .int .i64 0, .string ByteArray.empty, .int .i64 0]) #[.int .i64 0, .int .i64 0, .int .i64 0, .string ByteArray.empty, .int .i64 0] (fun g174 => ?_)
     refine s_nil (xs_held [2, 2, 4] ?_)
     exact h_use hj159 (g172, g174) (fun _ h => h.re [0, 0, 0, 0, 0, 0, 0] [])
   ·
    refine s_alloc (.agg #[.int .i64 0, .int .i64 0, .int .i64 0, .string ByteArray.empty, .int .i64 0]) #[.int .i64 0, .int .i64 0, .int .i64 0, .string ByteArray.empty, .int .i64 0] (fun g175 => ?_)
    refine s_nil (xs_held [1, 1, 3] ?_)
    refine h_stepS3 6 21 23 ?_ ?_ ?_
    ·
     refine s_call [1] (of_s (L := (mst l i).2) (by (try simp only [lnm]); omega) y14.a) ?_
     rintro _ _ ⟨rfl, rfl⟩
     refine s_nil (xs_held [0, 1, 3] ?_)
     exact h_use hj151 g175 (fun _ h => h.re [1, 0, 0, 0, 0, 0] [])
    ·
     refine s_alloc (.agg #[.int .i64 0, .int .i64 0, .int .i64 0, .string ByteArray.empty, .int .i64 0]) #[.int .i64 0, .int .i64 0, .int .i64 0, .string ByteArray.empty, .int .i64 0] (fun g176 => ?_)
     refine s_nil (xs_held [2, 2, 4] ?_)
     exact h_use hj157 (g176, g175) (fun _ h => h.re [1, 0, 0, 0, 0, 0, 0] [])
    ·
     refine s_alloc (.agg #[.int .i64 0, .int .i64 0, .int .i64 0, .string ByteArray.empty, .int .i64 0]) #[.int .i64 0, .int .i64 0, .int .i64 0, .string ByteArray.empty, .int .i64 0] (fun g177 => ?_)
     refine s_nil (xs_held [2, 2, 4] ?_)
     exact h_use hj161 (g175, g177) (fun _ h => h.re [0, 0, 0, 0, 0, 0, 0] [])
   ·
    refine s_alloc (.agg #[.int .i64 0, .int .i64 0, .int .i64 0, .string ByteArray.empty, .int .i64 0]) #[.int .i64 0, .int .i64 0, .int .i64 0, .string ByteArray.empty, .int .i64 0] (fun g178 => ?_)
    refine s_nil (xs_held [1, 1, 3] ?_)
    refine h_stepS3 6 21 22 ?_ ?_ ?_
    ·
     refine s_call [1] (of_s (L := (mst l i).2) (by (try simp only [lnm]); omega) y14.a) ?_
     rintro _ _ ⟨rfl, rfl⟩
     refine s_nil (xs_held [0, 1, 3] ?_)
     exact h_use hj154 g178 (fun _ h => h.re [1, 0, 0, 0, 0, 0] [])
    ·
     refine s_alloc (.agg #[.int .i64 0, .int .i64 0, .int .i64 0, .string ByteArray.empty, .int .i64 0]) #[.int .i64 0, .int .i64 0, .int .i64 0, .string ByteArray.empty, .int .i64 0] (fun g179 => ?_)
     refine s_nil (xs_held [2, 2, 4] ?_)
     exact h_use hj159 (g179, g178) (fun _ h => h.re [1, 0, 0, 0, 0, 0, 0] [])
    ·
     refine s_alloc (.agg #[.int .i64 0, .int .i64 0, .int .i64 0, .string ByteArray.empty, .int .i64 0]) #[.int .i64 0, .int .i64 0, .int .i64 0, .string ByteArray.empty, .int .i64 0] (fun g180 => ?_)
     refine s_nil (xs_held [2, 2, 4] ?_)
     exact h_use hj161 (g180, g178) (fun _ h => h.re [1, 0, 0, 0, 0, 0, 0] [])
  ·
   have p181 := c9
   simp only [Bool.and_eq_true, Bool.or_eq_true, Bool.and_eq_false_iff, Bool.or_eq_false_iff, Bool.not_eq_true', Bool.not_eq_false', decide_eq_true_eq, decide_eq_false_iff_not] at p181
   refine k_exit ?_
   refine xs_exit ?_
   refine xs_exit ?_
   refine xs_here ?_
   refine xs_then ?_
   refine k_sr ?_
   refine s_lt (t_loadA 1 #[pB hb2 0, pB hb3 0, lx]) ?_
   refine s_fact (fun H h => ((Acc.own (T := VlT) (L := (mst l i).2) 0 rfl) H h).form) (fun hf182 => ?_)
   refine s_store (u := .agg #[pB hb2 0, pB hb3 0, lx]) (m := 3) 4 #[pB hb2 0, pB hb3 0, lx] ?_ (hm := by (obtain ⟨_, _, e⟩ := hf182; rw [e]; rfl)) (h1 := by (obtain ⟨_, _, e⟩ := hf182; rw [e]; rfl)) (ha' := by (obtain ⟨_, _, e⟩ := hf182; rw [e]; rfl))
   refine sp (.bool true) ?_
   refine s_nt ?_
   refine k_ret ?_
   have hend : made l = mst l i := by unfold made; congr 1; omega
   exact xs_fin [.agg #[.pointer (some ⟨hb2, 0, none⟩), .pointer (some ⟨hb3, 0, none⟩), lx], .bool true] (hpA hb2 (mst l i).1 :: rhA hb3 (mst l i).1 :: own VlT lx (mst l i).2 :: F) (SI.agg 2 35 4 (SI.tmp 3 SI.nil)) (fun _ h => h.re [3, 2, 0] [3, 3]) ⟨hb2, hb3, lx, rfl, by rw [hend]⟩
end Go.Proofs.YtplkkhpokodbmaaGreatDoor
end
