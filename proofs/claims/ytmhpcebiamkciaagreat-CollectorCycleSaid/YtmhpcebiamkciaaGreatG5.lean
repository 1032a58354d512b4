/-
  Heaps of the reference. Each law says its conditions.
-/
import Derived.Test.YtmhpcebiamkciaaGreatG4
import Derived.Test.YtmhpcebiamkciaaGreatG2
import Derived.Lib.AppendZeros
section
set_option linter.unusedSimpArgs false
set_option linter.unusedVariables false
set_option maxRecDepth 100000
set_option maxHeartbeats 2000000
namespace Go.Proofs.YtmhpcebiamkciaaGreat
open Go.Hp Go.J Go.S
open Go.Mem (Ty KTy blk elemAt pre suf blk_pre blk_suf aget aset strK aggDesc)
open Go.Mem (adel apos aget_aset aget_adel)
structure Sv where
  p : Option Addr
  len : Nat
  cap : Nat
abbrev Sv.v (s : Sv) : Value := .slice s.p s.len s.cap
structure Rx where
  o : Option Hob
  tp : Nat
  uv : Sv
  rv : Sv
def Rx.v : Rx → Value
  | ⟨some o, tp, uv, rv⟩ => .agg #[.int .i64 o.kind, .int .i64 o.tag, .string o.name, tabV (0, tp) o, .int .i64 o.mt.kind, .int .i64 o.mt.p, .int .i64 o.mt.q, .string o.mt.str, .int .i64 o.mt.ref, uv.v, rv.v]
  | ⟨none, _, _, _⟩ => .agg #[.int .i64 0, .int .i64 0, .string ByteArray.empty, .pointer none, .int .i64 0, .int .i64 0, .int .i64 0, .string ByteArray.empty, .int .i64 0, .slice none 0 0, .slice none 0 0]
theorem tabV_one (q : Nat × Nat) (o : Hob) : (tabV q o).oneCell' = true := by unfold tabV; split <;> rfl
theorem tabV_tab {q : Nat × Nat} {o : Hob} (h : o.kind = 4) : tabV q o = ptrV q.2 := by unfold tabV; rw [if_pos h]
def RxT : Ty Rx := ⟨145, 11, 136, true, Rx.v, ⟨none, 0, ⟨none, 0, 0⟩, ⟨none, 0, 0⟩⟩⟩
theorem RxT_ok : RxT.Ok Tryz.prog := ok_of RxT _ Tryz.t145 (by decide) (fun x => by obtain ⟨o, _, _, _⟩ := x; cases o <;> rfl) (fun x u hu => by
  obtain ⟨o, tp, uv, rv⟩ := x
  cases o with
  | none => simp [Ty.enc, RxT, Rx.v, Value.cells] at hu; repeat (first | (rcases hu with rfl | hu; rfl) | (subst hu; rfl))
  | some o =>
    simp [Ty.enc, RxT, Rx.v, Value.cells] at hu
    rcases hu with rfl | rfl | rfl | rfl | rfl | rfl | rfl | rfl | rfl | rfl | rfl <;> first | rfl | exact tabV_one _ _) (fun x => by obtain ⟨o, _, _, _⟩ := x; cases o <;> rfl) Tryz.underlying145 rfl (fun h => by cases h) (by kernel_rfl) (by kernel_rfl) (by kernel_rfl) (by kernel_rfl)
def usr (o : Hob) : List Vl := if o.kind = 8 then o.vals else []
def rfs (o : Hob) : List Vl := if o.kind = 8 then [] else o.vals
def rtO (tp : Nat) (o : Hob) : Asr := star (if o.kind = 4 then [rtA tp o.tab.list o.tab.rest] else [])
def roP : Rx → Asr
  | ⟨some o, tp, uv, rv⟩ => star [own VlT uv.v (usr o), own VlT rv.v (rfs o), rtO tp o]
  | ⟨none, _, _, _⟩ => star []
def rallP (L : List Rx) : Asr := star (L.map roP)
def rhA (b : Nat) (st : Hst) : Asr := exA fun v => exA fun tv => exA fun L => stA (HInv st ∧ L.map Rx.o = st.objs) [blkA b #[v, iw (st.count : Int), tv] 142, own RxT v L, own bTy tv st.tch, rallP L]
section
variable {Z : Zone} {F : List Asr} {H : Heap} {b : Nat} {st : Hst} {L : List Rx} {id : Int} {o o' : Hob} {i tp : Nat} {uv rv : Sv}
theorem rh_open (h : Holds Z (rhA b st :: F) H) : ∃ (v tv : Value) (L : List Rx), (HInv st ∧ L.map Rx.o = st.objs) ∧ Holds Z (blkA b #[v, iw (st.count : Int), tv] 142 :: own RxT v L :: own bTy tv st.tch :: rallP L :: F) H := by
  obtain ⟨v, h⟩ := h.open_ex
  obtain ⟨tv, h⟩ := h.open_ex
  obtain ⟨L, h⟩ := h.open_ex
  exact ⟨v, tv, L, h.open_st⟩
theorem rh_shut {v tv : Value} {n : Int} {T : List Bool} (hp : ((HInv st ∧ L.map Rx.o = st.objs) ∧ n = (st.count : Int)) ∧ T = st.tch) (h : Holds Z (blkA b #[v, iw n, tv] 142 :: own RxT v L :: own bTy tv T :: rallP L :: F) H) : Holds Z (rhA b st :: F) H := by
  obtain ⟨⟨h1, rfl⟩, rfl⟩ := hp
  exact Holds.shut_ex v (Holds.shut_ex tv (Holds.shut_ex L (Holds.shut_st h1 h)))
theorem rh_inv (h : Holds Z (rhA b st :: F) H) : HInv st := by
  obtain ⟨_, _, _, h, _⟩ := rh_open h; exact h.1
theorem rx_len (hL : L.map Rx.o = st.objs) : L.length = st.objs.length := by rw [← hL, List.length_map]
theorem rx_get (hL : L.map Rx.o = st.objs) (ho : st.get id = some o) : ∃ tp uv rv, L[(id - 1).toNat]? = some ⟨some o, tp, uv, rv⟩ := by
  obtain ⟨_, h1, h2, h3⟩ := get_mem ho
  rw [← hL, List.getElem?_map, show id.toNat - 1 = (id - 1).toNat by omega] at h3
  cases hx : L[(id - 1).toNat]? with
  | none => rw [hx] at h3; cases h3
  | some x =>
    rw [hx] at h3
    obtain ⟨ox, tp, uv, rv⟩ := x
    simp at h3
    exact ⟨tp, uv, rv, by rw [← h3]⟩
theorem rx_cases (hL : L.map Rx.o = st.objs) (h1 : 1 ≤ id) (h2 : id ≤ (L.length : Int)) : (∃ tp uv rv, L[(id - 1).toNat]? = some ⟨none, tp, uv, rv⟩ ∧ st.get id = none) ∨ ∃ o tp uv rv, L[(id - 1).toNat]? = some ⟨some o, tp, uv, rv⟩ ∧ st.get id = some o := by
  have hlt : (id - 1).toNat < L.length := by omega
  obtain ⟨x, hx⟩ : ∃ x, L[(id - 1).toNat]? = some x := ⟨_, List.getElem?_eq_getElem hlt⟩
  have hg : st.get id = x.o := by
    unfold Hst.get
    rw [if_pos h1, ← hL, List.getElem?_map, show id.toNat - 1 = (id - 1).toNat by omega, hx]; rfl
  obtain ⟨o, tp, uv, rv⟩ := x
  cases o with
  | none => exact .inl ⟨tp, uv, rv, hx, hg⟩
  | some o => exact .inr ⟨o, tp, uv, rv, hx, hg⟩
theorem rtO_open (h4 : o.kind = 4) (h : Holds Z (rtO tp o :: F) H) : Holds Z (rtA tp o.tab.list o.tab.rest :: F) H := by
  unfold rtO at h
  rw [if_pos h4] at h
  exact h.star_out
theorem rtO_shut {T : Tb} (h4 : o.kind = 4) (h : Holds Z (rtA tp T.list T.rest :: F) H) : Holds Z (rtO tp { o with tab := T } :: F) H := by
  unfold rtO
  rw [if_pos h4]
  exact Holds.star_in (L := [_]) h
theorem rtO_none (h4 : o.kind ≠ 4) (h : Holds Z F H) : Holds Z (rtO tp o :: F) H := by
  unfold rtO
  rw [if_neg h4]
  exact h.star_nil
theorem rall_out (hy : L[i]? = some ⟨some o, tp, uv, rv⟩) (h : Holds Z (rallP L :: F) H) : Holds Z (own VlT uv.v (usr o) :: own VlT rv.v (rfs o) :: rtO tp o :: rallP (L.eraseIdx i) :: F) H := (h.star_get hy).star_out
theorem rall_in (hy : L[i]? = some ⟨some o, tp, uv, rv⟩) {uv' rv' : Sv} (h : Holds Z (own VlT uv'.v (usr o') :: own VlT rv'.v (rfs o') :: rtO tp o' :: rallP (L.eraseIdx i) :: F) H) : Holds Z (rallP (L.set i ⟨some o', tp, uv', rv'⟩) :: F) H := by
  have h1 : Holds Z (roP ⟨some o', tp, uv', rv'⟩ :: star ((L.eraseIdx i).map roP) :: F) H := Holds.star_in (L := [_, _, _]) h
  have hi := (List.getElem?_eq_some_iff.1 hy).1
  unfold rallP
  rw [List.map_set]
  rw [← erase_map, ← del_eq] at h1
  have := Holds.star_push (i := i) (A := roP ⟨some o, tp, uv, rv⟩) (by rw [gt_eq, List.getElem?_map, hy]; rfl) h1
  rwa [upd_eq] at this
theorem own_flat {α : Type} {T : Ty α} {v : Value} {A B : List α} (hl : A.length = B.length) (hf : T.flat A = T.flat B) (h : Holds Z (own T v A :: F) H) : Holds Z (own T v B :: F) H := h.imp fun S ⟨S1, S2, h1, h2, hd, hS⟩ => ⟨S1, S2, ⟨by
  obtain ⟨hw, _⟩ := h1
  unfold Ow at hw ⊢
  rw [← hl, ← hf]
  rcases hw with ⟨a, b⟩ | hw
  · exact .inl ⟨a, List.eq_nil_of_length_eq_zero (by rw [← hl, b]; rfl)⟩
  · exact .inr hw, h1.2⟩, h2, hd, hS⟩
theorem flat_set {α : Type} {T : Ty α} {A : List α} {x y : α} (hx : A[i]? = some x) (he : T.enc y = T.enc x) : T.flat (A.set i y) = T.flat A := by
  obtain ⟨hi, e⟩ := List.getElem?_eq_some_iff.1 hx
  have h1 : A.set i y = A.take i ++ ([y] ++ A.drop (i + 1)) := by rw [List.set_eq_take_append_cons_drop, if_pos hi]; rfl
  have h2 : A = A.take i ++ ([x] ++ A.drop (i + 1)) := by
    have : A.drop i = A[i] :: A.drop (i + 1) := List.drop_eq_getElem_cons hi
    rw [← e]; show A = A.take i ++ (A[i] :: A.drop (i + 1)); rw [← this, List.take_append_drop]
  have hs : T.flat [y] = T.flat [x] := by show T.enc y ++ T.flat [] = T.enc x ++ T.flat []; rw [he]
  rw [h1]
  conv => rhs; rw [h2]
  simp only [Ty.flat_append, hs]
theorem own_set {α : Type} {T : Ty α} {v : Value} {A : List α} {x y : α} (hx : A[i]? = some x) (he : T.enc y = T.enc x) (h : Holds Z (own T v A :: F) H) : Holds Z (own T v (A.set i y) :: F) H := own_flat (by simp) (flat_set hx he).symm h
theorem rx_set {x : Rx} (hL : L.map Rx.o = st.objs) (ho : st.get id = some o) (hx : x.o = some o') : (L.set (id - 1).toNat x).map Rx.o = (st.put id o').objs := by
  obtain ⟨_, h1, h2, _⟩ := get_mem ho
  unfold Hst.put
  rw [List.map_set, hL, hx, show id.toNat - 1 = (id - 1).toNat by omega]
theorem rx_snoc {x : Rx} (hL : L.map Rx.o = st.objs) (hx : x.o = some o') (tch : List Bool) : (L ++ [x]).map Rx.o = (⟨st.objs ++ [some o'], tch⟩ : Hst).objs := by rw [List.map_append, hL]; simp [hx]
theorem rall_add {x : Rx} (h : Holds Z (roP x :: rallP L :: F) H) : Holds Z (rallP (L ++ [x]) :: F) H := by
  unfold rallP
  rw [List.map_append]
  exact Holds.star_add h
def denB (st : Hst) (v : Vl) : Bool := (hfind st v).isSome
theorem den_zero (hi : HInv st) {v : Vl} (h : v.kind = 0) : denB st v = false := by
  unfold denB
  cases hf : hfind st v with
  | none => rfl
  | some o =>
    obtain ⟨h1, h2⟩ := hfind_some hf
    have := (hi.obs o (get_mem h1).1).kind
    rw [h2, h] at this; cases this
theorem den_none {v : Vl} (h : st.get v.ref = none) : denB st v = false := by unfold denB; rw [hfind_none h]; rfl
theorem get_low {id : Int} (h : ¬ 1 ≤ id) : st.get id = none := by unfold Hst.get; rw [if_neg h]
theorem get_high {id : Int} (h : (st.objs.length : Int) < id) : st.get id = none := by unfold Hst.get; rw [if_pos (by omega), List.getElem?_eq_none (by omega)]; rfl
theorem den_kind {v : Vl} (h : st.get v.ref = some o) (hk : o.kind ≠ v.kind) : denB st v = false := by unfold denB; rw [hfind_kind h hk]; rfl
theorem den_yes (hi : HInv st) {v : Vl} (h : st.get v.ref = some o) (hk : o.kind = v.kind) : isRef v.kind = denB st v := by
  unfold denB; rw [hfind_is h hk, ← hk]; exact (hi.obs o (get_mem h).1).kind
theorem is_cases (st : Hst) (v : Vl) (k : Int) : ((denB st v && decide (v.kind = k)) = false ∧ (hfind st v = none ∨ v.kind ≠ k)) ∨ ∃ o, (denB st v && decide (v.kind = k)) = true ∧ hfind st v = some o ∧ st.get v.ref = some o ∧ o.kind = v.kind ∧ v.kind = k := by
  unfold denB
  cases hf : hfind st v with
  | none => exact .inl ⟨rfl, .inl rfl⟩
  | some o =>
    obtain ⟨h1, h2⟩ := hfind_some hf
    by_cases hk : v.kind = k
    · exact .inr ⟨o, by simp [hk], rfl, h1, h2, hk⟩
    · exact .inl ⟨by simp [hk], .inr hk⟩
theorem tabE_cases (st : Hst) (v : Vl) : (htab st v = none ∧ hgetE st v = 8) ∨ ∃ o, htab st v = some o.tab ∧ st.get v.ref = some o ∧ o.kind = 4 ∧ v.kind = 4 ∧ hgetE st v = 0 := by
  cases ht : htab st v with
  | none => exact .inl ⟨rfl, hgetE_none ht⟩
  | some T =>
    obtain ⟨o, _, h1, h2, h3, h4⟩ := htab_some ht
    exact .inr ⟨o, by rw [h4], h1, h2, h3, hgetE_some ht⟩
theorem tab_of_is {v : Vl} (h : (denB st v && decide (v.kind = 4)) = false) : hgetE st v = 8 := by
  refine hgetE_none ?_
  cases hf : hfind st v with
  | none => exact htab_none hf
  | some o =>
    unfold denB at h
    rw [hf] at h
    simp at h
    exact htab_not hf (by rw [(hfind_some hf).2]; exact h)
theorem tab_of_is2 {v : Vl} (h : hfind st v = some o) (hk : o.kind = v.kind) (h4 : v.kind = 4) : hgetE st v = 0 := hgetE_some (htab_is h (by omega))
end
theorem rref_s {Z : Zone} (v : Vl) : SF Tryz.prog 230 #[v.v] Z [] fun r Bs => r = .bool (isRef v.kind) ∧ Bs = [] := by
 refine sf_enter Tryz.func230 21 [(0, .agg (vc v))] (fun w0 => ?_)
 refine k_sr <| s_box (vc v) (fun g1 => ?_)
 refine sp (.bool false) ?_
 refine s_nr ?_
 refine sp (pB g1 0) ?_
 refine s_lt (t_load 0 (iw v.kind)) ?_
 refine s_lt t_cmp ?_
 refine sp (.bool (decide (v.kind = 4))) ?_
 refine s_fork 6 (decide (v.kind = 4)) (fun c2 => ?_) (fun c2 => ?_)
 ·
  have p3 := of_decide_eq_true c2
  refine s_skip ?_
  refine s_skip ?_
  refine s_skip ?_
  refine sp (.bool true) ?_
  refine sp (.bool true) ?_
  refine s_skip ?_
  refine s_skip ?_
  refine s_skip ?_
  refine sp (.bool true) ?_
  refine sp (.bool true) ?_
  refine s_skip ?_
  refine s_skip ?_
  refine s_skip ?_
  refine sp (.bool true) ?_
  refine sp (.bool true) ?_
  refine s_nt <| k_ret <| xs_fin [.bool true] [] (SI.tmp 2 SI.nil) (fun _ h => h.re [] [0]) ⟨congrArg Value.bool ?_, rfl⟩
  unfold isRef; simp [c2, p3]
 ·
  have p4 := of_decide_eq_false c2
  refine sp (pB g1 0) ?_
  refine s_lt (t_load 0 (iw v.kind)) ?_
  refine s_lt t_cmp ?_
  refine sp (.bool (decide (v.kind = 5))) ?_
  refine sp (.bool (decide (v.kind = 5))) ?_
  refine s_fork 11 (decide (v.kind = 5)) (fun c5 => ?_) (fun c5 => ?_)
  ·
   have p6 := of_decide_eq_true c5
   refine s_skip ?_
   refine s_skip ?_
   refine s_skip ?_
   refine sp (.bool true) ?_
   refine sp (.bool true) ?_
   refine s_skip ?_
   refine s_skip ?_
   refine s_skip ?_
   refine sp (.bool true) ?_
   refine sp (.bool true) ?_
   refine s_nt <| k_ret <| xs_fin [.bool true] [] (SI.tmp 2 SI.nil) (fun _ h => h.re [] [0]) ⟨congrArg Value.bool ?_, rfl⟩
   unfold isRef; simp [c2, c5, p4, p6]
  ·
   have p7 := of_decide_eq_false c5
   refine sp (pB g1 0) ?_
   refine s_lt (t_load 0 (iw v.kind)) ?_
   refine s_lt t_cmp ?_
   refine sp (.bool (decide (v.kind = 7))) ?_
   refine sp (.bool (decide (v.kind = 7))) ?_
   refine s_fork 16 (decide (v.kind = 7)) (fun c8 => ?_) (fun c8 => ?_)
   ·
    have p9 := of_decide_eq_true c8
    refine s_skip ?_
    refine s_skip ?_
    refine s_skip ?_
    refine sp (.bool true) ?_
    refine sp (.bool true) ?_
    refine s_nt <| k_ret <| xs_fin [.bool true] [] (SI.tmp 2 SI.nil) (fun _ h => h.re [] [0]) ⟨congrArg Value.bool ?_, rfl⟩
    unfold isRef; simp [c2, c5, c8, p4, p7, p9]
   ·
    have p10 := of_decide_eq_false c8
    refine sp (pB g1 0) ?_
    refine s_lt (t_load 0 (iw v.kind)) ?_
    refine s_lt t_cmp ?_
    refine sp (.bool (decide (v.kind = 8))) ?_
    refine sp (.bool (decide (v.kind = 8))) ?_
    refine s_nt <| k_ret <| xs_fin [.bool (decide (v.kind = 8))] [] (SI.tmp 2 SI.nil) (fun _ h => h.re [] [0]) ⟨congrArg Value.bool ?_, rfl⟩
    unfold isRef; simp [c2, c5, c8, p4, p7, p10]
theorem rden_s {Z : Zone} {F : List Asr} {b : Nat} {st : Hst} (hl : st.objs.length ≤ 1000000) (v : Vl) : SF Tryz.prog 202 #[.pointer (some ⟨b, 0, none⟩), v.v] Z (rhA b st :: F) fun r Bs => r = .bool (denB st v) ∧ Bs = rhA b st :: F := by
 refine sf_enter Tryz.func202 46 [(0, pB b 0), (1, .agg (vc v))] (fun w0 => ?_)
 refine k_fact (fun H h => rh_inv (h.re [0] [])) (fun hi0 => ?_)
 refine k_sr <| s_box (vc v) (fun g1 => ?_)
 refine sp (.bool false) ?_
 refine s_nt <| k_seq <| k_draw ?_
 refine sp (pB b 0) ?_
 refine sp (.bool true) ?_
 refine sp (.bool true) ?_
 refine sp (pB g1 0) ?_
 refine s_lt (t_load 0 (iw v.kind)) ?_
 refine s_lt t_cmp ?_
 refine sp (.bool (decide (v.kind ≠ 0))) ?_
 refine sp (.bool (decide (v.kind ≠ 0))) ?_
 refine s_fork 12 (decide (v.kind ≠ 0)) (fun c2 => ?_) (fun c2 => ?_)
 ·
  have p3 := of_decide_eq_true c2
  refine sp (pB g1 4) ?_
  refine s_lt (t_load 0 (iw v.ref)) ?_
  refine s_lt t_cmp ?_
  refine sp (.bool (decide ((1 : Int) ≤ v.ref))) ?_
  refine sp (.bool (decide ((1 : Int) ≤ v.ref))) ?_
  refine s_fork 17 (decide ((1 : Int) ≤ v.ref)) (fun c4 => ?_) (fun c4 => ?_)
  ·
   have p5 := of_decide_eq_true c4
   refine sp (pB g1 4) ?_
   refine s_lt (t_load 0 (iw v.ref)) ?_
   refine sp (pB b 0) ?_
   refine sp (pB b 0) ?_
   refine sp (pB b 0) ?_
   refine s_mem3 (fun H h => rh_open (h.re [1] [])) (fun v6 tv7 L8 hw => ?_)
   obtain ⟨hi9, hL10⟩ := hw
   have hln11 := rx_len hL10
   have htl12 := hi9.tch
   refine s_lt (t_load 0 v6) ?_
   refine s_fact (fun H h => ((Acc.own (T := RxT) (L := L8) 1 rfl) H h).form) (fun hf13 => ?_)
   refine s_lt (t_len RxT_ok Tryz.underlying139 (.own 1)) ?_
   refine s_lt t_cmp ?_
   refine sp (.bool (decide (v.ref ≤ (L8.length : Int)))) ?_
   refine sp (.bool (decide (v.ref ≤ (L8.length : Int)))) ?_
   refine s_fork 27 (decide (v.ref ≤ (L8.length : Int))) (fun c14 => ?_) (fun c14 => ?_)
   ·
    have p15 := of_decide_eq_true c14
    refine sp (pB b 0) ?_
    refine sp (pB b 0) ?_
    refine sp (pB b 0) ?_
    refine s_lt (t_load 0 v6) ?_
    refine sp (pB g1 4) ?_
    refine s_lt (t_load 4 (iw v.ref)) ?_
    refine s_lt (t_sub v.ref 1 (by (try simp only [lnm]); omega)) ?_
    refine s_lt (t_index RxT_ok Tryz.underlying139 (.own 1) (v.ref - 1) (((v.ref - 1)).toNat) (by omega) (by (try simp only [lnm]); omega) (by omega)) ?_
    refine sp (.pointer (some (elemAt RxT.size v6 (((v.ref - 1)).toNat)))) ?_
    rcases rx_cases hL10 (by omega : 1 ≤ v.ref) (by omega) with ⟨tp16, uv17, rv18, hy19, hg20⟩ | ⟨o21, tp22, uv23, rv24, hy25, hg26⟩
    ·
     refine s_lt (t_loadF 0 RxT_ok (.own 1) hy19) ?_
     refine sp (pB g1 0) ?_
     refine s_lt (t_load 4 (iw v.kind)) ?_
     refine s_lt t_cmp ?_
     refine sp (.bool (decide ((0 : Int) = v.kind))) ?_
     refine sp (.bool (decide ((0 : Int) = v.kind))) ?_
     refine s_fork 42 (decide ((0 : Int) = v.kind)) (fun c27 => ?_) (fun c27 => ?_)
     ·
      have p28 := of_decide_eq_true c27
      refine s_lt (t_loadA 4 (vc v)) ?_
      refine s_vcall (fun _ h => rref_s v) ?_
      rintro _ rfl
      refine sp (.bool (isRef v.kind)) ?_
      refine sp (.bool (isRef v.kind)) ?_
      refine s_nil <| x_dynS (fun _ h => by obtain ⟨_, _, e⟩ := hf13; subst e; kernel_rfl) ?_
      refine xs_then <| k_ret <| xs_mem (fun _ h => rh_shut (st := st) (n := (st.count : Int)) (T := st.tch) ⟨⟨⟨hi9, hL10⟩, rfl⟩, rfl⟩ (h.re [0, 0, 0, 0] [])) ?_
      refine xs_fin [.bool (isRef v.kind)] (rhA b st :: F) (SI.tmp 4 SI.nil) (fun _ h => h.re [0] [1]) ⟨congrArg Value.bool ?_, rfl⟩
      exfalso; omega
     ·
      have p29 := of_decide_eq_false c27
      refine s_skip ?_
      refine s_skip ?_
      refine sp (.bool false) ?_
      refine sp (.bool false) ?_
      refine s_nil <| x_dynS (fun _ h => by obtain ⟨_, _, e⟩ := hf13; subst e; kernel_rfl) ?_
      refine xs_then <| k_ret <| xs_mem (fun _ h => rh_shut (st := st) (n := (st.count : Int)) (T := st.tch) ⟨⟨⟨hi9, hL10⟩, rfl⟩, rfl⟩ (h.re [0, 0, 0, 0] [])) ?_
      refine xs_fin [.bool false] (rhA b st :: F) (SI.tmp 4 SI.nil) (fun _ h => h.re [0] [1]) ⟨congrArg Value.bool ?_, rfl⟩
      exact (den_none hg20).symm
    ·
     refine s_lt (t_loadF 0 RxT_ok (.own 1) hy25) ?_
     refine sp (pB g1 0) ?_
     refine s_lt (t_load 4 (iw v.kind)) ?_
     refine s_lt t_cmp ?_
     refine sp (.bool (decide (o21.kind = v.kind))) ?_
     refine sp (.bool (decide (o21.kind = v.kind))) ?_
     refine s_fork 42 (decide (o21.kind = v.kind)) (fun c30 => ?_) (fun c30 => ?_)
     ·
      have p31 := of_decide_eq_true c30
      refine s_lt (t_loadA 4 (vc v)) ?_
      refine s_vcall (fun _ h => rref_s v) ?_
      rintro _ rfl
      refine sp (.bool (isRef v.kind)) ?_
      refine sp (.bool (isRef v.kind)) ?_
      refine s_nil <| x_dynS (fun _ h => by obtain ⟨_, _, e⟩ := hf13; subst e; kernel_rfl) ?_
      refine xs_then <| k_ret <| xs_mem (fun _ h => rh_shut (st := st) (n := (st.count : Int)) (T := st.tch) ⟨⟨⟨hi9, hL10⟩, rfl⟩, rfl⟩ (h.re [0, 0, 0, 0] [])) ?_
      refine xs_fin [.bool (isRef v.kind)] (rhA b st :: F) (SI.tmp 4 SI.nil) (fun _ h => h.re [0] [1]) ⟨congrArg Value.bool ?_, rfl⟩
      exact den_yes hi0 hg26 (by omega)
     ·
      have p32 := of_decide_eq_false c30
      refine s_skip ?_
      refine s_skip ?_
      refine sp (.bool false) ?_
      refine sp (.bool false) ?_
      refine s_nil <| x_dynS (fun _ h => by obtain ⟨_, _, e⟩ := hf13; subst e; kernel_rfl) ?_
      refine xs_then <| k_ret <| xs_mem (fun _ h => rh_shut (st := st) (n := (st.count : Int)) (T := st.tch) ⟨⟨⟨hi9, hL10⟩, rfl⟩, rfl⟩ (h.re [0, 0, 0, 0] [])) ?_
      refine xs_fin [.bool false] (rhA b st :: F) (SI.tmp 4 SI.nil) (fun _ h => h.re [0] [1]) ⟨congrArg Value.bool ?_, rfl⟩
      exact (den_kind hg26 (by omega)).symm
   ·
    have p33 := of_decide_eq_false c14
    refine s_skip ?_
    refine s_skip ?_
    refine s_skip ?_
    refine s_skip ?_
    refine s_skip ?_
    refine s_skip ?_
    refine s_skip ?_
    refine s_skip ?_
    refine s_skip ?_
    refine s_skip ?_
    refine s_skip ?_
    refine s_skip ?_
    refine s_skip ?_
    refine sp (.bool false) ?_
    refine sp (.bool false) ?_
    refine s_skip ?_
    refine s_skip ?_
    refine sp (.bool false) ?_
    refine sp (.bool false) ?_
    refine s_nil <| x_dynS (fun _ h => by obtain ⟨_, _, e⟩ := hf13; subst e; kernel_rfl) ?_
    refine xs_then <| k_ret <| xs_mem (fun _ h => rh_shut (st := st) (n := (st.count : Int)) (T := st.tch) ⟨⟨⟨hi9, hL10⟩, rfl⟩, rfl⟩ (h.re [0, 0, 0, 0] [])) ?_
    refine xs_fin [.bool false] (rhA b st :: F) (SI.tmp 4 SI.nil) (fun _ h => h.re [0] [1]) ⟨congrArg Value.bool ?_, rfl⟩
    first | exact (den_zero hi0 (by omega)).symm | exact (den_none (get_low (by omega))).symm | exact (den_none (get_high (by omega))).symm
  ·
   have p34 := of_decide_eq_false c4
   refine s_skip ?_
   refine s_skip ?_
   refine s_skip ?_
   refine s_skip ?_
   refine s_skip ?_
   refine s_skip ?_
   refine s_skip ?_
   refine s_skip ?_
   refine sp (.bool false) ?_
   refine sp (.bool false) ?_
   refine s_skip ?_
   refine s_skip ?_
   refine s_skip ?_
   refine s_skip ?_
   refine s_skip ?_
   refine s_skip ?_
   refine s_skip ?_
   refine s_skip ?_
   refine s_skip ?_
   refine s_skip ?_
   refine s_skip ?_
   refine s_skip ?_
   refine s_skip ?_
   refine sp (.bool false) ?_
   refine sp (.bool false) ?_
   refine s_skip ?_
   refine s_skip ?_
   refine sp (.bool false) ?_
   refine sp (.bool false) ?_
   refine s_nil <| x_dynS (fun _ h => by kernel_rfl) ?_
   refine xs_then <| k_ret <| xs_fin [.bool false] (rhA b st :: F) (SI.tmp 4 SI.nil) (fun _ h => h.re [1] [1]) ⟨congrArg Value.bool ?_, rfl⟩
   first | exact (den_zero hi0 (by omega)).symm | exact (den_none (get_low (by omega))).symm | exact (den_none (get_high (by omega))).symm
 ·
  have p35 := Decidable.not_not.1 (of_decide_eq_false c2)
  refine s_skip ?_
  refine s_skip ?_
  refine s_skip ?_
  refine sp (.bool false) ?_
  refine sp (.bool false) ?_
  refine s_skip ?_
  refine s_skip ?_
  refine s_skip ?_
  refine s_skip ?_
  refine s_skip ?_
  refine s_skip ?_
  refine s_skip ?_
  refine s_skip ?_
  refine sp (.bool false) ?_
  refine sp (.bool false) ?_
  refine s_skip ?_
  refine s_skip ?_
  refine s_skip ?_
  refine s_skip ?_
  refine s_skip ?_
  refine s_skip ?_
  refine s_skip ?_
  refine s_skip ?_
  refine s_skip ?_
  refine s_skip ?_
  refine s_skip ?_
  refine s_skip ?_
  refine s_skip ?_
  refine sp (.bool false) ?_
  refine sp (.bool false) ?_
  refine s_skip ?_
  refine s_skip ?_
  refine sp (.bool false) ?_
  refine sp (.bool false) ?_
  refine s_nil <| x_dynS (fun _ h => by kernel_rfl) ?_
  refine xs_then <| k_ret <| xs_fin [.bool false] (rhA b st :: F) (SI.tmp 4 SI.nil) (fun _ h => h.re [1] [1]) ⟨congrArg Value.bool ?_, rfl⟩
  first | exact (den_zero hi0 (by omega)).symm | exact (den_none (get_low (by omega))).symm | exact (den_none (get_high (by omega))).symm
theorem ris_s {Z : Zone} {F : List Asr} {b : Nat} {st : Hst} (hl : st.objs.length ≤ 1000000) (v : Vl) (k : Int) : SF Tryz.prog 151 #[.pointer (some ⟨b, 0, none⟩), v.v, iw k] Z (rhA b st :: F) fun r Bs => r = .bool (denB st v && decide (v.kind = k)) ∧ Bs = rhA b st :: F := by
 refine sf_enter Tryz.func151 16 [(0, pB b 0), (1, .agg (vc v)), (2, iw k)] (fun w0 => ?_)
 refine k_sr <| s_box (vc v) (fun g1 => ?_)
 refine sp (.bool false) ?_
 refine s_nt <| k_cut (ι := Unit) (fun _ => True) (fun _ => [(6, .bool ((denB st v) && (decide (v.kind = k))))]) (fun _ => blkA g1 (vc v) 71 :: rhA b st :: F) ?_ (fun _ _ => ?_)
 ·
  refine k_reg ?_
  refine sp (pB b 0) ?_
  refine s_lt (t_loadA 0 (vc v)) ?_
  refine s_call [1] (rden_s (st := st) (by omega) v) ?_
  rintro _ _ ⟨rfl, rfl⟩
  refine sp (.bool (denB st v)) ?_
  refine s_fork 10 (denB st v) (fun c2 => ?_) (fun c2 => ?_)
  ·
   refine sp (pB g1 0) ?_
   refine s_lt (t_load 1 (iw v.kind)) ?_
   refine sp (iw k) ?_
   refine s_lt t_cmp ?_
   refine sp (.bool (decide (v.kind = k))) ?_
   refine sp (.bool (decide (v.kind = k))) ?_
   refine s_nil ?_
   exact xs_cut () trivial (sub_of rfl ⟨⟨rfl, show Value.bool (decide (v.kind = k)) = Value.bool ((denB st v) && (decide (v.kind = k))) by first | (simp only [c2, bls]; done) | simp [c2]⟩, trivial⟩) (fun _ h => h.re [1, 0] [])
  ·
   refine s_skip ?_
   refine s_skip ?_
   refine s_skip ?_
   refine s_skip ?_
   refine sp (.bool false) ?_
   refine sp (.bool false) ?_
   refine s_nil ?_
   exact xs_cut () trivial (sub_of rfl ⟨⟨rfl, show Value.bool false = Value.bool ((denB st v) && (decide (v.kind = k))) by first | (simp only [c2, bls]; done) | simp [c2]⟩, trivial⟩) (fun _ h => h.re [1, 0] [])
 ·
  refine k_ret ?_
  exact xs_fin [.bool ((denB st v) && (decide (v.kind = k)))] (rhA b st :: F) (SI.tmp 6 SI.nil) (fun _ h => h.re [1] [1]) ⟨rfl, rfl⟩
theorem rtab_s {Z : Zone} {F : List Asr} {b : Nat} {st : Hst} (hl : st.objs.length ≤ 1000000) (v : Vl) : SF Tryz.prog 145 #[.pointer (some ⟨b, 0, none⟩), v.v] Z (rhA b st :: F) fun r Bs => r = iw (hgetE st v) ∧ Bs = rhA b st :: F := by
 refine sf_enter Tryz.func145 11 [(0, pB b 0), (1, .agg (vc v))] (fun w0 => ?_)
 refine k_sr <| s_box (vc v) (fun g1 => ?_)
 refine sp (iw 0) ?_
 refine s_nt <| k_seq <| k_sr <| sp (pB b 0) ?_
 refine sp (.bool false) ?_
 refine s_nt <| k_false ?_
 refine k_st <| k_seq <| k_sr <| sp (pB b 0) ?_
 refine s_lt (t_loadA 0 (vc v)) ?_
 refine s_call [1] (ris_s (st := st) (by omega) v 4) ?_
 rintro u2 _ ⟨e3, rfl⟩
 rcases is_cases st v 4 with ⟨hb4, hn5⟩ | ⟨o6, hb7, hf8, ho9, hk10, hv11⟩
 ·
  rw [hb4] at e3; subst e3
  refine sp (.bool true) ?_
  refine s_nt <| k_true ?_
  refine k_sr <| sp (iw 8) ?_
  refine s_nt <| k_ret <| xs_ret <| xs_fin [iw 8] (rhA b st :: F) (SI.tmp 4 SI.nil) (fun _ h => h.re [0] [1]) ⟨congrArg (Value.int .i64) ?_, rfl⟩
  exact (tab_of_is hb4).symm
 ·
  rw [hb7] at e3; subst e3
  have hgm12 := get_mem ho9
  refine sp (.bool false) ?_
  refine s_nt <| k_false ?_
  refine k_st <| k_sr <| sp (iw 0) ?_
  refine s_nt <| k_ret <| xs_fin [iw 0] (rhA b st :: F) (SI.tmp 4 SI.nil) (fun _ h => h.re [0] [1]) ⟨congrArg (Value.int .i64) ?_, rfl⟩
  exact (tab_of_is2 hf8 hk10 hv11).symm
theorem relem_s {Z : Zone} (v : Vl) : SF Tryz.prog 147 #[v.v] Z [] fun r Bs => r = iw (elemE v) ∧ Bs = [] := by
 refine sf_enter Tryz.func147 15 [(0, .agg (vc v))] (fun w0 => ?_)
 refine k_sr <| s_box (vc v) (fun g1 => ?_)
 refine sp (iw 0) ?_
 refine s_nt <| k_seq <| k_sr <| sp (pB g1 0) ?_
 refine s_lt (t_load 0 (iw v.kind)) ?_
 refine s_lt t_cmp ?_
 refine sp (.bool (decide (v.kind = 3))) ?_
 refine s_fork 6 (decide (v.kind = 3)) (fun c2 => ?_) (fun c2 => ?_)
 ·
  have p3 := of_decide_eq_true c2
  refine sp (pB g1 3) ?_
  refine s_lt (t_load 0 (sw v.str)) ?_
  refine s_lt (t_kern (iw (v.str.size : Int))) ?_
  refine s_lt t_cmp ?_
  refine sp (.bool (decide ((4096 : Int) < (v.str.size : Int)))) ?_
  refine s_nt <| k_cond (decide ((4096 : Int) < (v.str.size : Int))) (fun c4 => ?_) (fun c4 => ?_)
  ·
   have p5 := of_decide_eq_true c4
   refine k_sr <| sp (iw 14) ?_
   refine s_nt <| k_ret <| xs_ret <| xs_fin [iw 14] [] (SI.tmp 2 SI.nil) (fun _ h => h.re [] [0]) ⟨congrArg (Value.int .i64) ?_, rfl⟩
   unfold elemE; simp [c2, c4, p3, p5]
  ·
   have p6 := of_decide_eq_false c4
   refine k_st <| k_seq <| k_sr <| s_lt (t_loadA 0 (vc v)) ?_
   refine s_vcall (fun _ h => rvalid_s v) ?_
   rintro _ rfl
   refine sp (.bool (!(validB v))) ?_
   refine s_nt <| k_cond (!(validB v)) (fun c7 => ?_) (fun c7 => ?_)
   ·
    have c8 := not_t c7
    refine k_sr <| sp (iw 2) ?_
    refine s_nt <| k_ret <| xs_ret <| xs_fin [iw 2] [] (SI.tmp 2 SI.nil) (fun _ h => h.re [] [0]) ⟨congrArg (Value.int .i64) ?_, rfl⟩
    unfold elemE; simp [c2, c4, c7, p3, p6, c8]
   ·
    have c9 := not_f c7
    refine k_st <| k_sr <| sp (iw 0) ?_
    refine s_nt <| k_ret <| xs_fin [iw 0] [] (SI.tmp 2 SI.nil) (fun _ h => h.re [] [0]) ⟨congrArg (Value.int .i64) ?_, rfl⟩
    unfold elemE; simp [c2, c4, c7, p3, p6, c9]
 ·
  have p10 := of_decide_eq_false c2
  refine s_skip ?_
  refine s_skip ?_
  refine s_skip ?_
  refine s_skip ?_
  refine sp (.bool false) ?_
  refine s_nt <| k_false ?_
  refine k_st <| k_seq <| k_sr <| s_lt (t_loadA 0 (vc v)) ?_
  refine s_vcall (fun _ h => rvalid_s v) ?_
  rintro _ rfl
  refine sp (.bool (!(validB v))) ?_
  refine s_nt <| k_cond (!(validB v)) (fun c11 => ?_) (fun c11 => ?_)
  ·
   have c12 := not_t c11
   refine k_sr <| sp (iw 2) ?_
   refine s_nt <| k_ret <| xs_ret <| xs_fin [iw 2] [] (SI.tmp 2 SI.nil) (fun _ h => h.re [] [0]) ⟨congrArg (Value.int .i64) ?_, rfl⟩
   unfold elemE; simp [c2, c11, p10, c12]
  ·
   have c13 := not_f c11
   refine k_st <| k_sr <| sp (iw 0) ?_
   refine s_nt <| k_ret <| xs_fin [iw 0] [] (SI.tmp 2 SI.nil) (fun _ h => h.re [] [0]) ⟨congrArg (Value.int .i64) ?_, rfl⟩
   unfold elemE; simp [c2, c11, p10, c13]
theorem rtouch_s {Z : Zone} {F : List Asr} {b : Nat} {vv tv : Value} {m : Int} {T : List Bool} (v : Vl) (h1 : 1 ≤ v.ref) (h2 : v.ref ≤ (T.length : Int)) (hl : T.length ≤ 1000000) (e : Int) : SF Tryz.prog 148 #[.pointer (some ⟨b, 0, none⟩), v.v, iw e] Z (blkA b #[vv, iw m, tv] 142 :: own bTy tv T :: F) fun r Bs => r = iw e ∧ Bs = (if e = 0 then blkA b #[vv, iw m, tv] 142 :: own bTy tv (T.set ((v.ref - 1)).toNat true) :: F else blkA b #[vv, iw m, tv] 142 :: own bTy tv T :: F) := by
 refine sf_enter Tryz.func148 18 [(0, pB b 0), (1, .agg (vc v)), (2, iw e)] (fun w0 => ?_)
 refine k_sr <| s_box (vc v) (fun g1 => ?_)
 refine sp (iw 0) ?_
 refine s_nt <| k_seq <| k_sr <| sp (iw e) ?_
 refine s_lt t_cmp ?_
 refine s_nt <| k_cond (decide (e = 0)) (fun c2 => ?_) (fun c2 => ?_)
 ·
  have p3 := of_decide_eq_true c2
  refine k_draw ?_
  refine sp (pB b 0) ?_
  refine sp (pB b 0) ?_
  refine sp (pB b 2) ?_
  refine s_lt (t_load 1 tv) ?_
  refine sp (pB g1 4) ?_
  refine s_lt (t_load 0 (iw v.ref)) ?_
  refine s_lt (t_sub v.ref 1 (by (try simp only [lnm]); omega)) ?_
  refine s_lt (t_index bTy_ok Tryz.underlying140 (.own 2) (v.ref - 1) (((v.ref - 1)).toNat) (by omega) (by (try simp only [lnm]); omega) (by omega)) ?_
  obtain ⟨y4, hy5⟩ : ∃ y, T[((v.ref - 1)).toNat]? = some y := ⟨_, List.getElem?_eq_getElem (by (try simp only [lnm]); omega)⟩
  refine s_storeE 2 0 true bTy_ok hy5 ?_
  refine s_nil <| x_dynS (fun _ h => by kernel_rfl) ?_
  refine xs_then <| k_sr <| sp (iw e) ?_
  refine sp (iw e) ?_
  refine s_nt <| k_ret ?_
  rw [if_pos (of_decide_eq_true c2)]
  exact xs_fin [iw e] (blkA b #[vv, iw m, tv] 142 :: own bTy tv (T.set (((v.ref - 1)).toNat) true) :: F) (SI.tmp 6 SI.nil) (fun _ h => h.re [1, 1] [2]) ⟨rfl, rfl⟩
 ·
  have p6 := of_decide_eq_false c2
  refine k_st <| k_sr <| sp (iw e) ?_
  refine sp (iw e) ?_
  refine s_nt <| k_ret ?_
  rw [if_neg (of_decide_eq_false c2)]
  exact xs_fin [iw e] (blkA b #[vv, iw m, tv] 142 :: own bTy tv T :: F) (SI.tmp 6 SI.nil) (fun _ h => h.re [1, 1] [2]) ⟨rfl, rfl⟩
theorem rhset_s {Z : Zone} {F : List Asr} {b : Nat} {st : Hst} {n : Nat} (hsm : HSm n st) (hn : n ≤ 300) (t k x : Vl) : SF Tryz.prog 82 #[.pointer (some ⟨b, 0, none⟩), t.v, k.v, x.v] Z (rhA b st :: F) fun r Bs => r = iw (hsetE st t k x) ∧ Bs = rhA b (hset st t k x) :: F := by
 refine sf_enter Tryz.func82 45 [(0, pB b 0), (1, .agg (vc t)), (2, .agg (vc k)), (3, .agg (vc x))] (fun w0 => ?_)
 have hlen0 := hsm.len
 refine k_fact (fun H h => rh_inv (h.re [0] [])) (fun hi0 => ?_)
 refine k_sr <| s_box (vc t) (fun g1 => ?_)
 refine s_box (vc k) (fun g2 => ?_)
 refine s_box (vc x) (fun g3 => ?_)
 refine sp (iw 0) ?_
 refine s_nr ?_
 refine sp (pB b 0) ?_
 refine s_lt (t_loadA 2 (vc t)) ?_
 refine s_call [3] (rtab_s (st := st) (by omega) t) ?_
 rintro u4 _ ⟨e5, rfl⟩
 rcases tabE_cases st t with ⟨ht6, he7⟩ | ⟨o8, ht9, ho10, hk11, hv12, he13⟩
 ·
  rw [he7] at e5; subst e5
  refine sp (iw 8) ?_
  refine s_nt <| k_seq <| k_sr <| sp (iw 8) ?_
  refine s_lt (t_cmp (c := true)) ?_
  refine s_nt <| k_true ?_
  refine k_sr <| sp (iw 8) ?_
  refine sp (iw 8) ?_
  refine s_nt <| k_ret <| xs_ret ?_
  have hp := hset_none (k := k) (v := x) ht6
  refine xs_fin [iw 8] (rhA b st :: F) (SI.tmp 8 SI.nil) (fun _ h => h.re [0] [1, 1, 1]) ⟨?_, ?_⟩
  · rw [hp.2]; exact congrArg (Value.int .i64) (by first | rfl | exact tsetE_ok hk hv0)
  · rw [hp.1]
 ·
  rw [he13] at e5; subst e5
  have hgm14 := get_mem ho10
  refine sp (iw 0) ?_
  refine s_nt <| k_seq <| k_sr <| sp (iw 0) ?_
  refine s_lt (t_cmp (c := false)) ?_
  refine s_nt <| k_false ?_
  refine k_st <| k_seq <| k_cut (ι := Unit) (fun _ => True) (fun _ => [(0, pB b 0), (5, pB g1 0), (6, pB g2 0), (7, pB g3 0), (23, .bool ((decide (k.kind = 0)) || (!(validB k))))]) (fun _ => rhA b st :: blkA g3 (vc x) 71 :: blkA g2 (vc k) 71 :: blkA g1 (vc t) 71 :: F) ?_ (fun _ _ => ?_)
  ·
   refine k_reg ?_
   refine sp (pB g2 0) ?_
   refine s_lt (t_load 2 (iw k.kind)) ?_
   refine s_lt t_cmp ?_
   refine sp (.bool (decide (k.kind = 0))) ?_
   refine s_fork 19 (decide (k.kind = 0)) (fun c15 => ?_) (fun c15 => ?_)
   ·
    have p16 := of_decide_eq_true c15
    refine s_skip ?_
    refine s_skip ?_
    refine s_skip ?_
    refine sp (.bool true) ?_
    refine s_nil ?_
    exact xs_cut () trivial (sub_of rfl ⟨⟨rfl, rfl⟩, ⟨⟨rfl, rfl⟩, ⟨⟨rfl, rfl⟩, ⟨⟨rfl, rfl⟩, ⟨⟨rfl, show Value.bool true = Value.bool ((decide (k.kind = 0)) || (!(validB k))) by first | (simp only [c15, bls]; done) | simp [c15]⟩, trivial⟩⟩⟩⟩⟩) (fun _ h => h.re [0, 0, 0, 0] [])
   ·
    have p17 := of_decide_eq_false c15
    refine s_lt (t_loadA 2 (vc k)) ?_
    refine s_vcall (fun _ h => rvalid_s k) ?_
    rintro _ rfl
    refine sp (.bool (!(validB k))) ?_
    refine sp (.bool (!(validB k))) ?_
    refine s_nil ?_
    exact xs_cut () trivial (sub_of rfl ⟨⟨rfl, rfl⟩, ⟨⟨rfl, rfl⟩, ⟨⟨rfl, rfl⟩, ⟨⟨rfl, rfl⟩, ⟨⟨rfl, show Value.bool (!(validB k)) = Value.bool ((decide (k.kind = 0)) || (!(validB k))) by first | (simp only [c15, bls]; done) | simp [c15]⟩, trivial⟩⟩⟩⟩⟩) (fun _ h => h.re [0, 0, 0, 0] [])
  ·
   refine k_cond ((decide (k.kind = 0)) || (!(validB k))) (fun c18 => ?_) (fun c18 => ?_)
   ·
    have p19 := c18
    simp only [Bool.and_eq_true, Bool.or_eq_true, Bool.and_eq_false_iff, Bool.or_eq_false_iff, Bool.not_eq_true', Bool.not_eq_false', decide_eq_true_eq, decide_eq_false_iff_not] at p19
    refine k_sr <| sp (iw 13) ?_
    refine s_nt <| k_ret <| xs_ret ?_
    have hk : okKey k = false := okKey_bad (by first | exact p19 | exact .inl p19 | exact .inr p19)
    have hp := hset_key (v := x) ht9 hk
    refine xs_fin [iw 13] (rhA b st :: F) (SI.tmp 8 SI.nil) (fun _ h => h.re [0] [1, 1, 1]) ⟨?_, ?_⟩
    · rw [hp.2]; exact congrArg (Value.int .i64) (by first | rfl | exact tsetE_ok hk hv0)
    · rw [hp.1]
   ·
    obtain ⟨c20, c21⟩ := or_f c18
    have p22 := of_decide_eq_false c20
    have c23 := not_f c21
    refine k_st <| k_sr <| s_lt (t_loadA 1 (vc x)) ?_
    refine s_vcall (fun _ h => relem_s x) ?_
    rintro _ rfl
    refine sp (iw (elemE x)) ?_
    refine s_nt <| k_seq <| k_sr <| sp (iw (elemE x)) ?_
    refine s_lt t_cmp ?_
    refine s_nt <| k_cond (decide ((elemE x) ≠ 0)) (fun c24 => ?_) (fun c24 => ?_)
    ·
     have p25 := of_decide_eq_true c24
     refine k_sr <| sp (iw (elemE x)) ?_
     refine sp (iw (elemE x)) ?_
     refine s_nt <| k_ret <| xs_ret ?_
     have hk := okKey_good c20 c23
     have hp := hset_elem (v := x) ht9 hk (of_decide_eq_true c24)
     refine xs_fin [iw (elemE x)] (rhA b st :: F) (SI.tmp 8 SI.nil) (fun _ h => h.re [0] [1, 1, 1]) ⟨?_, ?_⟩
     · rw [hp.2]; exact congrArg (Value.int .i64) (by first | rfl | exact tsetE_ok hk hv0)
     · rw [hp.1]
    ·
     have p26 := Decidable.not_not.1 (of_decide_eq_false c24)
     refine k_st <| k_seq <| k_mem3 (fun H h => rh_open (h.re [0] [])) (fun v27 tv28 L29 hw => ?_)
     obtain ⟨hi30, hL31⟩ := hw
     have hln32 := rx_len hL31
     have htl33 := hi30.tch
     refine k_held [blkA b #[v27, iw (st.count : Int), tv28] 142, own RxT v27 L29, blkA g3 (vc x) 71, blkA g2 (vc k) 71, blkA g1 (vc t) 71] ?_
     refine hp_ 0 [0, 0, 2, 2, 2] (pB b 0) ?_
     refine h_l 1 rfl [0, 0, 2, 2, 2] (fun _ => (t_loadA 4 (vc t))) ?_
     refine hp_ 2 [0, 0, 2, 2, 2] (pB b 0) ?_
     refine hp_ 3 [0, 0, 2, 2, 2] (pB b 0) ?_
     refine hp_ 4 [0, 0, 2, 2, 2] (pB b 0) ?_
     refine h_l 5 rfl [0, 0, 2, 2, 2] (fun _ => (t_load 0 v27)) ?_
     refine hp_ 6 [0, 0, 2, 2, 2] (pB g1 4) ?_
     refine h_l 7 rfl [0, 0, 2, 2, 2] (fun _ => (t_load 4 (iw t.ref))) ?_
     refine h_l 8 rfl [0, 0, 2, 2, 2] (fun _ => (t_sub t.ref 1 (by (try simp only [lnm]); omega))) ?_
     refine h_l 9 rfl [0, 0, 2, 2, 2] (fun _ => (t_index RxT_ok Tryz.underlying139 (.own 1) (t.ref - 1) (((t.ref - 1)).toNat) (by omega) (by (try simp only [lnm]); omega) (by omega))) ?_
     refine hp_ 10 [0, 0, 2, 2, 2] (.pointer (some ((elemAt RxT.size v27 (((t.ref - 1)).toNat)).add 3))) ?_
     obtain ⟨tp34, uv35, rv36, hy37⟩ := rx_get hL31 ho10
     refine h_l 11 rfl [0, 0, 2, 2, 2] (fun _ => (Lt.to (v' := ptrV tp34) (t_loadF 3 RxT_ok (.own 1) hy37) (tabV_tab hk11))) ?_
     refine h_l 12 rfl [0, 0, 2, 2, 2] (fun _ => (t_loadA 3 (vc k))) ?_
     refine h_l 13 rfl [0, 0, 2, 2, 2] (fun _ => (t_loadA 2 (vc x))) ?_
     refine h_stepS 14 ?_
     refine s_mem (fun _ h => rall_out hy37 (h.re [3] [])) ?_
     refine s_mem (fun _ h => rtO_open hk11 (h.re [2] [])) ?_
     obtain ⟨hl38, hl382, _⟩ := hsm.obs o8 (get_mem ho10).1
     have hl383 : n * (n + 1) ≤ 300 * 301 := Nat.mul_le_mul (by omega) (by omega)
     refine s_call [0] (rtset_s (L := o8.tab.list) (S := o8.tab.rest) (hi30.obs o8 (get_mem ho10).1).tab (by (try simp only [lnm]); omega) (by (try simp only [lnm]); omega) k x) ?_
     rintro _ _ ⟨rfl, rfl⟩
     refine s_nil (xs_held [4, 4, 5, 5, 5] ?_)
     refine h_stepS 15 ?_
     have hk := okKey_good c20 c23
     have he0 : elemE x = 0 := Decidable.not_not.1 (of_decide_eq_false c24)
     have hv0 := elem_valid he0
     refine s_call [4, 5] (rtouch_s (vv := v27) (m := (st.count : Int)) (T := st.tch) t (by omega) (by omega) (by omega) (tsetE k x)) ?_
     rw [if_pos (tsetE_ok hk hv0)]
     rintro _ _ ⟨rfl, rfl⟩
     refine s_nil (xs_held [0, 5, 5, 5, 5] ?_)
     refine hp_ 16 [0, 5, 5, 5, 5] (iw (tsetE k x)) ?_
     refine h_doneS ?_
     refine xs_then <| k_ret <| xs_mem (fun _ h => rtO_shut (o := o8) (T := (tset ⟨o8.tab.list, o8.tab.rest⟩ k x)) hk11 (h.re [2] [])) ?_
     refine xs_mem (fun _ h => rall_in (o' := { o8 with tab := (tset ⟨o8.tab.list, o8.tab.rest⟩ k x) }) (uv' := uv35) (rv' := rv36) hy37 (h.re [3, 3, 0, 2] [])) ?_
     refine xs_mem (fun _ h => own_set (y := ⟨some { o8 with tab := (tset ⟨o8.tab.list, o8.tab.rest⟩ k x) }, tp34, uv35, rv36⟩) hy37 rfl (h.re [3] [])) ?_
     have hob39 := hi30.obs o8 (get_mem ho10).1
     refine xs_mem (fun _ h => rh_shut (st := ((st.put t.ref { o8 with tab := (tset ⟨o8.tab.list, o8.tab.rest⟩ k x) }).touch t.ref)) (n := (st.count : Int)) (T := (st.tch.set ((t.ref - 1)).toNat true)) ⟨⟨⟨touch_inv (put_inv (o := { o8 with tab := (tset ⟨o8.tab.list, o8.tab.rest⟩ k x) }) hi30 ⟨hob39.kind, (tset_inv hob39.tab _ _), hob39.mt⟩) t.ref, rx_set hL31 ho10 rfl⟩, (show (st.count : Int) = ((Hst.count (st.put t.ref { o8 with tab := (tset ⟨o8.tab.list, o8.tab.rest⟩ k x) }) : Nat) : Int) by rw [count_put ho10])⟩, by show _ = List.set _ _ _; congr 1; omega⟩ (h.re [2, 0, 1, 0] [])) ?_
     have hp := hset_ok ht9 ho10 hk he0
     refine xs_fin [iw (tsetE k x)] (rhA b ((st.put t.ref { o8 with tab := (tset ⟨o8.tab.list, o8.tab.rest⟩ k x) }).touch t.ref) :: F) (SI.tmp 8 SI.nil) (fun _ h => h.re [0] [1, 1, 1]) ⟨?_, ?_⟩
     · rw [hp.2]; exact congrArg (Value.int .i64) (by first | rfl | exact tsetE_ok hk hv0)
     · rw [hp.1]
theorem hmetaOk_no {st : Hst} {v m : Vl} (h4 : hfind st v = none ∨ v.kind ≠ 4) (h8 : hfind st v = none ∨ v.kind ≠ 8) : hmetaOk st v m = false := by
  unfold hmetaOk
  cases hf : hfind st v with
  | none => rfl
  | some o =>
    obtain ⟨h1, h2⟩ := hfind_some hf
    rw [hf] at h4 h8
    simp at h4 h8
    simp [h2, h4, h8]
theorem hmetaOk_zero {st : Hst} {v m : Vl} {o : Hob} (hf : hfind st v = some o) (hk : o.kind = 4 ∨ o.kind = 8) (hz : m = zVl) : hmetaOk st v m = true := by
  unfold hmetaOk; rw [hf]; rcases hk with h | h <;> simp [h, hz]
theorem hmetaOk_tab {st : Hst} {v m : Vl} {o : Hob} {T : Tb} (hf : hfind st v = some o) (hk : o.kind = 4 ∨ o.kind = 8) (ht : htab st m = some T) : hmetaOk st v m = true := by
  unfold hmetaOk; rw [hf]; rcases hk with h | h <;> simp [h, ht]
theorem hmetaOk_not {st : Hst} {v m : Vl} {o : Hob} (hf : hfind st v = some o) (hz : m ≠ zVl) (hm : hfind st m = none ∨ m.kind ≠ 4) : hmetaOk st v m = false := by
  unfold hmetaOk; rw [hf]
  have ht : htab st m = none := by
    rcases hm with h | h
    · exact htab_none h
    · cases hx : hfind st m with
      | none => exact htab_none hx
      | some x => exact htab_not hx (by rw [(hfind_some hx).2]; exact h)
  simp [hz, ht]
theorem rhsetmeta_s {Z : Zone} {F : List Asr} {b : Nat} {st : Hst} (hl : st.objs.length ≤ 1000000) (v m : Vl) : SF Tryz.prog 84 #[.pointer (some ⟨b, 0, none⟩), v.v, m.v] Z (rhA b st :: F) fun r Bs => r = iw (hsetMetaE st v m) ∧ Bs = rhA b (hsetMeta st v m) :: F := by
 refine sf_enter Tryz.func84 43 [(0, pB b 0), (1, .agg (vc v)), (2, .agg (vc m))] (fun w0 => ?_)
 refine k_fact (fun H h => rh_inv (h.re [0] [])) (fun hi0 => ?_)
 refine k_sr <| s_box (vc v) (fun g1 => ?_)
 refine s_box (vc m) (fun g2 => ?_)
 refine sp (iw 0) ?_
 refine s_nt <| k_seq <| k_sr <| sp (pB b 0) ?_
 refine sp (.bool false) ?_
 refine s_nt <| k_false ?_
 refine k_st <| k_seq <| k_sr <| sp (pB b 0) ?_
 refine s_lt (t_loadA 1 (vc v)) ?_
 refine s_call [2] (ris_s (st := st) (by omega) v 4) ?_
 rintro u3 _ ⟨e4, rfl⟩
 rcases is_cases st v 4 with ⟨hb5, hn6⟩ | ⟨o7, hb8, hf9, ho10, hk11, hv12⟩
 ·
  rw [hb5] at e4; subst e4
  refine sp (.bool true) ?_
  refine sp (.bool true) ?_
  refine sp (pB b 0) ?_
  refine s_lt (t_loadA 2 (vc v)) ?_
  refine s_call [0] (ris_s (st := st) (by omega) v 8) ?_
  rintro u13 _ ⟨e14, rfl⟩
  rcases is_cases st v 8 with ⟨hb15, hn16⟩ | ⟨o17, hb18, hf19, ho20, hk21, hv22⟩
  ·
   rw [hb15] at e14; subst e14
   refine sp (.bool true) ?_
   refine sp (.bool true) ?_
   refine sp (.bool true) ?_
   refine s_skip ?_
   refine s_skip ?_
   refine s_skip ?_
   refine s_skip ?_
   refine s_skip ?_
   refine s_skip ?_
   refine s_skip ?_
   refine s_skip ?_
   refine s_skip ?_
   refine sp (.bool true) ?_
   refine s_nt <| k_true ?_
   refine k_sr <| sp (iw 8) ?_
   refine s_nt <| k_ret <| xs_ret ?_
   have hb : hmetaOk st v m = false := hmetaOk_no hn6 hn16
   refine xs_fin [iw 8] (rhA b st :: F) (SI.tmp 6 SI.nil) (fun _ h => h.re [0] [1, 1]) ⟨?_, ?_⟩
   · unfold hsetMetaE; rw [hb]; rfl
   · unfold hsetMeta; rw [hb]; rfl
  ·
   rw [hb18] at e14; subst e14
   have hgm23 := get_mem ho20
   refine sp (.bool false) ?_
   refine sp (.bool false) ?_
   refine sp (.bool false) ?_
   refine s_lt (t_loadA 1 (vc m)) ?_
   refine s_lt (t_kern (.agg zc)) ?_
   refine s_lt (t_eqS (fun w => (eqVlT m zVl w).2)) ?_
   refine sp (.bool (!(decide (m = zVl)))) ?_
   refine s_fork 23 (!(decide (m = zVl))) (fun c24 => ?_) (fun c24 => ?_)
   ·
    have c25 := not_t c24
    have p26 := of_decide_eq_false c25
    refine sp (pB b 0) ?_
    refine s_lt (t_loadA 1 (vc m)) ?_
    refine s_call [0] (ris_s (st := st) (by omega) m 4) ?_
    rintro u27 _ ⟨e28, rfl⟩
    rcases is_cases st m 4 with ⟨hb29, hn30⟩ | ⟨o31, hb32, hf33, ho34, hk35, hv36⟩
    ·
     rw [hb29] at e28; subst e28
     refine sp (.bool true) ?_
     refine sp (.bool true) ?_
     refine sp (.bool true) ?_
     refine s_nt <| k_true ?_
     refine k_sr <| sp (iw 8) ?_
     refine s_nt <| k_ret <| xs_ret ?_
     have hb : hmetaOk st v m = false := hmetaOk_not hf19 (of_decide_eq_false c25) hn30
     refine xs_fin [iw 8] (rhA b st :: F) (SI.tmp 6 SI.nil) (fun _ h => h.re [0] [1, 1]) ⟨?_, ?_⟩
     · unfold hsetMetaE; rw [hb]; rfl
     · unfold hsetMeta; rw [hb]; rfl
    ·
     rw [hb32] at e28; subst e28
     have hgm37 := get_mem ho34
     refine sp (.bool false) ?_
     refine sp (.bool false) ?_
     refine sp (.bool false) ?_
     refine s_nt <| k_false ?_
     refine k_st <| k_seq <| k_draw ?_
     refine sp (pB b 0) ?_
     refine sp (pB b 0) ?_
     refine sp (pB b 0) ?_
     refine s_mem3 (fun H h => rh_open (h.re [0] [])) (fun v38 tv39 L40 hw => ?_)
     obtain ⟨hi41, hL42⟩ := hw
     have hln43 := rx_len hL42
     have htl44 := hi41.tch
     refine s_lt (t_load 0 v38) ?_
     refine sp (pB g1 4) ?_
     refine s_lt (t_load 5 (iw v.ref)) ?_
     refine s_lt (t_sub v.ref 1 (by (try simp only [lnm]); omega)) ?_
     refine s_lt (t_loadA 4 (vc m)) ?_
     refine s_lt (t_index RxT_ok Tryz.underlying139 (.own 1) (v.ref - 1) (((v.ref - 1)).toNat) (by omega) (by (try simp only [lnm]); omega) (by omega)) ?_
     refine sp (.pointer (some ((elemAt RxT.size v38 (((v.ref - 1)).toNat)).add 4))) ?_
     obtain ⟨tp45, uv46, rv47, hy48⟩ := rx_get hL42 ho20
     refine s_storeE 1 4 (⟨some { o17 with mt := m }, tp45, uv46, rv47⟩ : Rx) RxT_ok hy48 ?_
     refine s_mem (fun _ h => rall_in (o' := { o17 with mt := m }) (uv' := uv46) (rv' := rv47) hy48 (rall_out (o := o17) hy48 (h.re [3] []))) ?_
     have hob49 := hi41.obs o17 (get_mem ho20).1
     refine s_nil <| x_dynS (fun _ h => by kernel_rfl) ?_
     refine xs_then <| k_sr <| sp (pB b 0) ?_
     refine s_lt (t_loadA 5 (vc v)) ?_
     refine s_call [1, 2] (rtouch_s (vv := v38) (m := (st.count : Int)) (T := st.tch) v (by omega) (by omega) (by omega) 0) ?_
     rw [if_pos (rfl)]
     rintro _ _ ⟨rfl, rfl⟩
     refine sp (iw 0) ?_
     refine s_nt <| k_ret <| xs_mem (fun _ h => rh_shut (st := ((st.put v.ref { o17 with mt := m }).touch v.ref)) (n := (st.count : Int)) (T := (st.tch.set ((v.ref - 1)).toNat true)) ⟨⟨⟨touch_inv (put_inv (o := { o17 with mt := m }) hi41 ⟨hob49.kind, hob49.tab, (fun a b => by exfalso; have a1 : o17.kind ≠ 4 := a; have b1 : o17.kind ≠ 8 := b; omega)⟩) v.ref, rx_set hL42 ho20 rfl⟩, (show (st.count : Int) = ((Hst.count (st.put v.ref { o17 with mt := m }) : Nat) : Int) by rw [count_put ho20])⟩, by show _ = List.set _ _ _; congr 1; omega⟩ (h.re [0, 2, 0, 0] [])) ?_
     have hb : hmetaOk st v m = true := hmetaOk_tab hf19 (.inr (by omega)) (htab_is hf33 (by omega))
     refine xs_fin [iw 0] (rhA b ((st.put v.ref { o17 with mt := m }).touch v.ref) :: F) (SI.tmp 6 SI.nil) (fun _ h => h.re [0] [1, 1]) ⟨?_, ?_⟩
     · unfold hsetMetaE; rw [hb]; rfl
     · unfold hsetMeta; rw [hb]; unfold Hst.setMt; rw [ho20]; rfl
   ·
    have c50 := not_f c24
    have p51 := of_decide_eq_true c50
    refine s_skip ?_
    refine s_skip ?_
    refine s_skip ?_
    refine s_skip ?_
    refine sp (.bool false) ?_
    refine sp (.bool false) ?_
    refine s_nt <| k_false ?_
    refine k_st <| k_seq <| k_draw ?_
    refine sp (pB b 0) ?_
    refine sp (pB b 0) ?_
    refine sp (pB b 0) ?_
    refine s_mem3 (fun H h => rh_open (h.re [0] [])) (fun v52 tv53 L54 hw => ?_)
    obtain ⟨hi55, hL56⟩ := hw
    have hln57 := rx_len hL56
    have htl58 := hi55.tch
    refine s_lt (t_load 0 v52) ?_
    refine sp (pB g1 4) ?_
    refine s_lt (t_load 5 (iw v.ref)) ?_
    refine s_lt (t_sub v.ref 1 (by (try simp only [lnm]); omega)) ?_
    refine s_lt (t_loadA 4 (vc m)) ?_
    refine s_lt (t_index RxT_ok Tryz.underlying139 (.own 1) (v.ref - 1) (((v.ref - 1)).toNat) (by omega) (by (try simp only [lnm]); omega) (by omega)) ?_
    refine sp (.pointer (some ((elemAt RxT.size v52 (((v.ref - 1)).toNat)).add 4))) ?_
    obtain ⟨tp59, uv60, rv61, hy62⟩ := rx_get hL56 ho20
    refine s_storeE 1 4 (⟨some { o17 with mt := m }, tp59, uv60, rv61⟩ : Rx) RxT_ok hy62 ?_
    refine s_mem (fun _ h => rall_in (o' := { o17 with mt := m }) (uv' := uv60) (rv' := rv61) hy62 (rall_out (o := o17) hy62 (h.re [3] []))) ?_
    have hob63 := hi55.obs o17 (get_mem ho20).1
    refine s_nil <| x_dynS (fun _ h => by kernel_rfl) ?_
    refine xs_then <| k_sr <| sp (pB b 0) ?_
    refine s_lt (t_loadA 5 (vc v)) ?_
    refine s_call [1, 2] (rtouch_s (vv := v52) (m := (st.count : Int)) (T := st.tch) v (by omega) (by omega) (by omega) 0) ?_
    rw [if_pos (rfl)]
    rintro _ _ ⟨rfl, rfl⟩
    refine sp (iw 0) ?_
    refine s_nt <| k_ret <| xs_mem (fun _ h => rh_shut (st := ((st.put v.ref { o17 with mt := m }).touch v.ref)) (n := (st.count : Int)) (T := (st.tch.set ((v.ref - 1)).toNat true)) ⟨⟨⟨touch_inv (put_inv (o := { o17 with mt := m }) hi55 ⟨hob63.kind, hob63.tab, (fun a b => by exfalso; have a1 : o17.kind ≠ 4 := a; have b1 : o17.kind ≠ 8 := b; omega)⟩) v.ref, rx_set hL56 ho20 rfl⟩, (show (st.count : Int) = ((Hst.count (st.put v.ref { o17 with mt := m }) : Nat) : Int) by rw [count_put ho20])⟩, by show _ = List.set _ _ _; congr 1; omega⟩ (h.re [0, 2, 0, 0] [])) ?_
    have hb : hmetaOk st v m = true := hmetaOk_zero hf19 (.inr (by omega)) (of_decide_eq_true c50)
    refine xs_fin [iw 0] (rhA b ((st.put v.ref { o17 with mt := m }).touch v.ref) :: F) (SI.tmp 6 SI.nil) (fun _ h => h.re [0] [1, 1]) ⟨?_, ?_⟩
    · unfold hsetMetaE; rw [hb]; rfl
    · unfold hsetMeta; rw [hb]; unfold Hst.setMt; rw [ho20]; rfl
 ·
  rw [hb8] at e4; subst e4
  have hgm64 := get_mem ho10
  refine sp (.bool false) ?_
  refine sp (.bool false) ?_
  refine s_skip ?_
  refine s_skip ?_
  refine s_skip ?_
  refine s_skip ?_
  refine sp (.bool false) ?_
  refine sp (.bool false) ?_
  refine s_lt (t_loadA 1 (vc m)) ?_
  refine s_lt (t_kern (.agg zc)) ?_
  refine s_lt (t_eqS (fun w => (eqVlT m zVl w).2)) ?_
  refine sp (.bool (!(decide (m = zVl)))) ?_
  refine s_fork 23 (!(decide (m = zVl))) (fun c65 => ?_) (fun c65 => ?_)
  ·
   have c66 := not_t c65
   have p67 := of_decide_eq_false c66
   refine sp (pB b 0) ?_
   refine s_lt (t_loadA 1 (vc m)) ?_
   refine s_call [0] (ris_s (st := st) (by omega) m 4) ?_
   rintro u68 _ ⟨e69, rfl⟩
   rcases is_cases st m 4 with ⟨hb70, hn71⟩ | ⟨o72, hb73, hf74, ho75, hk76, hv77⟩
   ·
    rw [hb70] at e69; subst e69
    refine sp (.bool true) ?_
    refine sp (.bool true) ?_
    refine sp (.bool true) ?_
    refine s_nt <| k_true ?_
    refine k_sr <| sp (iw 8) ?_
    refine s_nt <| k_ret <| xs_ret ?_
    have hb : hmetaOk st v m = false := hmetaOk_not hf9 (of_decide_eq_false c66) hn71
    refine xs_fin [iw 8] (rhA b st :: F) (SI.tmp 6 SI.nil) (fun _ h => h.re [0] [1, 1]) ⟨?_, ?_⟩
    · unfold hsetMetaE; rw [hb]; rfl
    · unfold hsetMeta; rw [hb]; rfl
   ·
    rw [hb73] at e69; subst e69
    have hgm78 := get_mem ho75
    refine sp (.bool false) ?_
    refine sp (.bool false) ?_
    refine sp (.bool false) ?_
    refine s_nt <| k_false ?_
    refine k_st <| k_seq <| k_draw ?_
    refine sp (pB b 0) ?_
    refine sp (pB b 0) ?_
    refine sp (pB b 0) ?_
    refine s_mem3 (fun H h => rh_open (h.re [0] [])) (fun v79 tv80 L81 hw => ?_)
    obtain ⟨hi82, hL83⟩ := hw
    have hln84 := rx_len hL83
    have htl85 := hi82.tch
    refine s_lt (t_load 0 v79) ?_
    refine sp (pB g1 4) ?_
    refine s_lt (t_load 5 (iw v.ref)) ?_
    refine s_lt (t_sub v.ref 1 (by (try simp only [lnm]); omega)) ?_
    refine s_lt (t_loadA 4 (vc m)) ?_
    refine s_lt (t_index RxT_ok Tryz.underlying139 (.own 1) (v.ref - 1) (((v.ref - 1)).toNat) (by omega) (by (try simp only [lnm]); omega) (by omega)) ?_
    refine sp (.pointer (some ((elemAt RxT.size v79 (((v.ref - 1)).toNat)).add 4))) ?_
    obtain ⟨tp86, uv87, rv88, hy89⟩ := rx_get hL83 ho10
    refine s_storeE 1 4 (⟨some { o7 with mt := m }, tp86, uv87, rv88⟩ : Rx) RxT_ok hy89 ?_
    refine s_mem (fun _ h => rall_in (o' := { o7 with mt := m }) (uv' := uv87) (rv' := rv88) hy89 (rall_out (o := o7) hy89 (h.re [3] []))) ?_
    have hob90 := hi82.obs o7 (get_mem ho10).1
    refine s_nil <| x_dynS (fun _ h => by kernel_rfl) ?_
    refine xs_then <| k_sr <| sp (pB b 0) ?_
    refine s_lt (t_loadA 5 (vc v)) ?_
    refine s_call [1, 2] (rtouch_s (vv := v79) (m := (st.count : Int)) (T := st.tch) v (by omega) (by omega) (by omega) 0) ?_
    rw [if_pos (rfl)]
    rintro _ _ ⟨rfl, rfl⟩
    refine sp (iw 0) ?_
    refine s_nt <| k_ret <| xs_mem (fun _ h => rh_shut (st := ((st.put v.ref { o7 with mt := m }).touch v.ref)) (n := (st.count : Int)) (T := (st.tch.set ((v.ref - 1)).toNat true)) ⟨⟨⟨touch_inv (put_inv (o := { o7 with mt := m }) hi82 ⟨hob90.kind, hob90.tab, (fun a b => by exfalso; have a1 : o7.kind ≠ 4 := a; have b1 : o7.kind ≠ 8 := b; omega)⟩) v.ref, rx_set hL83 ho10 rfl⟩, (show (st.count : Int) = ((Hst.count (st.put v.ref { o7 with mt := m }) : Nat) : Int) by rw [count_put ho10])⟩, by show _ = List.set _ _ _; congr 1; omega⟩ (h.re [0, 2, 0, 0] [])) ?_
    have hb : hmetaOk st v m = true := hmetaOk_tab hf9 (.inl (by omega)) (htab_is hf74 (by omega))
    refine xs_fin [iw 0] (rhA b ((st.put v.ref { o7 with mt := m }).touch v.ref) :: F) (SI.tmp 6 SI.nil) (fun _ h => h.re [0] [1, 1]) ⟨?_, ?_⟩
    · unfold hsetMetaE; rw [hb]; rfl
    · unfold hsetMeta; rw [hb]; unfold Hst.setMt; rw [ho10]; rfl
  ·
   have c91 := not_f c65
   have p92 := of_decide_eq_true c91
   refine s_skip ?_
   refine s_skip ?_
   refine s_skip ?_
   refine s_skip ?_
   refine sp (.bool false) ?_
   refine sp (.bool false) ?_
   refine s_nt <| k_false ?_
   refine k_st <| k_seq <| k_draw ?_
   refine sp (pB b 0) ?_
   refine sp (pB b 0) ?_
   refine sp (pB b 0) ?_
   refine s_mem3 (fun H h => rh_open (h.re [0] [])) (fun v93 tv94 L95 hw => ?_)
   obtain ⟨hi96, hL97⟩ := hw
   have hln98 := rx_len hL97
   have htl99 := hi96.tch
   refine s_lt (t_load 0 v93) ?_
   refine sp (pB g1 4) ?_
   refine s_lt (t_load 5 (iw v.ref)) ?_
   refine s_lt (t_sub v.ref 1 (by (try simp only [lnm]); omega)) ?_
   refine s_lt (t_loadA 4 (vc m)) ?_
   refine s_lt (t_index RxT_ok Tryz.underlying139 (.own 1) (v.ref - 1) (((v.ref - 1)).toNat) (by omega) (by (try simp only [lnm]); omega) (by omega)) ?_
   refine sp (.pointer (some ((elemAt RxT.size v93 (((v.ref - 1)).toNat)).add 4))) ?_
   obtain ⟨tp100, uv101, rv102, hy103⟩ := rx_get hL97 ho10
   refine s_storeE 1 4 (⟨some { o7 with mt := m }, tp100, uv101, rv102⟩ : Rx) RxT_ok hy103 ?_
   refine s_mem (fun _ h => rall_in (o' := { o7 with mt := m }) (uv' := uv101) (rv' := rv102) hy103 (rall_out (o := o7) hy103 (h.re [3] []))) ?_
   have hob104 := hi96.obs o7 (get_mem ho10).1
   refine s_nil <| x_dynS (fun _ h => by kernel_rfl) ?_
   refine xs_then <| k_sr <| sp (pB b 0) ?_
   refine s_lt (t_loadA 5 (vc v)) ?_
   refine s_call [1, 2] (rtouch_s (vv := v93) (m := (st.count : Int)) (T := st.tch) v (by omega) (by omega) (by omega) 0) ?_
   rw [if_pos (rfl)]
   rintro _ _ ⟨rfl, rfl⟩
   refine sp (iw 0) ?_
   refine s_nt <| k_ret <| xs_mem (fun _ h => rh_shut (st := ((st.put v.ref { o7 with mt := m }).touch v.ref)) (n := (st.count : Int)) (T := (st.tch.set ((v.ref - 1)).toNat true)) ⟨⟨⟨touch_inv (put_inv (o := { o7 with mt := m }) hi96 ⟨hob104.kind, hob104.tab, (fun a b => by exfalso; have a1 : o7.kind ≠ 4 := a; have b1 : o7.kind ≠ 8 := b; omega)⟩) v.ref, rx_set hL97 ho10 rfl⟩, (show (st.count : Int) = ((Hst.count (st.put v.ref { o7 with mt := m }) : Nat) : Int) by rw [count_put ho10])⟩, by show _ = List.set _ _ _; congr 1; omega⟩ (h.re [0, 2, 0, 0] [])) ?_
   have hb : hmetaOk st v m = true := hmetaOk_zero hf9 (.inl (by omega)) (of_decide_eq_true c91)
   refine xs_fin [iw 0] (rhA b ((st.put v.ref { o7 with mt := m }).touch v.ref) :: F) (SI.tmp 6 SI.nil) (fun _ h => h.re [0] [1, 1]) ⟨?_, ?_⟩
   · unfold hsetMetaE; rw [hb]; rfl
   · unfold hsetMeta; rw [hb]; unfold Hst.setMt; rw [ho10]; rfl
theorem hmake_eq {st : Hst} {o : Hob} (hf : st.count < 65536) : hmake st o = ⟨st.objs ++ [some o], st.tch ++ [true]⟩ := by unfold hmake; rw [if_neg (by omega)]
theorem radd_s {Z : Zone} {F : List Asr} {b : Nat} {st : Hst} {o : Hob} {tp : Nat} {uv rv : Sv} (hob : ObInv o) (hl : st.objs.length ≤ 1000000) : SF Tryz.prog 137 #[.pointer (some ⟨b, 0, none⟩), Rx.v ⟨some o, tp, uv, rv⟩] Z (rhA b st :: roP ⟨some o, tp, uv, rv⟩ :: F) fun r Bs => r = pairV (hmakeV st o.kind) (hmakeE st) ∧ Bs = rhA b (hmake st o) :: F := by
 refine sf_enter Tryz.func137 47 [(0, pB b 0), (1, .agg #[iw o.kind, iw o.tag, sw o.name, (tabV (0, tp) o), iw o.mt.kind, iw o.mt.p, iw o.mt.q, sw o.mt.str, iw o.mt.ref, uv.v, rv.v])] (fun w0 => ?_)
 refine k_sr <| s_box #[iw o.kind, iw o.tag, sw o.name, (tabV (0, tp) o), iw o.mt.kind, iw o.mt.p, iw o.mt.q, sw o.mt.str, iw o.mt.ref, uv.v, rv.v] (fun g1 => ?_)
 refine s_alloc (.agg zc) zc (fun g2 => ?_)
 refine sp (iw 0) ?_
 refine s_nt <| k_seq <| k_sr <| sp (pB b 0) ?_
 refine sp (pB b 0) ?_
 refine sp (pB b 1) ?_
 refine s_mem3 (fun H h => rh_open (h.re [2] [])) (fun v3 tv4 L5 hw => ?_)
 obtain ⟨hi6, hL7⟩ := hw
 have hln8 := rx_len hL7
 have htl9 := hi6.tch
 refine s_lt (t_load 0 (iw (st.count : Int))) ?_
 refine s_lt t_cmp ?_
 refine s_nt <| k_cond (decide ((65536 : Int) ≤ (st.count : Int))) (fun c10 => ?_) (fun c10 => ?_)
 ·
  have p11 := of_decide_eq_true c10
  refine k_sr <| s_lt (t_kern (.agg zc)) ?_
  refine s_store 4 zc ?_
  refine sp (iw 17) ?_
  refine s_nt <| k_ret <| xs_ret <| xs_mem (fun _ h => rh_shut (st := st) (n := (st.count : Int)) (T := st.tch) ⟨⟨⟨hi6, hL7⟩, rfl⟩, rfl⟩ (h.re [0, 0, 0, 0] [])) ?_
  have hf : 65536 ≤ st.count := by omega
  refine xs_fin [.agg zc, iw 17] (rhA b st :: F) (SI.agg 4 71 1 (SI.tmp 5 SI.nil)) (fun _ h => h.re [0] [1, 1, 1]) ⟨?_, ?_⟩
  · rw [(hmakeV_full hf).1, (hmakeV_full (k := 0) hf).2]; rfl
  · rw [hmake_full hf]
 ·
  have p12 := of_decide_eq_false c10
  refine k_st <| k_seq <| k_draw ?_
  refine sp (pB b 0) ?_
  refine sp (pB b 0) ?_
  refine sp (pB b 0) ?_
  refine sp (pB b 0) ?_
  refine s_lt (t_load 0 v3) ?_
  refine s_lt (t_loadA 5 #[iw o.kind, iw o.tag, sw o.name, (tabV (0, tp) o), iw o.mt.kind, iw o.mt.p, iw o.mt.q, sw o.mt.str, iw o.mt.ref, uv.v, rv.v]) ?_
  refine s_buildSlice (e := 145) [(0, .agg #[iw o.kind, iw o.tag, sw o.name, (tabV (0, tp) o), iw o.mt.kind, iw o.mt.p, iw o.mt.q, sw o.mt.str, iw o.mt.ref, uv.v, rv.v])] #[iw o.kind, iw o.tag, sw o.name, (tabV (0, tp) o), iw o.mt.kind, iw o.mt.p, iw o.mt.q, sw o.mt.str, iw o.mt.ref, uv.v, rv.v] (fun g13 => ?_) (hb := by kernel_rfl)
  refine s_append (L := L5) 2 RxT_ok Tryz.underlying139 (.lit 0 RxT_ok [(⟨some o, tp, uv, rv⟩ : Rx)]) (by show _ * 136 ≤ _; (try simp only [lnm]); omega) (by (try simp only [lnm]); omega) (fun v14 => ?_)
  refine sp (pB b 0) ?_
  refine sp (pB b 0) ?_
  refine s_fact (fun H h => ((Acc.own (T := RxT) (L := (L5 ++ [(⟨some o, tp, uv, rv⟩ : Rx)])) 2 rfl) H h).form) (fun hf15 => ?_)
  refine s_store (u := v14) (m := 1) 1 #[v14, iw (st.count : Int), tv4] ?_ (hm := by (obtain ⟨_, _, e⟩ := hf15; rw [e]; rfl)) (h1 := by (obtain ⟨_, _, e⟩ := hf15; rw [e]; rfl)) (ha' := by (obtain ⟨_, _, e⟩ := hf15; rw [e]; rfl))
  refine s_nil <| x_dynS (fun _ h => by kernel_rfl) ?_
  refine xs_then <| k_sr <| sp (pB b 0) ?_
  refine sp (pB b 0) ?_
  refine sp (pB b 0) ?_
  refine sp (pB b 2) ?_
  refine s_lt (t_load 1 tv4) ?_
  refine s_buildSlice (e := 4) [(0, .bool true)] #[.bool true] (fun g16 => ?_) (hb := by kernel_rfl)
  refine s_append (L := st.tch) 4 bTy_ok Tryz.underlying140 (.lit 0 bTy_ok [true]) (by show _ * 1 ≤ _; (try simp only [lnm]); omega) (by (try simp only [lnm]); omega) (fun v17 => ?_)
  refine sp (pB b 0) ?_
  refine sp (pB b 2) ?_
  refine s_fact (fun H h => ((Acc.own (T := bTy) (L := (st.tch ++ [true])) 4 rfl) H h).form) (fun hf18 => ?_)
  refine s_store (u := v17) (m := 1) 2 #[v14, iw (st.count : Int), v17] ?_ (hm := by (obtain ⟨_, _, e⟩ := hf18; rw [e]; rfl)) (h1 := by (obtain ⟨_, _, e⟩ := hf18; rw [e]; rfl)) (ha' := by (obtain ⟨_, _, e⟩ := hf18; rw [e]; rfl))
  refine s_nr ?_
  refine sp (pB b 0) ?_
  refine sp (pB b 0) ?_
  refine sp (pB b 0) ?_
  refine sp (pB b 1) ?_
  refine s_lt (t_load 2 (iw (st.count : Int))) ?_
  refine s_lt (t_add (st.count : Int) 1 (by (try simp only [lnm]); omega)) ?_
  refine sp (pB b 0) ?_
  refine sp (pB b 1) ?_
  refine s_store 2 #[v14, iw ((st.count : Int) + 1), v17] ?_
  refine s_nt <| k_seq <| k_draw ?_
  refine sp (pB g1 0) ?_
  refine s_lt (t_load 7 (iw o.kind)) ?_
  refine sp (pB b 0) ?_
  refine sp (pB b 0) ?_
  refine sp (pB b 0) ?_
  refine s_lt (t_load 2 v14) ?_
  refine s_lt (t_len RxT_ok Tryz.underlying139 (.own 3)) ?_
  refine s_lt (t_kern (.agg #[iw o.kind, iw 0, iw 0, sw eb, iw ((L5 ++ [(⟨some o, tp, uv, rv⟩ : Rx)]).length : Int)])) ?_
  refine s_store 6 #[iw o.kind, iw 0, iw 0, sw eb, iw ((L5 ++ [(⟨some o, tp, uv, rv⟩ : Rx)]).length : Int)] ?_
  refine sp (iw 0) ?_
  refine s_nil <| x_dynS (fun _ h => by obtain ⟨_, _, e⟩ := hf15; subst e; kernel_rfl) ?_
  refine xs_then <| k_ret ?_
  have hf : st.count < 65536 := by omega
  refine xs_mem (fun _ h => rall_add (h.re [8, 5] [])) ?_
  refine xs_mem (fun _ h => rh_shut (st := (hmake st o)) (n := ((st.count : Int) + 1)) (T := (st.tch ++ [true])) ⟨⟨⟨hmake_inv hi6 hob, by rw [hmake_eq hf]; exact rx_snoc (x := ⟨some o, tp, uv, rv⟩) hL7 rfl _⟩, by rw [hmake_eq hf, count_snoc]; rfl⟩, by rw [hmake_eq hf]⟩ (h.re [3, 3, 3, 0] [])) ?_
  refine xs_fin [.agg #[iw o.kind, iw 0, iw 0, sw eb, iw ((L5 ++ [(⟨some o, tp, uv, rv⟩ : Rx)]).length : Int)], iw 0] (rhA b (hmake st o) :: F) (SI.agg 4 71 3 (SI.tmp 5 SI.nil)) (fun _ h => h.re [0] [1, 1, 1, 1]) ⟨?_, rfl⟩
  rw [(hmakeV_ok hf).1, (hmakeV_ok (k := 0) hf).2]; exact congrArg (fun v : Vl => pairV v 0) (congrArg (refV o.kind) (by have h5 := rx_len hL7; rw [List.length_append, h5]; rfl))
theorem rhnewtable_s {Z : Zone} {F : List Asr} {b : Nat} {st : Hst} (hl : st.objs.length ≤ 1000000) : SF Tryz.prog 76 #[.pointer (some ⟨b, 0, none⟩)] Z (rhA b st :: F) fun r Bs => r = pairV (hmakeV st 4) (hmakeE st) ∧ Bs = rhA b (hmake st (newO 4 0 eb [])) :: F := by
 refine sf_enter Tryz.func76 13 [(0, pB b 0)] (fun w0 => ?_)
 refine k_sr <| s_alloc (.agg zc) zc (fun g1 => ?_)
 refine sp (iw 0) ?_
 refine s_nt <| k_seq <| k_sr <| sp (pB b 0) ?_
 refine sp (.bool false) ?_
 refine s_nt <| k_false ?_
 refine k_st <| k_sr <| sp (pB b 0) ?_
 refine s_pcall (fun _ h => rtnew_s) ?_
 rintro _ _ ⟨tg2, rfl, rfl⟩
 refine s_lt (t_kern (.agg #[iw 4, iw 0, sw eb, pB tg2 0, iw 0, iw 0, iw 0, sw eb, iw 0, (.slice none 0 0), (.slice none 0 0)])) ?_
 refine s_mem (fun _ h => Holds.nilS (T := VlT) h) ?_
 refine s_mem (fun _ h => Holds.nilS (T := VlT) h) ?_
 refine s_mem (fun _ h => rtO_shut (tp := tg2) (o := (newO 4 0 eb [])) (T := noTb) rfl (h.re [2] [])) ?_
 refine s_mem (fun _ h => show Holds _ (roP ⟨some (newO 4 0 eb []), tg2, ⟨none, 0, 0⟩, ⟨none, 0, 0⟩⟩ :: _) _ from Holds.star_in (L := [own VlT (Sv.v ⟨none, 0, 0⟩) (usr (newO 4 0 eb [])), own VlT (Sv.v ⟨none, 0, 0⟩) (rfs (newO 4 0 eb [])), rtO tg2 (newO 4 0 eb [])]) (h.re [2, 1, 0] [])) ?_
 refine s_call [2, 0] (radd_s (st := st) (o := (newO 4 0 eb [])) (tp := tg2) (uv := ⟨none, 0, 0⟩) (rv := ⟨none, 0, 0⟩) (newO_inv _ _ _ (by decide)) (by omega)) ?_
 rintro _ _ ⟨rfl, rfl⟩
 refine sp (.agg (vc (hmakeV st 4))) ?_
 refine sp (iw (hmakeE st)) ?_
 refine s_store 1 (vc (hmakeV st 4)) ?_
 refine sp (iw (hmakeE st)) ?_
 refine s_nt <| k_ret ?_
 exact xs_fin [.agg (vc (hmakeV st 4)), iw (hmakeE st)] (rhA b (hmake st (newO 4 0 eb [])) :: F) (SI.agg 2 71 1 (SI.tmp 3 SI.nil)) (fun _ h => h.re [0] [1]) ⟨rfl, rfl⟩
theorem rhnewfunc_s {Z : Zone} {F : List Asr} {b : Nat} {st : Hst} (hl : st.objs.length ≤ 1000000) (tag : Int) : SF Tryz.prog 80 #[.pointer (some ⟨b, 0, none⟩), iw tag] Z (rhA b st :: F) fun r Bs => r = pairV (hmakeV st 5) (hmakeE st) ∧ Bs = rhA b (hmake st (newO 5 tag eb [])) :: F := by
 refine sf_enter Tryz.func80 15 [(0, pB b 0), (1, iw tag)] (fun w0 => ?_)
 refine k_sr <| s_alloc (.agg zc) zc (fun g1 => ?_)
 refine sp (iw 0) ?_
 refine s_nt <| k_seq <| k_sr <| sp (pB b 0) ?_
 refine sp (.bool false) ?_
 refine s_nt <| k_false ?_
 refine k_st <| k_sr <| sp (pB b 0) ?_
 refine sp (iw tag) ?_
 refine s_lt (t_kern (.agg #[iw 5, iw tag, sw eb, .pointer none, iw 0, iw 0, iw 0, sw eb, iw 0, (.slice none 0 0), (.slice none 0 0)])) ?_
 refine s_mem (fun _ h => Holds.nilS (T := VlT) h) ?_
 refine s_mem (fun _ h => Holds.nilS (T := VlT) h) ?_
 refine s_mem (fun _ h => rtO_none (tp := 0) (o := (newO 5 tag eb [])) (show (5 : Int) ≠ 4 by decide) h) ?_
 refine s_mem (fun _ h => show Holds _ (roP ⟨some (newO 5 tag eb []), 0, ⟨none, 0, 0⟩, ⟨none, 0, 0⟩⟩ :: _) _ from Holds.star_in (L := [own VlT (Sv.v ⟨none, 0, 0⟩) (usr (newO 5 tag eb [])), own VlT (Sv.v ⟨none, 0, 0⟩) (rfs (newO 5 tag eb [])), rtO 0 (newO 5 tag eb [])]) (h.re [2, 1, 0] [])) ?_
 refine s_call [2, 0] (radd_s (st := st) (o := (newO 5 tag eb [])) (tp := 0) (uv := ⟨none, 0, 0⟩) (rv := ⟨none, 0, 0⟩) (newO_inv _ _ _ (by decide)) (by omega)) ?_
 rintro _ _ ⟨rfl, rfl⟩
 refine sp (.agg (vc (hmakeV st 5))) ?_
 refine sp (iw (hmakeE st)) ?_
 refine s_store 1 (vc (hmakeV st 5)) ?_
 refine sp (iw (hmakeE st)) ?_
 refine s_nt <| k_ret ?_
 exact xs_fin [.agg (vc (hmakeV st 5)), iw (hmakeE st)] (rhA b (hmake st (newO 5 tag eb [])) :: F) (SI.agg 4 71 1 (SI.tmp 5 SI.nil)) (fun _ h => h.re [0] [1]) ⟨rfl, rfl⟩
theorem rhnewdata_s {Z : Zone} {F : List Asr} {b : Nat} {st : Hst} (hl : st.objs.length ≤ 1000000) (name : ByteArray) : SF Tryz.prog 78 #[.pointer (some ⟨b, 0, none⟩), sw name] Z (rhA b st :: F) fun r Bs => r = pairV (hdataV st name) (hdataE st name) ∧ Bs = rhA b (hdata st name) :: F := by
 refine sf_enter Tryz.func78 31 [(0, pB b 0), (1, sw name)] (fun w0 => ?_)
 refine k_sr <| s_alloc (.agg zc) zc (fun g1 => ?_)
 refine sp (iw 0) ?_
 refine s_nt <| k_seq <| k_sr <| sp (pB b 0) ?_
 refine sp (.bool false) ?_
 refine s_nt <| k_false ?_
 refine k_st <| k_seq <| k_sr <| sp (sw name) ?_
 refine s_lt (t_kern (iw (name.size : Int))) ?_
 refine s_lt t_cmp ?_
 refine s_nt <| k_cond (decide ((40 : Int) < (name.size : Int))) (fun c2 => ?_) (fun c2 => ?_)
 ·
  have p3 := of_decide_eq_true c2
  refine k_sr <| s_lt (t_kern (.agg zc)) ?_
  refine s_store 0 zc ?_
  refine sp (iw 14) ?_
  refine s_nt <| k_ret <| xs_ret ?_
  have hp := of_decide_eq_true c2
  refine xs_fin [.agg zc, iw 14] (rhA b st :: F) (SI.agg 4 71 0 (SI.tmp 5 SI.nil)) (fun _ h => h.re [1] [1]) ⟨?_, ?_⟩
  · unfold hdataV hdataE; rw [if_pos hp, if_pos hp]; rfl
  · unfold hdata; rw [if_pos hp]
 ·
  have p4 := of_decide_eq_false c2
  refine k_st <| k_sr <| s_buildSlice (e := 71) [] #[] (fun g5 => ?_) (hb := by kernel_rfl)
  refine sp (.slice (some ⟨g5, 0, none⟩) 0 0) ?_
  refine s_nt <| k_seq <| k_sr <| sp (iw 0) ?_
  refine s_nt <| k_block ?_
  refine k_mem (fun _ h => Holds.slice 0 h VlT_ok []) ?_
  refine k_mem (Bs := own VlT (.slice (some ⟨g5, 0, none⟩) 0 0) (List.replicate 0 zVl) :: blkA g1 zc 71 :: rhA b st :: F) (fun _ h => h) ?_
  refine k_loop (ι := Value × Nat) (fun (lx, i) => i ≤ 16) (fun (lx, i) => [(0, pB b 0), (1, sw name), (4, pB g1 0), (6, lx), (7, iw (i : Int))]) (fun (lx, i) => own VlT lx (List.replicate i zVl) :: blkA g1 zc 71 :: rhA b st :: F) (fun (lx, i) => 16 - i) ((.slice (some ⟨g5, 0, none⟩) 0 0), 0) (Nat.zero_le _) (sub_of rfl ⟨⟨rfl, rfl⟩, ⟨⟨rfl, rfl⟩, ⟨⟨rfl, rfl⟩, ⟨⟨rfl, rfl⟩, ⟨⟨rfl, rfl⟩, trivial⟩⟩⟩⟩⟩) (fun _ h => h.re [0, 0, 0] []) ?_
  rintro ⟨lx, i⟩ hi6
  replace hi6 : i ≤ 16 := hi6
  show SK _ _ _ _ _ [(0, .pointer (some ⟨b, 0, none⟩)), (1, sw name), (4, .pointer (some ⟨g1, 0, none⟩)), (6, lx), (7, iw (i : Int))] _ (own VlT lx (List.replicate i zVl) :: blkA g1 zc 71 :: rhA b st :: F)
  refine k_seq <| k_sr <| sp (iw (i : Int)) ?_
  refine s_lt t_cmp ?_
  refine s_nt <| k_cond (decide ((i : Int) < 16)) (fun c7 => ?_) (fun c7 => ?_)
  ·
   have p8 := of_decide_eq_true c7
   refine k_st <| k_seq <| k_block ?_
   refine k_reg ?_
   refine sp lx ?_
   refine s_lt (t_kern (.agg zc)) ?_
   refine s_buildSlice (e := 71) [(0, .agg zc)] zc (fun g9 => ?_) (hb := by kernel_rfl)
   refine s_append (L := (List.replicate i zVl)) 1 VlT_ok Tryz.underlying28 (.lit 0 VlT_ok [zVl]) (by show _ * 48 ≤ _; (try simp only [lnm]); omega) (by (try simp only [lnm]); omega) (fun v10 => ?_)
   refine sp v10 ?_
   refine s_nil <| xs_block ?_
   refine xs_then <| k_reg ?_
   refine sp (iw (i : Int)) ?_
   refine s_lt (t_add (i : Int) 1 (by (try simp only [lnm]); omega)) ?_
   refine sp (iw ((i : Int) + 1)) ?_
   refine s_nil ?_
   rw [show List.replicate i zVl ++ [zVl] = List.replicate (i + 1) zVl from List.replicate_succ'.symm]
   exact xs_round (v10, i + 1) (by show 16 - (i + 1) < 16 - i; omega) (by show i + 1 ≤ 16; omega) (sub_of rfl ⟨⟨rfl, rfl⟩, ⟨⟨rfl, rfl⟩, ⟨⟨rfl, rfl⟩, ⟨⟨rfl, rfl⟩, ⟨⟨rfl, rfl⟩, trivial⟩⟩⟩⟩⟩) (fun _ h => h.re [1, 1, 1] [3])
  ·
   have p11 := of_decide_eq_false c7
   refine k_exit ?_
   obtain rfl : i = 16 := by omega
   refine xs_exit ?_
   refine xs_exit ?_
   refine xs_here ?_
   refine xs_then <| k_sr <| sp (pB b 0) ?_
   refine sp (sw name) ?_
   refine sp lx ?_
   refine s_fact (fun H h => ((Acc.own (T := VlT) (L := (List.replicate 16 zVl)) 0 rfl) H h).form) (fun hf12 => ?_)
   refine s_lt (show Lt _ _ _ _ _ (.agg #[iw 8, iw 0, sw name, .pointer none, iw 0, iw 0, iw 0, sw eb, iw 0, lx, (.slice none 0 0)]) from by obtain ⟨_, _, e⟩ := hf12; rw [e]; clear e; exact t_kern _) ?_
   refine s_fact (fun H h => ((Acc.own (T := VlT) (L := (List.replicate 16 zVl)) 0 rfl) H h).form) (fun hfm => ?_)
   obtain ⟨p13, cp14, hev⟩ := hfm
   subst hev
   refine s_mem (fun _ h => Holds.nilS (T := VlT) h) ?_
   refine s_mem (fun _ h => rtO_none (tp := 0) (o := (newO 8 0 name (List.replicate 16 zVl))) (show (8 : Int) ≠ 4 by decide) h) ?_
   refine s_mem (fun _ h => show Holds _ (roP ⟨some (newO 8 0 name (List.replicate 16 zVl)), 0, ⟨p13, (List.replicate 16 zVl).length, cp14⟩, ⟨none, 0, 0⟩⟩ :: _) _ from Holds.star_in (L := [own VlT (Sv.v ⟨p13, (List.replicate 16 zVl).length, cp14⟩) (usr (newO 8 0 name (List.replicate 16 zVl))), own VlT (Sv.v ⟨none, 0, 0⟩) (rfs (newO 8 0 name (List.replicate 16 zVl))), rtO 0 (newO 8 0 name (List.replicate 16 zVl))]) (h.re [2, 1, 0] [])) ?_
   refine s_call [2, 0] (radd_s (st := st) (o := (newO 8 0 name (List.replicate 16 zVl))) (tp := 0) (uv := ⟨p13, (List.replicate 16 zVl).length, cp14⟩) (rv := ⟨none, 0, 0⟩) (newO_inv _ _ _ (by decide)) (by omega)) ?_
   rintro _ _ ⟨rfl, rfl⟩
   refine sp (.agg (vc (hmakeV st 8))) ?_
   refine sp (iw (hmakeE st)) ?_
   refine s_store 1 (vc (hmakeV st 8)) ?_
   refine sp (iw (hmakeE st)) ?_
   refine s_nt <| k_ret ?_
   have hp := of_decide_eq_false c2
   refine xs_fin [.agg (vc (hmakeV st 8)), iw (hmakeE st)] (rhA b (hmake st (newO 8 0 name (List.replicate 16 zVl))) :: F) (SI.agg 4 71 1 (SI.tmp 5 SI.nil)) (fun _ h => h.re [0] [1]) ⟨?_, ?_⟩
   · unfold hdataV hdataE; rw [if_neg hp, if_neg hp]; rfl
   · unfold hdata; rw [if_neg hp] <;> rfl
theorem rhnew_s {Z : Zone} : SF Tryz.prog 74 #[] Z [] fun r Bs => ∃ b, r = .pointer (some ⟨b, 0, none⟩) ∧ Bs = [rhA b hp0] := by
 refine sf_enter Tryz.func74 3 [] (fun w0 => ?_)
 refine k_sr <| sp (.pointer none) ?_
 refine s_nr ?_
 refine s_lt (t_kern (.agg #[(.slice none 0 0), iw 0, (.slice none 0 0)])) ?_
 refine s_box #[(.slice none 0 0), iw 0, (.slice none 0 0)] (fun g1 => ?_)
 refine sp (pB g1 0) ?_
 refine s_nt <| k_ret <| xs_fin [pB g1 0] [rhA g1 hp0] (SI.tmp 0 SI.nil) (fun _ h => rh_shut (b := g1) (st := hp0) (L := []) (T := []) (v := .slice none 0 0) (tv := .slice none 0 0) ⟨⟨⟨HInv.nil, rfl⟩, rfl⟩, rfl⟩ ((Holds.nilS (T := RxT) (Holds.nilS (T := bTy) (Holds.star_nil h))).re [3, 0, 0, 0] [])) ⟨g1, rfl, rfl⟩
end Go.Proofs.YtmhpcebiamkciaaGreat
end
section
set_option linter.unusedSimpArgs false
set_option linter.unusedVariables false
set_option maxRecDepth 100000
set_option maxHeartbeats 2000000
namespace Go.Proofs.YtmhpcebiamkciaaGreat
open Go.Hp Go.J Go.S
open Go.Mem (Ty KTy blk elemAt pre suf blk_pre blk_suf aget aset strK aggDesc)
open Go.Mem (adel apos aget_aset aget_adel)
structure Spc where
  v : Vl
  obj : Int
structure Opc where
  kind : Int
  a : Spc
  b : Spc
  c : Spc
def Spc.w (x : Spc) : Value := .agg #[iw x.v.kind, iw x.v.p, iw x.v.q, sw x.v.str, iw x.v.ref, iw x.obj]
def Opc.w (x : Opc) : Value := .agg #[iw x.kind, iw x.a.v.kind, iw x.a.v.p, iw x.a.v.q, sw x.a.v.str, iw x.a.v.ref, iw x.a.obj, iw x.b.v.kind, iw x.b.v.p, iw x.b.v.q, sw x.b.v.str, iw x.b.v.ref, iw x.b.obj, iw x.c.v.kind, iw x.c.v.p, iw x.c.v.q, sw x.c.v.str, iw x.c.v.ref, iw x.c.obj]
def SpT : Ty Spc := ⟨76, 6, 56, true, Spc.w, ⟨zVl, 0⟩⟩
theorem SpT_ok : SpT.Ok Tryz.prog := ok_of SpT _ Tryz.t76 (by decide) (fun _ => rfl) (fun x u hu => by simp [Ty.enc, SpT, Spc.w, Value.cells] at hu; rcases hu with rfl | rfl | rfl | rfl | rfl | rfl <;> rfl) (fun _ => rfl) Tryz.underlying76 rfl (fun h => by cases h) (by kernel_rfl) (by kernel_rfl) (by kernel_rfl) (by kernel_rfl)
def OpT : Ty Opc := ⟨78, 19, 176, true, Opc.w, ⟨0, ⟨zVl, 0⟩, ⟨zVl, 0⟩, ⟨zVl, 0⟩⟩⟩
theorem OpT_ok : OpT.Ok Tryz.prog := ok_of OpT _ Tryz.t78 (by decide) (fun _ => rfl) (fun x u hu => by simp [Ty.enc, OpT, Opc.w, Value.cells] at hu; rcases hu with rfl | rfl | rfl | rfl | rfl | rfl | rfl | rfl | rfl | rfl | rfl | rfl | rfl | rfl | rfl | rfl | rfl | rfl | rfl <;> rfl) (fun _ => rfl) Tryz.underlying78 rfl (fun h => by cases h) (by kernel_rfl) (by kernel_rfl) (by kernel_rfl) (by kernel_rfl)
def hdl (st : Hst) (v : Vl) (ev : ByteArray) : Vl := if (hmeta st v).kind = 0 then zVl else hgetV st (hmeta st v) (strV ev)
def ofS (L : List Vl) (s : Spc) : Vl := if 0 < s.obj ∧ 0 < L.length then (L[(Int.tmod s.obj (L.length : Int)).toNat]?).getD zVl else s.v
theorem ofS_in {L : List Vl} {s : Spc} {y : Vl} (h1 : 0 < s.obj) (h2 : 0 < L.length) (hy : L[(Int.tmod s.obj (L.length : Int)).toNat]? = some y) : ofS L s = y := by unfold ofS; rw [if_pos ⟨h1, h2⟩, hy]; rfl
theorem ofS_out {L : List Vl} {s : Spc} (h : ¬ (0 < s.obj ∧ 0 < L.length)) : ofS L s = s.v := by unfold ofS; rw [if_neg h]
theorem tmod_lt {a : Int} {n : Nat} (ha : 0 < a) (hn : 0 < n) : 0 ≤ Int.tmod a n ∧ Int.tmod a n < n := ⟨Int.tmod_nonneg _ (by omega), Int.tmod_lt_of_pos _ (by omega)⟩
theorem of_s {Z : Zone} {F : List Asr} {hv gv lv : Value} {L : List Vl} (hl : L.length ≤ 100000) (s : Spc) : SF Tryz.prog 75 #[.agg #[hv, gv, lv], s.w] Z (own VlT lv L :: F) fun r Bs => r = (ofS L s).v ∧ Bs = own VlT lv L :: F := by
 refine sf_enter Tryz.func75 26 [(0, .agg #[hv, gv, lv]), (1, .agg #[iw s.v.kind, iw s.v.p, iw s.v.q, sw s.v.str, iw s.v.ref, iw s.obj])] (fun w0 => ?_)
 refine k_sr <| s_box #[hv, gv, lv] (fun g1 => ?_)
 refine s_box #[iw s.v.kind, iw s.v.p, iw s.v.q, sw s.v.str, iw s.v.ref, iw s.obj] (fun g2 => ?_)
 refine s_alloc (.agg zc) zc (fun g3 => ?_)
 refine s_nt <| k_seq <| k_cut (ι := Unit) (fun _ => True) (fun _ => [(2, pB g1 0), (3, pB g2 0), (4, pB g3 0), (13, .bool ((decide ((0 : Int) < s.obj)) && (decide ((0 : Int) < (L.length : Int)))))]) (fun _ => blkA g3 zc 71 :: blkA g2 #[iw s.v.kind, iw s.v.p, iw s.v.q, sw s.v.str, iw s.v.ref, iw s.obj] 76 :: blkA g1 #[hv, gv, lv] 30 :: own VlT lv L :: F) ?_ (fun _ _ => ?_)
 ·
  refine k_reg ?_
  refine sp (pB g2 5) ?_
  refine s_lt (t_load 1 (iw s.obj)) ?_
  refine s_lt t_cmp ?_
  refine sp (.bool (decide ((0 : Int) < s.obj))) ?_
  refine s_fork 8 (decide ((0 : Int) < s.obj)) (fun c4 => ?_) (fun c4 => ?_)
  ·
   have p5 := of_decide_eq_true c4
   refine sp (pB g1 2) ?_
   refine s_lt (t_load 2 lv) ?_
   refine s_lt (t_len VlT_ok Tryz.underlying28 (.own 3)) ?_
   refine s_lt t_cmp ?_
   refine sp (.bool (decide ((0 : Int) < (L.length : Int)))) ?_
   refine s_nil ?_
   exact xs_cut () trivial (sub_of rfl ⟨⟨rfl, rfl⟩, ⟨⟨rfl, rfl⟩, ⟨⟨rfl, rfl⟩, ⟨⟨rfl, show Value.bool (decide ((0 : Int) < (L.length : Int))) = Value.bool ((decide ((0 : Int) < s.obj)) && (decide ((0 : Int) < (L.length : Int)))) by first | (simp only [c4, bls]; done) | simp [c4]⟩, trivial⟩⟩⟩⟩) (fun _ h => h.re [0, 0, 0, 0] [])
  ·
   have p6 := of_decide_eq_false c4
   refine s_skip ?_
   refine s_skip ?_
   refine s_skip ?_
   refine s_skip ?_
   refine sp (.bool false) ?_
   refine s_nil ?_
   exact xs_cut () trivial (sub_of rfl ⟨⟨rfl, rfl⟩, ⟨⟨rfl, rfl⟩, ⟨⟨rfl, rfl⟩, ⟨⟨rfl, show Value.bool false = Value.bool ((decide ((0 : Int) < s.obj)) && (decide ((0 : Int) < (L.length : Int)))) by first | (simp only [c4, bls]; done) | simp [c4]⟩, trivial⟩⟩⟩⟩) (fun _ h => h.re [0, 0, 0, 0] [])
 ·
  refine k_cond ((decide ((0 : Int) < s.obj)) && (decide ((0 : Int) < (L.length : Int)))) (fun c7 => ?_) (fun c7 => ?_)
  ·
   obtain ⟨c8, c9⟩ := and_t c7
   have p10 := of_decide_eq_true c8
   have p11 := of_decide_eq_true c9
   refine k_seq <| k_draw ?_
   refine sp (pB g1 2) ?_
   refine s_lt (t_load 2 lv) ?_
   refine sp (pB g2 5) ?_
   refine s_lt (t_load 1 (iw s.obj)) ?_
   refine sp (pB g1 2) ?_
   refine s_lt (t_load 2 lv) ?_
   refine s_fact (fun H h => ((Acc.own (T := VlT) (L := L) 3 rfl) H h).form) (fun hf12 => ?_)
   refine s_lt (t_len VlT_ok Tryz.underlying28 (.own 3)) ?_
   obtain ⟨htm1, htm2⟩ := tmod_lt (a := s.obj) (n := L.length) (by omega) (by omega)
   refine s_lt (t_rem s.obj (L.length : Int) (by omega)) ?_
   refine s_lt (t_index VlT_ok Tryz.underlying28 (.own 3) (Int.tmod s.obj (L.length : Int)) (((Int.tmod s.obj (L.length : Int))).toNat) (by omega) (by (try simp only [lnm]); omega) (by omega)) ?_
   obtain ⟨y13, hy14⟩ : ∃ y, L[((Int.tmod s.obj (L.length : Int))).toNat]? = some y := ⟨_, List.getElem?_eq_getElem (by (try simp only [lnm]); omega)⟩
   refine s_lt (t_loadE VlT_ok (.own 3) hy14) ?_
   refine s_store 0 (vc y13) ?_
   refine s_nil <| x_dynS (fun _ h => by obtain ⟨_, _, e⟩ := hf12; subst e; kernel_rfl) ?_
   refine xs_then <| k_ret <| xs_ret <| xs_fin [.agg (vc y13)] (own VlT lv L :: F) (SI.agg 4 71 0 SI.nil) (fun _ h => h.re [3] [1, 1, 1]) ⟨?_, rfl⟩
   rw [ofS_in (by omega) (by omega) hy14]; rfl
  ·
   have p15 := c7
   simp only [Bool.and_eq_true, Bool.or_eq_true, Bool.and_eq_false_iff, Bool.or_eq_false_iff, Bool.not_eq_true', Bool.not_eq_false', decide_eq_true_eq, decide_eq_false_iff_not] at p15
   refine k_st <| k_sr <| sp (pB g2 0) ?_
   refine s_lt (t_loadA 1 (vc s.v)) ?_
   refine s_store 0 (vc s.v) ?_
   refine s_nt <| k_ret <| xs_fin [.agg (vc s.v)] (own VlT lv L :: F) (SI.agg 4 71 0 SI.nil) (fun _ h => h.re [3] [1, 1, 1]) ⟨?_, rfl⟩
   rw [ofS_out (by omega)]; rfl
theorem large_pre {A X : List Spc} {P : Spc → Prop} (h : A <+: X) (hP : ∀ s ∈ X, P s) : ∀ s ∈ A, P s := fun s hs => hP s (h.subset hs)
theorem large_step {X : List Spc} {i : Nat} {y : Spc} (h : ∀ s ∈ X.take i, (s.v.str.size : Int) ≤ 5000) (hy : X[i]? = some y) (h2 : (y.v.str.size : Int) ≤ 5000) : ∀ s ∈ X.take (i + 1), (s.v.str.size : Int) ≤ 5000 := fun s hs => by
  rw [List.take_add_one, hy] at hs
  rcases List.mem_append.1 hs with hs | hs
  · exact h s hs
  · rw [Option.toList_some, List.mem_singleton] at hs; rw [hs]; exact h2
theorem large_s {Z : Zone} {F : List Asr} {lv mv : Value} {l : List Opc} {M : List Spc} (hl0 : Kn Z OpT lv l) (hM : M.length ≤ 100000) : SF Tryz.prog 8 #[lv, mv] Z (own SpT mv M :: F) fun r Bs => ∃ x, r = .bool x ∧ (x = false → ∀ s ∈ M, (s.v.str.size : Int) ≤ 5000) ∧ Bs = F := by
 refine sf_enter Tryz.func8 49 [(0, lv), (1, mv)] (fun w0 => ?_)
 refine k_fact (fun H h => (hl0.get h).len_le) (fun lA => ?_)
 refine k_sr <| sp (.bool false) ?_
 refine s_nt <| k_seq <| k_sr <| sp (iw 0) ?_
 refine s_nt <| k_block ?_
 refine k_loop (ι := Value × List Spc × Nat) (fun (xv, X, i) => M <+: X ∧ i ≤ 100 ∧ X.length ≤ M.length + 3 * i) (fun (xv, X, i) => [(0, lv), (1, xv), (5, iw (i : Int))]) (fun (xv, X, i) => own SpT xv X :: F) (fun (xv, X, i) => 100 - i) (mv, M, 0) ⟨List.prefix_refl _, by omega, by omega⟩ (sub_of rfl ⟨⟨rfl, rfl⟩, ⟨⟨rfl, rfl⟩, ⟨⟨rfl, rfl⟩, trivial⟩⟩⟩) (fun _ h => h.re [0] []) ?_
 rintro ⟨xv, X, i⟩ hi1
 replace hi1 : M <+: X ∧ i ≤ 100 ∧ X.length ≤ M.length + 3 * i := hi1
 show SK _ _ _ _ _ [(0, lv), (1, xv), (5, iw (i : Int))] _ (own SpT xv X :: F)
 refine k_seq <| k_cut (ι := Unit) (fun _ => True) (fun _ => [(0, lv), (1, xv), (5, iw (i : Int)), (14, .bool ((decide ((i : Int) < (l.length : Int))) && (decide ((i : Int) < 100))))]) (fun _ => own SpT xv X :: F) ?_ (fun _ _ => ?_)
 ·
  refine k_reg ?_
  refine sp (iw (i : Int)) ?_
  refine sp lv ?_
  refine s_lt (t_len OpT_ok Tryz.underlying22 (.zn hl0)) ?_
  refine s_lt t_cmp ?_
  refine sp (.bool (decide ((i : Int) < (l.length : Int)))) ?_
  refine s_fork 11 (decide ((i : Int) < (l.length : Int))) (fun c2 => ?_) (fun c2 => ?_)
  ·
   have p3 := of_decide_eq_true c2
   refine sp (iw (i : Int)) ?_
   refine s_lt t_cmp ?_
   refine sp (.bool (decide ((i : Int) < 100))) ?_
   refine s_nil ?_
   exact xs_cut () trivial (sub_of rfl ⟨⟨rfl, rfl⟩, ⟨⟨rfl, rfl⟩, ⟨⟨rfl, rfl⟩, ⟨⟨rfl, show Value.bool (decide ((i : Int) < 100)) = Value.bool ((decide ((i : Int) < (l.length : Int))) && (decide ((i : Int) < 100))) by first | (simp only [c2, bls]; done) | simp [c2]⟩, trivial⟩⟩⟩⟩) (fun _ h => h.re [0] [])
  ·
   have p4 := of_decide_eq_false c2
   refine s_skip ?_
   refine s_skip ?_
   refine sp (.bool false) ?_
   refine s_nil ?_
   exact xs_cut () trivial (sub_of rfl ⟨⟨rfl, rfl⟩, ⟨⟨rfl, rfl⟩, ⟨⟨rfl, rfl⟩, ⟨⟨rfl, show Value.bool false = Value.bool ((decide ((i : Int) < (l.length : Int))) && (decide ((i : Int) < 100))) by first | (simp only [c2, bls]; done) | simp [c2]⟩, trivial⟩⟩⟩⟩) (fun _ h => h.re [0] [])
 ·
  refine k_cond ((decide ((i : Int) < (l.length : Int))) && (decide ((i : Int) < 100))) (fun c5 => ?_) (fun c5 => ?_)
  ·
   obtain ⟨c6, c7⟩ := and_t c5
   have p8 := of_decide_eq_true c6
   have p9 := of_decide_eq_true c7
   refine k_st <| k_seq <| k_block ?_
   refine k_draw ?_
   refine sp xv ?_
   refine sp lv ?_
   refine sp (iw (i : Int)) ?_
   refine s_lt (t_index OpT_ok Tryz.underlying22 (.zn hl0) (i : Int) i (by omega) (by (try simp only [lnm]); omega) (by omega)) ?_
   refine sp (.pointer (some ((elemAt OpT.size lv i).add 1))) ?_
   obtain ⟨y10, hy11⟩ : ∃ y, l[i]? = some y := ⟨_, List.getElem?_eq_getElem (by (try simp only [lnm]); omega)⟩
   refine s_lt (t_loadG 1 #[iw y10.a.v.kind, iw y10.a.v.p, iw y10.a.v.q, sw y10.a.v.str, iw y10.a.v.ref, iw y10.a.obj] OpT_ok (.zn hl0) hy11) ?_
   refine sp lv ?_
   refine sp (iw (i : Int)) ?_
   refine s_lt (t_index OpT_ok Tryz.underlying22 (.zn hl0) (i : Int) i (by omega) (by (try simp only [lnm]); omega) (by omega)) ?_
   refine sp (.pointer (some ((elemAt OpT.size lv i).add 7))) ?_
   refine s_lt (t_loadG 7 #[iw y10.b.v.kind, iw y10.b.v.p, iw y10.b.v.q, sw y10.b.v.str, iw y10.b.v.ref, iw y10.b.obj] OpT_ok (.zn hl0) hy11) ?_
   refine sp lv ?_
   refine sp (iw (i : Int)) ?_
   refine s_lt (t_index OpT_ok Tryz.underlying22 (.zn hl0) (i : Int) i (by omega) (by (try simp only [lnm]); omega) (by omega)) ?_
   refine sp (.pointer (some ((elemAt OpT.size lv i).add 13))) ?_
   refine s_lt (t_loadG 13 #[iw y10.c.v.kind, iw y10.c.v.p, iw y10.c.v.q, sw y10.c.v.str, iw y10.c.v.ref, iw y10.c.obj] OpT_ok (.zn hl0) hy11) ?_
   refine s_buildSlice (e := 76) [(0, .agg #[iw y10.a.v.kind, iw y10.a.v.p, iw y10.a.v.q, sw y10.a.v.str, iw y10.a.v.ref, iw y10.a.obj]), (1, .agg #[iw y10.b.v.kind, iw y10.b.v.p, iw y10.b.v.q, sw y10.b.v.str, iw y10.b.v.ref, iw y10.b.obj]), (2, .agg #[iw y10.c.v.kind, iw y10.c.v.p, iw y10.c.v.q, sw y10.c.v.str, iw y10.c.v.ref, iw y10.c.obj])] #[iw y10.a.v.kind, iw y10.a.v.p, iw y10.a.v.q, sw y10.a.v.str, iw y10.a.v.ref, iw y10.a.obj, iw y10.b.v.kind, iw y10.b.v.p, iw y10.b.v.q, sw y10.b.v.str, iw y10.b.v.ref, iw y10.b.obj, iw y10.c.v.kind, iw y10.c.v.p, iw y10.c.v.q, sw y10.c.v.str, iw y10.c.v.ref, iw y10.c.obj] (fun g12 => ?_) (hb := by kernel_rfl)
   refine s_append (L := X) 1 SpT_ok Tryz.underlying74 (.lit 0 SpT_ok [y10.a, y10.b, y10.c]) (by show _ * 56 ≤ _; (try simp only [lnm]); omega) (by (try simp only [lnm]); omega) (fun v13 => ?_)
   refine sp v13 ?_
   refine s_nil <| x_dynS (fun _ h => by kernel_rfl) ?_
   refine xs_block ?_
   refine xs_then <| k_reg ?_
   refine sp (iw (i : Int)) ?_
   refine s_lt (t_add (i : Int) 1 (by (try simp only [lnm]); omega)) ?_
   refine sp (iw ((i : Int) + 1)) ?_
   refine s_nil ?_
   exact xs_round (v13, (X ++ [y10.a, y10.b, y10.c]), i + 1) (by show 100 - (i + 1) < 100 - i; omega) (by show _ <+: _ ∧ _; exact ⟨hi1.1.trans (List.prefix_append _ _), by show i + 1 ≤ 100; omega, by simp only [lnm]; omega⟩) (sub_of rfl ⟨⟨rfl, rfl⟩, ⟨⟨rfl, rfl⟩, ⟨⟨rfl, rfl⟩, trivial⟩⟩⟩) (fun _ h => h.re [1] [1])
  ·
   have p14 := c5
   simp only [Bool.and_eq_true, Bool.or_eq_true, Bool.and_eq_false_iff, Bool.or_eq_false_iff, Bool.not_eq_true', Bool.not_eq_false', decide_eq_true_eq, decide_eq_false_iff_not] at p14
   refine k_exit ?_
   refine xs_exit ?_
   refine xs_exit ?_
   refine xs_here ?_
   refine xs_then <| k_seq <| k_sr <| sp (iw 0) ?_
   refine s_nt <| k_block ?_
   refine k_loop (ι := Nat) (fun j => j ≤ X.length ∧ ∀ s ∈ X.take j, (s.v.str.size : Int) ≤ 5000) (fun j => [(1, xv), (6, iw (j : Int))]) (fun j => own SpT xv X :: F) (fun j => X.length - j) 0 ⟨by omega, by simp⟩ (sub_of rfl ⟨⟨rfl, rfl⟩, ⟨⟨rfl, rfl⟩, trivial⟩⟩) (fun _ h => h.re [0] []) ?_
   rintro j hi15
   show SK _ _ _ _ _ [(1, xv), (6, iw (j : Int))] _ (own SpT xv X :: F)
   refine k_seq <| k_sr <| sp (iw (j : Int)) ?_
   refine sp xv ?_
   refine s_lt (t_len SpT_ok Tryz.underlying74 (.own 0)) ?_
   refine s_lt t_cmp ?_
   refine s_nt <| k_cond (decide ((j : Int) < (X.length : Int))) (fun c16 => ?_) (fun c16 => ?_)
   ·
    have p17 := of_decide_eq_true c16
    refine k_st <| k_seq <| k_block ?_
    refine k_sr <| sp xv ?_
    refine sp (iw (j : Int)) ?_
    refine s_lt (t_index SpT_ok Tryz.underlying74 (.own 0) (j : Int) j (by omega) (by (try simp only [lnm]); omega) (by omega)) ?_
    refine sp (.pointer (some (elemAt SpT.size xv j))) ?_
    refine sp (.pointer (some ((elemAt SpT.size xv j).add 3))) ?_
    obtain ⟨y18, hy19⟩ : ∃ y, X[j]? = some y := ⟨_, List.getElem?_eq_getElem (by (try simp only [lnm]); omega)⟩
    refine s_lt (t_loadF 3 SpT_ok (.own 0) hy19) ?_
    refine s_lt (t_kern (iw (y18.v.str.size : Int))) ?_
    refine s_lt t_cmp ?_
    refine s_nt <| k_cond (decide ((5000 : Int) < (y18.v.str.size : Int))) (fun c20 => ?_) (fun c20 => ?_)
    ·
     have p21 := of_decide_eq_true c20
     refine k_sr <| sp (.bool true) ?_
     refine s_nt <| k_ret <| xs_retBlock ?_
     refine xs_ret <| xs_ret <| xs_retBlock ?_
     refine xs_ret ?_
     exact xs_fin [.bool true] F (SI.tmp 4 SI.nil) (fun _ h => h.re [] [0]) ⟨true, rfl, (fun h => by cases h), rfl⟩
    ·
     have p22 := of_decide_eq_false c20
     refine k_skip ?_
     refine xs_block ?_
     refine xs_then <| k_reg ?_
     refine sp (iw (j : Int)) ?_
     refine s_lt (t_add (j : Int) 1 (by (try simp only [lnm]); omega)) ?_
     refine sp (iw ((j : Int) + 1)) ?_
     refine s_nil ?_
     exact xs_round (j + 1) (by omega) ⟨by omega, large_step hi15.2 hy19 (by omega)⟩ (sub_of rfl ⟨⟨rfl, rfl⟩, ⟨⟨rfl, rfl⟩, trivial⟩⟩) (fun _ h => h.re [0] [])
   ·
    have p23 := of_decide_eq_false c16
    refine k_exit ?_
    refine xs_exit ?_
    refine xs_exit ?_
    refine xs_here ?_
    refine xs_then <| k_sr <| sp (.bool false) ?_
    refine s_nt <| k_ret <| xs_fin [.bool false] F (SI.tmp 4 SI.nil) (fun _ h => h.re [] [0]) ⟨false, rfl, fun _ => ?_, rfl⟩
    have hall := hi15.2; rw [List.take_of_length_le (by omega)] at hall; exact large_pre hi1.1 hall
end Go.Proofs.YtmhpcebiamkciaaGreat
end
section
set_option linter.unusedSimpArgs false
set_option linter.unusedVariables false
set_option maxRecDepth 100000
set_option maxHeartbeats 2000000
namespace Go.Proofs.YtmhpcebiamkciaaGreat
open Go.Hp Go.J Go.S
open Go.Mem (Ty KTy blk elemAt pre suf blk_pre blk_suf aget aset strK aggDesc)
open Go.Mem (adel apos aget_aset aget_adel)
def boxB : ByteArray := ⟨#[98, 111, 120]⟩
def mstep (i : Nat) (o : Opc) (s : Hst × List Vl) : Hst × List Vl :=
  if o.kind = 0 then (hmake s.1 (newO 4 0 eb []), if hmakeE s.1 = 0 then s.2 ++ [hmakeV s.1 4] else s.2) else
  if o.kind = 1 then (hdata s.1 boxB, if hdataE s.1 boxB = 0 then s.2 ++ [hdataV s.1 boxB] else s.2) else
  if o.kind = 2 then (hmake s.1 (newO 5 (i : Int) eb []), if hmakeE s.1 = 0 then s.2 ++ [hmakeV s.1 5] else s.2) else
  if o.kind = 3 then (hset s.1 (ofS s.2 o.a) (ofS s.2 o.b) (ofS s.2 o.c), s.2) else
  (hsetMeta s.1 (ofS s.2 o.a) (ofS s.2 o.b), if o.kind ≤ 2 ∧ hsetMetaE s.1 (ofS s.2 o.a) (ofS s.2 o.b) = 0 then s.2 ++ [zVl] else s.2)
def mst (l : List Opc) : Nat → Hst × List Vl
  | 0 => (hp0, [])
  | i + 1 => match l[i]? with
    | some o => mstep i o (mst l i)
    | none => mst l i
theorem mst_succ {l : List Opc} {i : Nat} {y : Opc} (h : l[i]? = some y) : mst l (i + 1) = mstep i y (mst l i) := by rw [mst, h]
theorem mstep_good {i : Nat} {o : Opc} {s : Hst × List Vl} (h1 : HInv s.1) (h2 : HSm i s.1) (h3 : s.2.length ≤ i) : HInv (mstep i o s).1 ∧ HSm (i + 1) (mstep i o s).1 ∧ (mstep i o s).2.length ≤ i + 1 := by
  have hl : ∀ (p : Prop) [Decidable p] (v : Vl), (if p then s.2 ++ [v] else s.2).length ≤ i + 1 := fun p _ v => by
    by_cases hp : p
    · rw [if_pos hp, List.length_append]; exact Nat.add_le_add_right h3 1
    · rw [if_neg hp]; exact Nat.le_succ_of_le h3
  unfold mstep
  split
  · exact ⟨hmake_inv h1 (newO_inv _ _ _ (by decide)), hmake_sm h2 rfl (by simp [newO]), hl _ _⟩
  split
  · unfold hdata
    split
    · exact ⟨h1, h2.mono (by omega), hl _ _⟩
    · exact ⟨hmake_inv h1 (newO_inv _ _ _ (by decide)), hmake_sm h2 rfl (by simp [newO]), hl _ _⟩
  split
  · exact ⟨hmake_inv h1 (newO_inv _ _ _ (by decide)), hmake_sm h2 rfl (by simp [newO]), hl _ _⟩
  split
  · exact ⟨hset_inv h1 _ _ _, hset_sm h1 h2 _ _ _, by show s.2.length ≤ _; omega⟩
  · exact ⟨hsetMeta_inv h1 _ _, hsetMeta_sm h2 _ _, hl _ _⟩
theorem mst_good (l : List Opc) : ∀ i, HInv (mst l i).1 ∧ HSm i (mst l i).1 ∧ (mst l i).2.length ≤ i
  | 0 => ⟨HInv.nil, HSm.nil, Nat.le_refl _⟩
  | i + 1 => by
    obtain ⟨h1, h2, h3⟩ := mst_good l i
    rw [mst]
    split
    · exact mstep_good h1 h2 h3
    · exact ⟨h1, h2.mono (by omega), by omega⟩
def made (l : List Opc) : Hst × List Vl := mst l (min 100 l.length)
theorem made_good (l : List Opc) : HInv (made l).1 ∧ HSm 100 (made l).1 ∧ (made l).2.length ≤ 100 := by
  obtain ⟨h1, h2, h3⟩ := mst_good l (min 100 l.length)
  exact ⟨h1, h2.mono (by omega), by unfold made; omega⟩
theorem made_s {Z : Zone} {F : List Asr} {lv : Value} {l : List Opc} (hl0 : Kn Z OpT lv l) : SF Tryz.prog 34 #[lv] Z F fun r Bs => ∃ hb gb lx, r = .tuple #[.agg #[ptrV hb, ptrV gb, lx], .bool true] ∧ Bs = hpA hb (made l).1 :: rhA gb (made l).1 :: own VlT lx (made l).2 :: F := by
 refine sf_enter Tryz.func34 152 [(0, lv)] (fun w0 => ?_)
 refine k_fact (fun H h => (hl0.get h).len_le) (fun lA => ?_)
 refine k_sr <| s_alloc (.agg #[.pointer none, .pointer none, (.slice none 0 0)]) #[.pointer none, .pointer none, (.slice none 0 0)] (fun g1 => ?_)
 refine sp (.bool false) ?_
 refine s_nr ?_
 refine s_pcall (fun _ h => hnew_s) ?_
 rintro _ _ ⟨hb2, rfl, rfl⟩
 refine s_pcall (fun _ h => rhnew_s) ?_
 rintro _ _ ⟨hb3, rfl, rfl⟩
 refine s_lt (t_kern (.agg #[pB hb2 0, pB hb3 0, (.slice none 0 0)])) ?_
 refine s_alloc (.agg #[.pointer none, .pointer none, (.slice none 0 0)]) #[.pointer none, .pointer none, (.slice none 0 0)] (fun g4 => ?_)
 refine s_store 0 #[pB hb2 0, pB hb3 0, (.slice none 0 0)] ?_
 refine s_nt <| k_seq <| k_sr <| sp (pB g4 0) ?_
 refine s_lt (t_load 0 (pB hb2 0)) ?_
 refine sp (.bool false) ?_
 refine s_nt <| k_false ?_
 refine k_st <| k_seq <| k_sr <| sp (iw 0) ?_
 refine s_nt <| k_block ?_
 refine k_mem (fun _ h => Holds.nilS (T := VlT) h) ?_
 refine k_mem (Bs := own VlT (.slice none 0 0) ((mst l 0).2) :: blkA g4 #[pB hb2 0, pB hb3 0, (.slice none 0 0)] 30 :: rhA hb3 ((mst l 0).1) :: hpA hb2 ((mst l 0).1) :: blkA g1 #[.pointer none, .pointer none, (.slice none 0 0)] 30 :: F) (fun _ h => h) ?_
 refine k_loop (ι := Value × Nat) (fun (lx, i) => i ≤ 100 ∧ i ≤ l.length) (fun (lx, i) => [(0, lv), (2, pB g1 0), (4, pB g4 0), (5, iw (i : Int))]) (fun (lx, i) => own VlT lx ((mst l i).2) :: blkA g4 #[pB hb2 0, pB hb3 0, lx] 30 :: rhA hb3 ((mst l i).1) :: hpA hb2 ((mst l i).1) :: blkA g1 #[.pointer none, .pointer none, (.slice none 0 0)] 30 :: F) (fun (lx, i) => 100 - i) ((.slice none 0 0), 0) ⟨by omega, by omega⟩ (sub_of rfl ⟨⟨rfl, rfl⟩, ⟨⟨rfl, rfl⟩, ⟨⟨rfl, rfl⟩, ⟨⟨rfl, rfl⟩, trivial⟩⟩⟩⟩) (fun _ h => h.re [0, 0, 0, 0, 0] []) ?_
 rintro ⟨lx, i⟩ hi5
 replace hi5 : i ≤ 100 ∧ i ≤ l.length := hi5
 show SK _ _ _ _ _ [(0, lv), (2, .pointer (some ⟨g1, 0, none⟩)), (4, .pointer (some ⟨g4, 0, none⟩)), (5, iw (i : Int))] _ (own VlT lx ((mst l i).2) :: blkA g4 #[.pointer (some ⟨hb2, 0, none⟩), .pointer (some ⟨hb3, 0, none⟩), lx] 30 :: rhA hb3 ((mst l i).1) :: hpA hb2 ((mst l i).1) :: blkA g1 #[.pointer none, .pointer none, (.slice none 0 0)] 30 :: F)
 obtain ⟨hinv, hsm, hll⟩ := mst_good l i
 refine k_seq <| k_cut (ι := Unit) (fun _ => True) (fun _ => [(0, lv), (2, pB g1 0), (4, pB g4 0), (5, iw (i : Int)), (27, .bool ((decide ((i : Int) < (l.length : Int))) && (decide ((i : Int) < 100))))]) (fun _ => own VlT lx ((mst l i).2) :: blkA g4 #[pB hb2 0, pB hb3 0, lx] 30 :: rhA hb3 ((mst l i).1) :: hpA hb2 ((mst l i).1) :: blkA g1 #[.pointer none, .pointer none, (.slice none 0 0)] 30 :: F) ?_ (fun _ _ => ?_)
 ·
  refine k_reg ?_
  refine sp (iw (i : Int)) ?_
  refine sp lv ?_
  refine s_lt (t_len OpT_ok Tryz.underlying22 (.zn hl0)) ?_
  refine s_lt t_cmp ?_
  refine sp (.bool (decide ((i : Int) < (l.length : Int)))) ?_
  refine s_fork 24 (decide ((i : Int) < (l.length : Int))) (fun c6 => ?_) (fun c6 => ?_)
  ·
   have p7 := of_decide_eq_true c6
   refine sp (iw (i : Int)) ?_
   refine s_lt t_cmp ?_
   refine sp (.bool (decide ((i : Int) < 100))) ?_
   refine s_nil ?_
   exact xs_cut () trivial (sub_of rfl ⟨⟨rfl, rfl⟩, ⟨⟨rfl, rfl⟩, ⟨⟨rfl, rfl⟩, ⟨⟨rfl, rfl⟩, ⟨⟨rfl, show Value.bool (decide ((i : Int) < 100)) = Value.bool ((decide ((i : Int) < (l.length : Int))) && (decide ((i : Int) < 100))) by first | (simp only [c6, bls]; done) | simp [c6]⟩, trivial⟩⟩⟩⟩⟩) (fun _ h => h.re [0, 0, 0, 0, 0] [])
  ·
   have p8 := of_decide_eq_false c6
   refine s_skip ?_
   refine s_skip ?_
   refine sp (.bool false) ?_
   refine s_nil ?_
   exact xs_cut () trivial (sub_of rfl ⟨⟨rfl, rfl⟩, ⟨⟨rfl, rfl⟩, ⟨⟨rfl, rfl⟩, ⟨⟨rfl, rfl⟩, ⟨⟨rfl, show Value.bool false = Value.bool ((decide ((i : Int) < (l.length : Int))) && (decide ((i : Int) < 100))) by first | (simp only [c6, bls]; done) | simp [c6]⟩, trivial⟩⟩⟩⟩⟩) (fun _ h => h.re [0, 0, 0, 0, 0] [])
 ·
  refine k_cond ((decide ((i : Int) < (l.length : Int))) && (decide ((i : Int) < 100))) (fun c9 => ?_) (fun c9 => ?_)
  ·
   obtain ⟨c10, c11⟩ := and_t c9
   have p12 := of_decide_eq_true c10
   have p13 := of_decide_eq_true c11
   refine k_st <| k_seq <| k_block ?_
   obtain ⟨y14, hy15⟩ : ∃ y, l[i]? = some y := ⟨_, List.getElem?_eq_getElem (by (try simp only [lnm]); omega)⟩
   refine k_seq <| k_held [own VlT lx ((mst l i).2), blkA g4 #[pB hb2 0, pB hb3 0, lx] 30, blkA g1 #[.pointer none, .pointer none, (.slice none 0 0)] 30] ?_
   refine h_l 0 rfl [0, 0, 2] (fun _ => (t_loadA 1 #[pB hb2 0, pB hb3 0, lx])) ?_
   refine hp_ 1 [0, 0, 2] lv ?_
   refine hp_ 2 [0, 0, 2] (iw (i : Int)) ?_
   refine h_l 3 rfl [0, 0, 2] (fun _ => (t_index OpT_ok Tryz.underlying22 (.zn hl0) (i : Int) i (by omega) (by (try simp only [lnm]); omega) (by omega))) ?_
   refine hp_ 4 [0, 0, 2] (.pointer (some ((elemAt OpT.size lv i).add 1))) ?_
   refine h_l 5 rfl [0, 0, 2] (fun _ => (t_loadG 1 #[iw y14.a.v.kind, iw y14.a.v.p, iw y14.a.v.q, sw y14.a.v.str, iw y14.a.v.ref, iw y14.a.obj] OpT_ok (.zn hl0) hy15)) ?_
   refine h_l 7 rfl [0, 0, 2] (fun _ => (t_loadA 1 #[pB hb2 0, pB hb3 0, lx])) ?_
   refine hp_ 8 [0, 0, 2] lv ?_
   refine hp_ 9 [0, 0, 2] (iw (i : Int)) ?_
   refine h_l 10 rfl [0, 0, 2] (fun _ => (t_index OpT_ok Tryz.underlying22 (.zn hl0) (i : Int) i (by omega) (by (try simp only [lnm]); omega) (by omega))) ?_
   refine hp_ 11 [0, 0, 2] (.pointer (some ((elemAt OpT.size lv i).add 7))) ?_
   refine h_l 12 rfl [0, 0, 2] (fun _ => (t_loadG 7 #[iw y14.b.v.kind, iw y14.b.v.p, iw y14.b.v.q, sw y14.b.v.str, iw y14.b.v.ref, iw y14.b.obj] OpT_ok (.zn hl0) hy15)) ?_
   refine h_l 14 rfl [0, 0, 2] (fun _ => (t_loadA 1 #[pB hb2 0, pB hb3 0, lx])) ?_
   refine hp_ 15 [0, 0, 2] lv ?_
   refine hp_ 16 [0, 0, 2] (iw (i : Int)) ?_
   refine h_l 17 rfl [0, 0, 2] (fun _ => (t_index OpT_ok Tryz.underlying22 (.zn hl0) (i : Int) i (by omega) (by (try simp only [lnm]); omega) (by omega))) ?_
   refine hp_ 18 [0, 0, 2] (.pointer (some ((elemAt OpT.size lv i).add 13))) ?_
   refine h_l 19 rfl [0, 0, 2] (fun _ => (t_loadG 13 #[iw y14.c.v.kind, iw y14.c.v.p, iw y14.c.v.q, sw y14.c.v.str, iw y14.c.v.ref, iw y14.c.obj] OpT_ok (.zn hl0) hy15)) ?_
   refine h_join (ι := Nat × Nat × Nat) 3 #[true, true, true, true, true, true, true, true, true, true, true, true, true, true, true, true, true, true, true, true, true, true, true, true, false, false, false] (fun (g16, g17, g18) => [(0, lv), (2, pB g1 0), (4, pB g4 0), (5, iw (i : Int)), (6, pB g16 0), (7, pB g17 0), (8, pB g18 0), (36, .agg (vc (ofS ((mst l i).2) y14.a))), (43, .agg (vc (ofS ((mst l i).2) y14.b))), (50, .agg (vc (ofS ((mst l i).2) y14.c)))]) (fun (g16, g17, g18) => blkA g18 zc 71 :: blkA g17 zc 71 :: blkA g16 zc 71 :: own VlT lx ((mst l i).2) :: blkA g4 #[pB hb2 0, pB hb3 0, lx] 30 :: rhA hb3 ((mst l i).1) :: hpA hb2 ((mst l i).1) :: blkA g1 #[.pointer none, .pointer none, (.slice none 0 0)] 30 :: F) ?_ (fun hj64 => ?_)
   ·
    rintro ⟨g16, g17, g18⟩
    try dsimp only
    refine h_stepS 24 ?_
    refine s_store 2 (vc (ofS ((mst l i).2) y14.a)) ?_
    refine s_nil (xs_held [3, 3, 5] ?_)
    refine h_stepS 25 ?_
    refine s_store 1 (vc (ofS ((mst l i).2) y14.b)) ?_
    refine s_nil (xs_held [3, 3, 5] ?_)
    refine h_stepS 26 ?_
    refine s_store 0 (vc (ofS ((mst l i).2) y14.c)) ?_
    refine s_nil (xs_held [3, 3, 5] ?_)
    refine h_doneS ?_
    refine xs_then <| k_sr <| s_lt (t_kern (.agg zc)) ?_
    refine s_lt (t_kern (.agg zc)) ?_
    refine s_alloc (.agg zc) zc (fun g65 => ?_)
    refine s_alloc (.agg zc) zc (fun g66 => ?_)
    refine s_store 1 zc ?_
    refine s_store 0 zc ?_
    refine s_nr ?_
    refine sp (iw 0) ?_
    refine sp (iw 0) ?_
    refine s_nt <| k_seq <| k_sr <| sp lv ?_
    refine sp (iw (i : Int)) ?_
    refine s_lt (t_index OpT_ok Tryz.underlying22 (.zn hl0) (i : Int) i (by omega) (by (try simp only [lnm]); omega) (by omega)) ?_
    refine sp (.pointer (some (elemAt OpT.size lv i))) ?_
    refine s_lt (t_loadF 0 OpT_ok (.zn hl0) hy15) ?_
    refine s_nt <| k_block ?_
    refine k_sr <| s_lt t_cmp ?_
    refine sp (.bool (decide (y14.kind = 0))) ?_
    refine s_nt <| k_cond (decide (y14.kind = 0)) (fun c67 => ?_) (fun c67 => ?_)
    ·
     have p68 := of_decide_eq_true c67
     refine k_sr <| sp (pB g4 0) ?_
     refine s_lt (t_load 6 (pB hb2 0)) ?_
     refine s_call [8] (hnewtable_s (st := (mst l i).1) (by have := hsm.len; omega)) ?_
     rintro _ _ ⟨rfl, rfl⟩
     refine sp (.tuple #[.agg (vc (hmakeV ((mst l i).1) 4)), iw (hmakeE ((mst l i).1))]) ?_
     refine sp (.agg (vc (hmakeV ((mst l i).1) 4))) ?_
     refine sp (iw (hmakeE ((mst l i).1))) ?_
     refine s_store 2 (vc (hmakeV ((mst l i).1) 4)) ?_
     refine sp (iw (hmakeE ((mst l i).1))) ?_
     refine s_nt <| k_reg ?_
     refine sp (pB g4 1) ?_
     refine s_lt (t_load 7 (pB hb3 0)) ?_
     refine s_call [8] (rhnewtable_s (st := (mst l i).1) (by have := hsm.len; omega)) ?_
     rintro _ _ ⟨rfl, rfl⟩
     refine sp (.tuple #[.agg (vc (hmakeV ((mst l i).1) 4)), iw (hmakeE ((mst l i).1))]) ?_
     refine sp (.agg (vc (hmakeV ((mst l i).1) 4))) ?_
     refine sp (iw (hmakeE ((mst l i).1))) ?_
     refine s_store 2 (vc (hmakeV ((mst l i).1) 4)) ?_
     refine sp (iw (hmakeE ((mst l i).1))) ?_
     refine s_nil <| xs_block ?_
     refine xs_then <| k_seq <| k_sr <| s_lt (t_loadA 3 (vc (hmakeV ((mst l i).1) 4))) ?_
     refine s_lt (t_loadA 2 (vc (hmakeV ((mst l i).1) 4))) ?_
     refine s_lt (Lt.to (t_eqS (fun w => (eqVlT (hmakeV ((mst l i).1) 4) (hmakeV ((mst l i).1) 4) w).2)) (congrArg Value.bool ((congrArg Bool.not (decide_eq_true rfl : (decide ((hmakeV ((mst l i).1) 4) = (hmakeV ((mst l i).1) 4))) = true)).trans rfl : (!(decide ((hmakeV ((mst l i).1) 4) = (hmakeV ((mst l i).1) 4)))) = false))) ?_
     refine sp (.bool false) ?_
     refine sp (iw (hmakeE ((mst l i).1))) ?_
     refine sp (iw (hmakeE ((mst l i).1))) ?_
     refine s_lt (Lt.to t_cmp (congrArg Value.bool (decide_eq_false (fun h => h rfl) : (decide ((hmakeE ((mst l i).1)) ≠ (hmakeE ((mst l i).1)))) = false))) ?_
     refine sp (.bool false) ?_
     refine s_nt <| k_false ?_
     refine k_st <| k_sr <| sp lv ?_
     refine sp (iw (i : Int)) ?_
     refine s_lt (t_index OpT_ok Tryz.underlying22 (.zn hl0) (i : Int) i (by omega) (by (try simp only [lnm]); omega) (by omega)) ?_
     refine sp (.pointer (some (elemAt OpT.size lv i))) ?_
     refine s_lt (t_loadF 0 OpT_ok (.zn hl0) hy15) ?_
     refine s_lt (Lt.to t_cmp (congrArg Value.bool (decide_eq_true (by have := of_decide_eq_true c67; omega) : (decide (y14.kind ≤ 2)) = true))) ?_
     refine sp (.bool true) ?_
     refine sp (iw (hmakeE ((mst l i).1))) ?_
     refine s_lt t_cmp ?_
     refine sp (.bool (decide ((hmakeE ((mst l i).1)) = 0))) ?_
     refine s_nt <| k_cond (decide ((hmakeE ((mst l i).1)) = 0)) (fun c69 => ?_) (fun c69 => ?_)
     ·
      have p70 := of_decide_eq_true c69
      refine k_reg ?_
      refine sp (pB g4 2) ?_
      refine s_lt (t_load 8 lx) ?_
      refine s_lt (t_loadA 3 (vc (hmakeV ((mst l i).1) 4))) ?_
      refine s_buildSlice (e := 71) [(0, .agg (vc (hmakeV ((mst l i).1) 4)))] (vc (hmakeV ((mst l i).1) 4)) (fun g71 => ?_) (hb := by kernel_rfl)
      refine s_append (L := (mst l i).2) 8 VlT_ok Tryz.underlying28 (.lit 0 VlT_ok [(hmakeV ((mst l i).1) 4)]) (by show _ * 48 ≤ _; (try simp only [lnm]); omega) (by (try simp only [lnm]); omega) (fun v72 => ?_)
      refine sp (pB g4 2) ?_
      refine s_fact (fun H h => ((Acc.own (T := VlT) (L := ((mst l i).2 ++ [(hmakeV ((mst l i).1) 4)])) 8 rfl) H h).form) (fun hf73 => ?_)
      refine s_store (u := v72) (m := 1) 9 #[pB hb2 0, pB hb3 0, v72] ?_ (hm := by (obtain ⟨_, _, e⟩ := hf73; rw [e]; rfl)) (h1 := by (obtain ⟨_, _, e⟩ := hf73; rw [e]; rfl)) (ha' := by (obtain ⟨_, _, e⟩ := hf73; rw [e]; rfl))
      refine s_nil <| xs_block ?_
      refine xs_then <| k_reg ?_
      refine sp (iw (i : Int)) ?_
      refine s_lt (t_add (i : Int) 1 (by (try simp only [lnm]); omega)) ?_
      refine sp (iw ((i : Int) + 1)) ?_
      refine s_nil ?_
      have hms := mst_succ hy15
      have h1 : (hmake ((mst l i).1) (newO 4 0 eb [])) = (mst l (i + 1)).1 := by rw [hms]; unfold mstep; simp [of_decide_eq_true c67, boxB]
      have h2 : ((mst l i).2 ++ [(hmakeV ((mst l i).1) 4)]) = (mst l (i + 1)).2 := by rw [hms]; unfold mstep; simp_all [boxB]
      refine xs_mem (Bs := blkA g71 (vc (hmakeV ((mst l i).1) 4)) 71 :: rhA hb3 ((mst l (i + 1)).1) :: hpA hb2 ((mst l (i + 1)).1) :: blkA g66 (vc (hmakeV ((mst l i).1) 4)) 71 :: blkA g65 (vc (hmakeV ((mst l i).1) 4)) 71 :: blkA g18 (vc (ofS ((mst l i).2) y14.c)) 71 :: blkA g17 (vc (ofS ((mst l i).2) y14.b)) 71 :: blkA g16 (vc (ofS ((mst l i).2) y14.a)) 71 :: own VlT v72 ((mst l (i + 1)).2) :: blkA g4 #[pB hb2 0, pB hb3 0, v72] 30 :: blkA g1 #[.pointer none, .pointer none, (.slice none 0 0)] 30 :: F) (fun _ h => by rw [← h1, ← h2]; exact h) ?_
      exact xs_round (v72, i + 1) (by show 100 - (i + 1) < 100 - i; omega) (by show i + 1 ≤ 100 ∧ i + 1 ≤ l.length; omega) (sub_of rfl ⟨⟨rfl, rfl⟩, ⟨⟨rfl, rfl⟩, ⟨⟨rfl, rfl⟩, ⟨⟨rfl, rfl⟩, trivial⟩⟩⟩⟩) (fun _ h => h.re [8, 8, 1, 1, 6] [5, 5, 5, 5, 5, 5])
     ·
      have p74 := of_decide_eq_false c69
      refine k_skip ?_
      refine xs_block ?_
      refine xs_then <| k_reg ?_
      refine sp (iw (i : Int)) ?_
      refine s_lt (t_add (i : Int) 1 (by (try simp only [lnm]); omega)) ?_
      refine sp (iw ((i : Int) + 1)) ?_
      refine s_nil ?_
      have hms := mst_succ hy15
      have h1 : (hmake ((mst l i).1) (newO 4 0 eb [])) = (mst l (i + 1)).1 := by rw [hms]; unfold mstep; simp [of_decide_eq_true c67, boxB]
      have h2 : (mst l i).2 = (mst l (i + 1)).2 := by rw [hms]; unfold mstep; simp_all [boxB]
      refine xs_mem (Bs := rhA hb3 ((mst l (i + 1)).1) :: hpA hb2 ((mst l (i + 1)).1) :: blkA g66 (vc (hmakeV ((mst l i).1) 4)) 71 :: blkA g65 (vc (hmakeV ((mst l i).1) 4)) 71 :: blkA g18 (vc (ofS ((mst l i).2) y14.c)) 71 :: blkA g17 (vc (ofS ((mst l i).2) y14.b)) 71 :: blkA g16 (vc (ofS ((mst l i).2) y14.a)) 71 :: own VlT lx ((mst l (i + 1)).2) :: blkA g4 #[pB hb2 0, pB hb3 0, lx] 30 :: blkA g1 #[.pointer none, .pointer none, (.slice none 0 0)] 30 :: F) (fun _ h => by rw [← h1, ← h2]; exact h) ?_
      exact xs_round (lx, i + 1) (by show 100 - (i + 1) < 100 - i; omega) (by show i + 1 ≤ 100 ∧ i + 1 ≤ l.length; omega) (sub_of rfl ⟨⟨rfl, rfl⟩, ⟨⟨rfl, rfl⟩, ⟨⟨rfl, rfl⟩, ⟨⟨rfl, rfl⟩, trivial⟩⟩⟩⟩) (fun _ h => h.re [7, 7, 0, 0, 5] [5, 5, 5, 5, 5])
    ·
     have p75 := of_decide_eq_false c67
     refine k_sr <| s_lt t_cmp ?_
     refine sp (.bool (decide (y14.kind = 1))) ?_
     refine s_nt <| k_cond (decide (y14.kind = 1)) (fun c76 => ?_) (fun c76 => ?_)
     ·
      have p77 := of_decide_eq_true c76
      refine k_sr <| sp (pB g4 0) ?_
      refine s_lt (t_load 6 (pB hb2 0)) ?_
      refine s_call [8] (hnewdata_s (st := (mst l i).1) (by have := hsm.len; omega) ⟨#[98, 111, 120]⟩) ?_
      rintro _ _ ⟨rfl, rfl⟩
      refine sp (.tuple #[.agg (vc (hdataV ((mst l i).1) ⟨#[98, 111, 120]⟩)), iw (hdataE ((mst l i).1) ⟨#[98, 111, 120]⟩)]) ?_
      refine sp (.agg (vc (hdataV ((mst l i).1) ⟨#[98, 111, 120]⟩))) ?_
      refine sp (iw (hdataE ((mst l i).1) ⟨#[98, 111, 120]⟩)) ?_
      refine s_store 2 (vc (hdataV ((mst l i).1) ⟨#[98, 111, 120]⟩)) ?_
      refine sp (iw (hdataE ((mst l i).1) ⟨#[98, 111, 120]⟩)) ?_
      refine s_nt <| k_reg ?_
      refine sp (pB g4 1) ?_
      refine s_lt (t_load 7 (pB hb3 0)) ?_
      refine s_call [8] (rhnewdata_s (st := (mst l i).1) (by have := hsm.len; omega) ⟨#[98, 111, 120]⟩) ?_
      rintro _ _ ⟨rfl, rfl⟩
      refine sp (.tuple #[.agg (vc (hdataV ((mst l i).1) ⟨#[98, 111, 120]⟩)), iw (hdataE ((mst l i).1) ⟨#[98, 111, 120]⟩)]) ?_
      refine sp (.agg (vc (hdataV ((mst l i).1) ⟨#[98, 111, 120]⟩))) ?_
      refine sp (iw (hdataE ((mst l i).1) ⟨#[98, 111, 120]⟩)) ?_
      refine s_store 2 (vc (hdataV ((mst l i).1) ⟨#[98, 111, 120]⟩)) ?_
      refine sp (iw (hdataE ((mst l i).1) ⟨#[98, 111, 120]⟩)) ?_
      refine s_nil <| xs_block ?_
      refine xs_then <| k_seq <| k_sr <| s_lt (t_loadA 3 (vc (hdataV ((mst l i).1) ⟨#[98, 111, 120]⟩))) ?_
      refine s_lt (t_loadA 2 (vc (hdataV ((mst l i).1) ⟨#[98, 111, 120]⟩))) ?_
      refine s_lt (Lt.to (t_eqS (fun w => (eqVlT (hdataV ((mst l i).1) ⟨#[98, 111, 120]⟩) (hdataV ((mst l i).1) ⟨#[98, 111, 120]⟩) w).2)) (congrArg Value.bool ((congrArg Bool.not (decide_eq_true rfl : (decide ((hdataV ((mst l i).1) ⟨#[98, 111, 120]⟩) = (hdataV ((mst l i).1) ⟨#[98, 111, 120]⟩))) = true)).trans rfl : (!(decide ((hdataV ((mst l i).1) ⟨#[98, 111, 120]⟩) = (hdataV ((mst l i).1) ⟨#[98, 111, 120]⟩)))) = false))) ?_
      refine sp (.bool false) ?_
      refine sp (iw (hdataE ((mst l i).1) ⟨#[98, 111, 120]⟩)) ?_
      refine sp (iw (hdataE ((mst l i).1) ⟨#[98, 111, 120]⟩)) ?_
      refine s_lt (Lt.to t_cmp (congrArg Value.bool (decide_eq_false (fun h => h rfl) : (decide ((hdataE ((mst l i).1) ⟨#[98, 111, 120]⟩) ≠ (hdataE ((mst l i).1) ⟨#[98, 111, 120]⟩))) = false))) ?_
      refine sp (.bool false) ?_
      refine s_nt <| k_false ?_
      refine k_st <| k_sr <| sp lv ?_
      refine sp (iw (i : Int)) ?_
      refine s_lt (t_index OpT_ok Tryz.underlying22 (.zn hl0) (i : Int) i (by omega) (by (try simp only [lnm]); omega) (by omega)) ?_
      refine sp (.pointer (some (elemAt OpT.size lv i))) ?_
      refine s_lt (t_loadF 0 OpT_ok (.zn hl0) hy15) ?_
      refine s_lt (Lt.to t_cmp (congrArg Value.bool (decide_eq_true (by have := of_decide_eq_true c76; omega) : (decide (y14.kind ≤ 2)) = true))) ?_
      refine sp (.bool true) ?_
      refine sp (iw (hdataE ((mst l i).1) ⟨#[98, 111, 120]⟩)) ?_
      refine s_lt t_cmp ?_
      refine sp (.bool (decide ((hdataE ((mst l i).1) ⟨#[98, 111, 120]⟩) = 0))) ?_
      refine s_nt <| k_cond (decide ((hdataE ((mst l i).1) ⟨#[98, 111, 120]⟩) = 0)) (fun c78 => ?_) (fun c78 => ?_)
      ·
       have p79 := of_decide_eq_true c78
       refine k_reg ?_
       refine sp (pB g4 2) ?_
       refine s_lt (t_load 8 lx) ?_
       refine s_lt (t_loadA 3 (vc (hdataV ((mst l i).1) ⟨#[98, 111, 120]⟩))) ?_
       refine s_buildSlice (e := 71) [(0, .agg (vc (hdataV ((mst l i).1) ⟨#[98, 111, 120]⟩)))] (vc (hdataV ((mst l i).1) ⟨#[98, 111, 120]⟩)) (fun g80 => ?_) (hb := by kernel_rfl)
       refine s_append (L := (mst l i).2) 8 VlT_ok Tryz.underlying28 (.lit 0 VlT_ok [(hdataV ((mst l i).1) ⟨#[98, 111, 120]⟩)]) (by show _ * 48 ≤ _; (try simp only [lnm]); omega) (by (try simp only [lnm]); omega) (fun v81 => ?_)
       refine sp (pB g4 2) ?_
       refine s_fact (fun H h => ((Acc.own (T := VlT) (L := ((mst l i).2 ++ [(hdataV ((mst l i).1) ⟨#[98, 111, 120]⟩)])) 8 rfl) H h).form) (fun hf82 => ?_)
       refine s_store (u := v81) (m := 1) 9 #[pB hb2 0, pB hb3 0, v81] ?_ (hm := by (obtain ⟨_, _, e⟩ := hf82; rw [e]; rfl)) (h1 := by (obtain ⟨_, _, e⟩ := hf82; rw [e]; rfl)) (ha' := by (obtain ⟨_, _, e⟩ := hf82; rw [e]; rfl))
       refine s_nil <| xs_block ?_
       refine xs_then <| k_reg ?_
       refine sp (iw (i : Int)) ?_
       refine s_lt (t_add (i : Int) 1 (by (try simp only [lnm]); omega)) ?_
       refine sp (iw ((i : Int) + 1)) ?_
       refine s_nil ?_
       have hms := mst_succ hy15
       have h1 : (hdata ((mst l i).1) ⟨#[98, 111, 120]⟩) = (mst l (i + 1)).1 := by rw [hms]; unfold mstep; simp [of_decide_eq_false c67, of_decide_eq_true c76, boxB]
       have h2 : ((mst l i).2 ++ [(hdataV ((mst l i).1) ⟨#[98, 111, 120]⟩)]) = (mst l (i + 1)).2 := by rw [hms]; unfold mstep; simp_all [boxB]
       refine xs_mem (Bs := blkA g80 (vc (hdataV ((mst l i).1) ⟨#[98, 111, 120]⟩)) 71 :: rhA hb3 ((mst l (i + 1)).1) :: hpA hb2 ((mst l (i + 1)).1) :: blkA g66 (vc (hdataV ((mst l i).1) ⟨#[98, 111, 120]⟩)) 71 :: blkA g65 (vc (hdataV ((mst l i).1) ⟨#[98, 111, 120]⟩)) 71 :: blkA g18 (vc (ofS ((mst l i).2) y14.c)) 71 :: blkA g17 (vc (ofS ((mst l i).2) y14.b)) 71 :: blkA g16 (vc (ofS ((mst l i).2) y14.a)) 71 :: own VlT v81 ((mst l (i + 1)).2) :: blkA g4 #[pB hb2 0, pB hb3 0, v81] 30 :: blkA g1 #[.pointer none, .pointer none, (.slice none 0 0)] 30 :: F) (fun _ h => by rw [← h1, ← h2]; exact h) ?_
       exact xs_round (v81, i + 1) (by show 100 - (i + 1) < 100 - i; omega) (by show i + 1 ≤ 100 ∧ i + 1 ≤ l.length; omega) (sub_of rfl ⟨⟨rfl, rfl⟩, ⟨⟨rfl, rfl⟩, ⟨⟨rfl, rfl⟩, ⟨⟨rfl, rfl⟩, trivial⟩⟩⟩⟩) (fun _ h => h.re [8, 8, 1, 1, 6] [5, 5, 5, 5, 5, 5])
      ·
       have p83 := of_decide_eq_false c78
       refine k_skip ?_
       refine xs_block ?_
       refine xs_then <| k_reg ?_
       refine sp (iw (i : Int)) ?_
       refine s_lt (t_add (i : Int) 1 (by (try simp only [lnm]); omega)) ?_
       refine sp (iw ((i : Int) + 1)) ?_
       refine s_nil ?_
       have hms := mst_succ hy15
       have h1 : (hdata ((mst l i).1) ⟨#[98, 111, 120]⟩) = (mst l (i + 1)).1 := by rw [hms]; unfold mstep; simp [of_decide_eq_false c67, of_decide_eq_true c76, boxB]
       have h2 : (mst l i).2 = (mst l (i + 1)).2 := by rw [hms]; unfold mstep; simp_all [boxB]
       refine xs_mem (Bs := rhA hb3 ((mst l (i + 1)).1) :: hpA hb2 ((mst l (i + 1)).1) :: blkA g66 (vc (hdataV ((mst l i).1) ⟨#[98, 111, 120]⟩)) 71 :: blkA g65 (vc (hdataV ((mst l i).1) ⟨#[98, 111, 120]⟩)) 71 :: blkA g18 (vc (ofS ((mst l i).2) y14.c)) 71 :: blkA g17 (vc (ofS ((mst l i).2) y14.b)) 71 :: blkA g16 (vc (ofS ((mst l i).2) y14.a)) 71 :: own VlT lx ((mst l (i + 1)).2) :: blkA g4 #[pB hb2 0, pB hb3 0, lx] 30 :: blkA g1 #[.pointer none, .pointer none, (.slice none 0 0)] 30 :: F) (fun _ h => by rw [← h1, ← h2]; exact h) ?_
       exact xs_round (lx, i + 1) (by show 100 - (i + 1) < 100 - i; omega) (by show i + 1 ≤ 100 ∧ i + 1 ≤ l.length; omega) (sub_of rfl ⟨⟨rfl, rfl⟩, ⟨⟨rfl, rfl⟩, ⟨⟨rfl, rfl⟩, ⟨⟨rfl, rfl⟩, trivial⟩⟩⟩⟩) (fun _ h => h.re [7, 7, 0, 0, 5] [5, 5, 5, 5, 5])
     ·
      have p84 := of_decide_eq_false c76
      refine k_sr <| s_lt t_cmp ?_
      refine sp (.bool (decide (y14.kind = 2))) ?_
      refine s_nt <| k_cond (decide (y14.kind = 2)) (fun c85 => ?_) (fun c85 => ?_)
      ·
       have p86 := of_decide_eq_true c85
       refine k_sr <| sp (pB g4 0) ?_
       refine s_lt (t_load 6 (pB hb2 0)) ?_
       refine sp (iw (i : Int)) ?_
       refine s_call [8] (hnewfunc_s (st := (mst l i).1) (by have := hsm.len; omega) (i : Int)) ?_
       rintro _ _ ⟨rfl, rfl⟩
       refine sp (.tuple #[.agg (vc (hmakeV ((mst l i).1) 5)), iw (hmakeE ((mst l i).1))]) ?_
       refine sp (.agg (vc (hmakeV ((mst l i).1) 5))) ?_
       refine sp (iw (hmakeE ((mst l i).1))) ?_
       refine s_store 2 (vc (hmakeV ((mst l i).1) 5)) ?_
       refine sp (iw (hmakeE ((mst l i).1))) ?_
       refine s_nt <| k_reg ?_
       refine sp (pB g4 1) ?_
       refine s_lt (t_load 7 (pB hb3 0)) ?_
       refine sp (iw (i : Int)) ?_
       refine s_call [8] (rhnewfunc_s (st := (mst l i).1) (by have := hsm.len; omega) (i : Int)) ?_
       rintro _ _ ⟨rfl, rfl⟩
       refine sp (.tuple #[.agg (vc (hmakeV ((mst l i).1) 5)), iw (hmakeE ((mst l i).1))]) ?_
       refine sp (.agg (vc (hmakeV ((mst l i).1) 5))) ?_
       refine sp (iw (hmakeE ((mst l i).1))) ?_
       refine s_store 2 (vc (hmakeV ((mst l i).1) 5)) ?_
       refine sp (iw (hmakeE ((mst l i).1))) ?_
       refine s_nil <| xs_block ?_
       refine xs_then <| k_seq <| k_sr <| s_lt (t_loadA 3 (vc (hmakeV ((mst l i).1) 5))) ?_
       refine s_lt (t_loadA 2 (vc (hmakeV ((mst l i).1) 5))) ?_
       refine s_lt (Lt.to (t_eqS (fun w => (eqVlT (hmakeV ((mst l i).1) 5) (hmakeV ((mst l i).1) 5) w).2)) (congrArg Value.bool ((congrArg Bool.not (decide_eq_true rfl : (decide ((hmakeV ((mst l i).1) 5) = (hmakeV ((mst l i).1) 5))) = true)).trans rfl : (!(decide ((hmakeV ((mst l i).1) 5) = (hmakeV ((mst l i).1) 5)))) = false))) ?_
       refine sp (.bool false) ?_
       refine sp (iw (hmakeE ((mst l i).1))) ?_
       refine sp (iw (hmakeE ((mst l i).1))) ?_
       refine s_lt (Lt.to t_cmp (congrArg Value.bool (decide_eq_false (fun h => h rfl) : (decide ((hmakeE ((mst l i).1)) ≠ (hmakeE ((mst l i).1)))) = false))) ?_
       refine sp (.bool false) ?_
       refine s_nt <| k_false ?_
       refine k_st <| k_sr <| sp lv ?_
       refine sp (iw (i : Int)) ?_
       refine s_lt (t_index OpT_ok Tryz.underlying22 (.zn hl0) (i : Int) i (by omega) (by (try simp only [lnm]); omega) (by omega)) ?_
       refine sp (.pointer (some (elemAt OpT.size lv i))) ?_
       refine s_lt (t_loadF 0 OpT_ok (.zn hl0) hy15) ?_
       refine s_lt (Lt.to t_cmp (congrArg Value.bool (decide_eq_true (by have := of_decide_eq_true c85; omega) : (decide (y14.kind ≤ 2)) = true))) ?_
       refine sp (.bool true) ?_
       refine sp (iw (hmakeE ((mst l i).1))) ?_
       refine s_lt t_cmp ?_
       refine sp (.bool (decide ((hmakeE ((mst l i).1)) = 0))) ?_
       refine s_nt <| k_cond (decide ((hmakeE ((mst l i).1)) = 0)) (fun c87 => ?_) (fun c87 => ?_)
       ·
        have p88 := of_decide_eq_true c87
        refine k_reg ?_
        refine sp (pB g4 2) ?_
        refine s_lt (t_load 8 lx) ?_
        refine s_lt (t_loadA 3 (vc (hmakeV ((mst l i).1) 5))) ?_
        refine s_buildSlice (e := 71) [(0, .agg (vc (hmakeV ((mst l i).1) 5)))] (vc (hmakeV ((mst l i).1) 5)) (fun g89 => ?_) (hb := by kernel_rfl)
        refine s_append (L := (mst l i).2) 8 VlT_ok Tryz.underlying28 (.lit 0 VlT_ok [(hmakeV ((mst l i).1) 5)]) (by show _ * 48 ≤ _; (try simp only [lnm]); omega) (by (try simp only [lnm]); omega) (fun v90 => ?_)
        refine sp (pB g4 2) ?_
        refine s_fact (fun H h => ((Acc.own (T := VlT) (L := ((mst l i).2 ++ [(hmakeV ((mst l i).1) 5)])) 8 rfl) H h).form) (fun hf91 => ?_)
        refine s_store (u := v90) (m := 1) 9 #[pB hb2 0, pB hb3 0, v90] ?_ (hm := by (obtain ⟨_, _, e⟩ := hf91; rw [e]; rfl)) (h1 := by (obtain ⟨_, _, e⟩ := hf91; rw [e]; rfl)) (ha' := by (obtain ⟨_, _, e⟩ := hf91; rw [e]; rfl))
        refine s_nil <| xs_block ?_
        refine xs_then <| k_reg ?_
        refine sp (iw (i : Int)) ?_
        refine s_lt (t_add (i : Int) 1 (by (try simp only [lnm]); omega)) ?_
        refine sp (iw ((i : Int) + 1)) ?_
        refine s_nil ?_
        have hms := mst_succ hy15
        have h1 : (hmake ((mst l i).1) (newO 5 (i : Int) eb [])) = (mst l (i + 1)).1 := by rw [hms]; unfold mstep; simp [of_decide_eq_false c67, of_decide_eq_false c76, of_decide_eq_true c85, boxB]
        have h2 : ((mst l i).2 ++ [(hmakeV ((mst l i).1) 5)]) = (mst l (i + 1)).2 := by rw [hms]; unfold mstep; simp_all [boxB]
        refine xs_mem (Bs := blkA g89 (vc (hmakeV ((mst l i).1) 5)) 71 :: rhA hb3 ((mst l (i + 1)).1) :: hpA hb2 ((mst l (i + 1)).1) :: blkA g66 (vc (hmakeV ((mst l i).1) 5)) 71 :: blkA g65 (vc (hmakeV ((mst l i).1) 5)) 71 :: blkA g18 (vc (ofS ((mst l i).2) y14.c)) 71 :: blkA g17 (vc (ofS ((mst l i).2) y14.b)) 71 :: blkA g16 (vc (ofS ((mst l i).2) y14.a)) 71 :: own VlT v90 ((mst l (i + 1)).2) :: blkA g4 #[pB hb2 0, pB hb3 0, v90] 30 :: blkA g1 #[.pointer none, .pointer none, (.slice none 0 0)] 30 :: F) (fun _ h => by rw [← h1, ← h2]; exact h) ?_
        exact xs_round (v90, i + 1) (by show 100 - (i + 1) < 100 - i; omega) (by show i + 1 ≤ 100 ∧ i + 1 ≤ l.length; omega) (sub_of rfl ⟨⟨rfl, rfl⟩, ⟨⟨rfl, rfl⟩, ⟨⟨rfl, rfl⟩, ⟨⟨rfl, rfl⟩, trivial⟩⟩⟩⟩) (fun _ h => h.re [8, 8, 1, 1, 6] [5, 5, 5, 5, 5, 5])
       ·
        have p92 := of_decide_eq_false c87
        refine k_skip ?_
        refine xs_block ?_
        refine xs_then <| k_reg ?_
        refine sp (iw (i : Int)) ?_
        refine s_lt (t_add (i : Int) 1 (by (try simp only [lnm]); omega)) ?_
        refine sp (iw ((i : Int) + 1)) ?_
        refine s_nil ?_
        have hms := mst_succ hy15
        have h1 : (hmake ((mst l i).1) (newO 5 (i : Int) eb [])) = (mst l (i + 1)).1 := by rw [hms]; unfold mstep; simp [of_decide_eq_false c67, of_decide_eq_false c76, of_decide_eq_true c85, boxB]
        have h2 : (mst l i).2 = (mst l (i + 1)).2 := by rw [hms]; unfold mstep; simp_all [boxB]
        refine xs_mem (Bs := rhA hb3 ((mst l (i + 1)).1) :: hpA hb2 ((mst l (i + 1)).1) :: blkA g66 (vc (hmakeV ((mst l i).1) 5)) 71 :: blkA g65 (vc (hmakeV ((mst l i).1) 5)) 71 :: blkA g18 (vc (ofS ((mst l i).2) y14.c)) 71 :: blkA g17 (vc (ofS ((mst l i).2) y14.b)) 71 :: blkA g16 (vc (ofS ((mst l i).2) y14.a)) 71 :: own VlT lx ((mst l (i + 1)).2) :: blkA g4 #[pB hb2 0, pB hb3 0, lx] 30 :: blkA g1 #[.pointer none, .pointer none, (.slice none 0 0)] 30 :: F) (fun _ h => by rw [← h1, ← h2]; exact h) ?_
        exact xs_round (lx, i + 1) (by show 100 - (i + 1) < 100 - i; omega) (by show i + 1 ≤ 100 ∧ i + 1 ≤ l.length; omega) (sub_of rfl ⟨⟨rfl, rfl⟩, ⟨⟨rfl, rfl⟩, ⟨⟨rfl, rfl⟩, ⟨⟨rfl, rfl⟩, trivial⟩⟩⟩⟩) (fun _ h => h.re [7, 7, 0, 0, 5] [5, 5, 5, 5, 5])
      ·
       have p93 := of_decide_eq_false c85
       refine k_sr <| s_lt t_cmp ?_
       refine sp (.bool (decide (y14.kind = 3))) ?_
       refine s_nt <| k_cond (decide (y14.kind = 3)) (fun c94 => ?_) (fun c94 => ?_)
       ·
        have p95 := of_decide_eq_true c94
        refine k_held [blkA g66 zc 71, blkA g65 zc 71, blkA g18 (vc (ofS ((mst l i).2) y14.c)) 71, blkA g17 (vc (ofS ((mst l i).2) y14.b)) 71, blkA g16 (vc (ofS ((mst l i).2) y14.a)) 71, own VlT lx ((mst l i).2), blkA g4 #[pB hb2 0, pB hb3 0, lx] 30, blkA g1 #[.pointer none, .pointer none, (.slice none 0 0)] 30] ?_
        refine hp_ 0 [0, 0, 0, 0, 0, 0, 0, 2] (pB g4 0) ?_
        refine h_l 1 rfl [0, 0, 0, 0, 0, 0, 0, 2] (fun _ => (t_load 6 (pB hb2 0))) ?_
        refine h_l 2 rfl [0, 0, 0, 0, 0, 0, 0, 2] (fun _ => (t_loadA 4 (vc (ofS ((mst l i).2) y14.a)))) ?_
        refine h_l 3 rfl [0, 0, 0, 0, 0, 0, 0, 2] (fun _ => (t_loadA 3 (vc (ofS ((mst l i).2) y14.b)))) ?_
        refine h_l 4 rfl [0, 0, 0, 0, 0, 0, 0, 2] (fun _ => (t_loadA 2 (vc (ofS ((mst l i).2) y14.c)))) ?_
        refine hp_ 6 [0, 0, 0, 0, 0, 0, 0, 2] (pB g4 1) ?_
        refine h_l 7 rfl [0, 0, 0, 0, 0, 0, 0, 2] (fun _ => (t_load 6 (pB hb3 0))) ?_
        refine h_l 8 rfl [0, 0, 0, 0, 0, 0, 0, 2] (fun _ => (t_loadA 4 (vc (ofS ((mst l i).2) y14.a)))) ?_
        refine h_l 9 rfl [0, 0, 0, 0, 0, 0, 0, 2] (fun _ => (t_loadA 3 (vc (ofS ((mst l i).2) y14.b)))) ?_
        refine h_l 10 rfl [0, 0, 0, 0, 0, 0, 0, 2] (fun _ => (t_loadA 2 (vc (ofS ((mst l i).2) y14.c)))) ?_
        refine h_stepS 5 ?_
        refine s_call [8] (hset_s (st := (mst l i).1) hsm (by omega) (ofS ((mst l i).2) y14.a) (ofS ((mst l i).2) y14.b) (ofS ((mst l i).2) y14.c)) ?_
        rintro _ _ ⟨rfl, rfl⟩
        refine s_nil (xs_held [1, 1, 1, 1, 1, 1, 1, 2] ?_)
        refine h_stepS 11 ?_
        refine s_call [8] (rhset_s (st := (mst l i).1) hsm (by omega) (ofS ((mst l i).2) y14.a) (ofS ((mst l i).2) y14.b) (ofS ((mst l i).2) y14.c)) ?_
        rintro _ _ ⟨rfl, rfl⟩
        refine s_nil (xs_held [2, 2, 2, 2, 2, 2, 2, 2] ?_)
        refine hp_ 12 [2, 2, 2, 2, 2, 2, 2, 2] (iw (hsetE ((mst l i).1) (ofS ((mst l i).2) y14.a) (ofS ((mst l i).2) y14.b) (ofS ((mst l i).2) y14.c))) ?_
        refine hp_ 13 [2, 2, 2, 2, 2, 2, 2, 2] (iw (hsetE ((mst l i).1) (ofS ((mst l i).2) y14.a) (ofS ((mst l i).2) y14.b) (ofS ((mst l i).2) y14.c))) ?_
        refine h_doneS ?_
        refine xs_block ?_
        refine xs_then <| k_seq <| k_sr <| s_lt (t_loadA 3 zc) ?_
        refine s_lt (t_loadA 2 zc) ?_
        refine s_lt (Lt.to (t_eqS (fun w => (eqVlT zVl zVl w).2)) (congrArg Value.bool ((congrArg Bool.not (decide_eq_true rfl : (decide (zVl = zVl)) = true)).trans rfl : (!(decide (zVl = zVl))) = false))) ?_
        refine sp (.bool false) ?_
        refine sp (iw (hsetE ((mst l i).1) (ofS ((mst l i).2) y14.a) (ofS ((mst l i).2) y14.b) (ofS ((mst l i).2) y14.c))) ?_
        refine sp (iw (hsetE ((mst l i).1) (ofS ((mst l i).2) y14.a) (ofS ((mst l i).2) y14.b) (ofS ((mst l i).2) y14.c))) ?_
        refine s_lt (Lt.to t_cmp (congrArg Value.bool (decide_eq_false (fun h => h rfl) : (decide ((hsetE ((mst l i).1) (ofS ((mst l i).2) y14.a) (ofS ((mst l i).2) y14.b) (ofS ((mst l i).2) y14.c)) ≠ (hsetE ((mst l i).1) (ofS ((mst l i).2) y14.a) (ofS ((mst l i).2) y14.b) (ofS ((mst l i).2) y14.c)))) = false))) ?_
        refine sp (.bool false) ?_
        refine s_nt <| k_false ?_
        refine k_st <| k_sr <| sp lv ?_
        refine sp (iw (i : Int)) ?_
        refine s_lt (t_index OpT_ok Tryz.underlying22 (.zn hl0) (i : Int) i (by omega) (by (try simp only [lnm]); omega) (by omega)) ?_
        refine sp (.pointer (some (elemAt OpT.size lv i))) ?_
        refine s_lt (t_loadF 0 OpT_ok (.zn hl0) hy15) ?_
        refine s_lt (Lt.to t_cmp (congrArg Value.bool (decide_eq_false (by have := of_decide_eq_true c94; omega) : (decide (y14.kind ≤ 2)) = false))) ?_
        refine sp (.bool false) ?_
        refine s_skip ?_
        refine s_skip ?_
        refine sp (.bool false) ?_
        refine s_nt <| k_false ?_
        refine k_skip ?_
        refine xs_block ?_
        refine xs_then <| k_reg ?_
        refine sp (iw (i : Int)) ?_
        refine s_lt (t_add (i : Int) 1 (by (try simp only [lnm]); omega)) ?_
        refine sp (iw ((i : Int) + 1)) ?_
        refine s_nil ?_
        have hms := mst_succ hy15
        have h1 : (hset ((mst l i).1) (ofS ((mst l i).2) y14.a) (ofS ((mst l i).2) y14.b) (ofS ((mst l i).2) y14.c)) = (mst l (i + 1)).1 := by rw [hms]; unfold mstep; simp [of_decide_eq_false c67, of_decide_eq_false c76, of_decide_eq_false c85, of_decide_eq_true c94, boxB]
        have h2 : (mst l i).2 = (mst l (i + 1)).2 := by rw [hms]; unfold mstep; simp_all [boxB]
        refine xs_mem (Bs := rhA hb3 ((mst l (i + 1)).1) :: hpA hb2 ((mst l (i + 1)).1) :: blkA g66 zc 71 :: blkA g65 zc 71 :: blkA g18 (vc (ofS ((mst l i).2) y14.c)) 71 :: blkA g17 (vc (ofS ((mst l i).2) y14.b)) 71 :: blkA g16 (vc (ofS ((mst l i).2) y14.a)) 71 :: own VlT lx ((mst l (i + 1)).2) :: blkA g4 #[pB hb2 0, pB hb3 0, lx] 30 :: blkA g1 #[.pointer none, .pointer none, (.slice none 0 0)] 30 :: F) (fun _ h => by rw [← h1, ← h2]; exact h) ?_
        exact xs_round (lx, i + 1) (by show 100 - (i + 1) < 100 - i; omega) (by show i + 1 ≤ 100 ∧ i + 1 ≤ l.length; omega) (sub_of rfl ⟨⟨rfl, rfl⟩, ⟨⟨rfl, rfl⟩, ⟨⟨rfl, rfl⟩, ⟨⟨rfl, rfl⟩, trivial⟩⟩⟩⟩) (fun _ h => h.re [7, 7, 0, 0, 5] [5, 5, 5, 5, 5])
       ·
        have p96 := of_decide_eq_false c94
        refine k_held [blkA g66 zc 71, blkA g65 zc 71, blkA g18 (vc (ofS ((mst l i).2) y14.c)) 71, blkA g17 (vc (ofS ((mst l i).2) y14.b)) 71, blkA g16 (vc (ofS ((mst l i).2) y14.a)) 71, own VlT lx ((mst l i).2), blkA g4 #[pB hb2 0, pB hb3 0, lx] 30, blkA g1 #[.pointer none, .pointer none, (.slice none 0 0)] 30] ?_
        refine hp_ 0 [0, 0, 0, 0, 0, 0, 0, 2] (pB g4 0) ?_
        refine h_l 1 rfl [0, 0, 0, 0, 0, 0, 0, 2] (fun _ => (t_load 6 (pB hb2 0))) ?_
        refine h_l 2 rfl [0, 0, 0, 0, 0, 0, 0, 2] (fun _ => (t_loadA 4 (vc (ofS ((mst l i).2) y14.a)))) ?_
        refine h_l 3 rfl [0, 0, 0, 0, 0, 0, 0, 2] (fun _ => (t_loadA 3 (vc (ofS ((mst l i).2) y14.b)))) ?_
        refine hp_ 5 [0, 0, 0, 0, 0, 0, 0, 2] (pB g4 1) ?_
        refine h_l 6 rfl [0, 0, 0, 0, 0, 0, 0, 2] (fun _ => (t_load 6 (pB hb3 0))) ?_
        refine h_l 7 rfl [0, 0, 0, 0, 0, 0, 0, 2] (fun _ => (t_loadA 4 (vc (ofS ((mst l i).2) y14.a)))) ?_
        refine h_l 8 rfl [0, 0, 0, 0, 0, 0, 0, 2] (fun _ => (t_loadA 3 (vc (ofS ((mst l i).2) y14.b)))) ?_
        refine h_stepS 4 ?_
        refine s_call [8] (hsetmeta_s (st := (mst l i).1) (ofS ((mst l i).2) y14.a) (ofS ((mst l i).2) y14.b)) ?_
        rintro _ _ ⟨rfl, rfl⟩
        refine s_nil (xs_held [1, 1, 1, 1, 1, 1, 1, 2] ?_)
        refine h_stepS 9 ?_
        refine s_call [8] (rhsetmeta_s (st := (mst l i).1) (by have := hsm.len; omega) (ofS ((mst l i).2) y14.a) (ofS ((mst l i).2) y14.b)) ?_
        rintro _ _ ⟨rfl, rfl⟩
        refine s_nil (xs_held [2, 2, 2, 2, 2, 2, 2, 2] ?_)
        refine hp_ 10 [2, 2, 2, 2, 2, 2, 2, 2] (iw (hsetMetaE ((mst l i).1) (ofS ((mst l i).2) y14.a) (ofS ((mst l i).2) y14.b))) ?_
        refine hp_ 11 [2, 2, 2, 2, 2, 2, 2, 2] (iw (hsetMetaE ((mst l i).1) (ofS ((mst l i).2) y14.a) (ofS ((mst l i).2) y14.b))) ?_
        refine h_doneS ?_
        refine xs_block ?_
        refine xs_then <| k_seq <| k_sr <| s_lt (t_loadA 3 zc) ?_
        refine s_lt (t_loadA 2 zc) ?_
        refine s_lt (Lt.to (t_eqS (fun w => (eqVlT zVl zVl w).2)) (congrArg Value.bool ((congrArg Bool.not (decide_eq_true rfl : (decide (zVl = zVl)) = true)).trans rfl : (!(decide (zVl = zVl))) = false))) ?_
        refine sp (.bool false) ?_
        refine sp (iw (hsetMetaE ((mst l i).1) (ofS ((mst l i).2) y14.a) (ofS ((mst l i).2) y14.b))) ?_
        refine sp (iw (hsetMetaE ((mst l i).1) (ofS ((mst l i).2) y14.a) (ofS ((mst l i).2) y14.b))) ?_
        refine s_lt (Lt.to t_cmp (congrArg Value.bool (decide_eq_false (fun h => h rfl) : (decide ((hsetMetaE ((mst l i).1) (ofS ((mst l i).2) y14.a) (ofS ((mst l i).2) y14.b)) ≠ (hsetMetaE ((mst l i).1) (ofS ((mst l i).2) y14.a) (ofS ((mst l i).2) y14.b)))) = false))) ?_
        refine sp (.bool false) ?_
        refine s_nt <| k_false ?_
        refine k_st <| k_cut (ι := Unit) (fun _ => True) (fun _ => [(0, lv), (2, pB g1 0), (4, pB g4 0), (5, iw (i : Int)), (9, pB g65 0), (144, .bool ((decide (y14.kind ≤ 2)) && (decide ((hsetMetaE ((mst l i).1) (ofS ((mst l i).2) y14.a) (ofS ((mst l i).2) y14.b)) = 0))))]) (fun _ => rhA hb3 (hsetMeta ((mst l i).1) (ofS ((mst l i).2) y14.a) (ofS ((mst l i).2) y14.b)) :: hpA hb2 (hsetMeta ((mst l i).1) (ofS ((mst l i).2) y14.a) (ofS ((mst l i).2) y14.b)) :: blkA g66 zc 71 :: blkA g65 zc 71 :: blkA g18 (vc (ofS ((mst l i).2) y14.c)) 71 :: blkA g17 (vc (ofS ((mst l i).2) y14.b)) 71 :: blkA g16 (vc (ofS ((mst l i).2) y14.a)) 71 :: own VlT lx ((mst l i).2) :: blkA g4 #[pB hb2 0, pB hb3 0, lx] 30 :: blkA g1 #[.pointer none, .pointer none, (.slice none 0 0)] 30 :: F) ?_ (fun _ _ => ?_)
        ·
         refine k_reg ?_
         refine sp lv ?_
         refine sp (iw (i : Int)) ?_
         refine s_lt (t_index OpT_ok Tryz.underlying22 (.zn hl0) (i : Int) i (by omega) (by (try simp only [lnm]); omega) (by omega)) ?_
         refine sp (.pointer (some (elemAt OpT.size lv i))) ?_
         refine s_lt (t_loadF 0 OpT_ok (.zn hl0) hy15) ?_
         refine s_lt t_cmp ?_
         refine sp (.bool (decide (y14.kind ≤ 2))) ?_
         refine s_fork 141 (decide (y14.kind ≤ 2)) (fun c97 => ?_) (fun c97 => ?_)
         ·
          have p98 := of_decide_eq_true c97
          refine sp (iw (hsetMetaE ((mst l i).1) (ofS ((mst l i).2) y14.a) (ofS ((mst l i).2) y14.b))) ?_
          refine s_lt t_cmp ?_
          refine sp (.bool (decide ((hsetMetaE ((mst l i).1) (ofS ((mst l i).2) y14.a) (ofS ((mst l i).2) y14.b)) = 0))) ?_
          refine s_nil ?_
          exact xs_cut () trivial (sub_of rfl ⟨⟨rfl, rfl⟩, ⟨⟨rfl, rfl⟩, ⟨⟨rfl, rfl⟩, ⟨⟨rfl, rfl⟩, ⟨⟨rfl, rfl⟩, ⟨⟨rfl, show Value.bool (decide ((hsetMetaE ((mst l i).1) (ofS ((mst l i).2) y14.a) (ofS ((mst l i).2) y14.b)) = 0)) = Value.bool ((decide (y14.kind ≤ 2)) && (decide ((hsetMetaE ((mst l i).1) (ofS ((mst l i).2) y14.a) (ofS ((mst l i).2) y14.b)) = 0))) by first | (simp only [c97, bls]; done) | simp [c97]⟩, trivial⟩⟩⟩⟩⟩⟩) (fun _ h => h.re [0, 0, 0, 0, 0, 0, 0, 0, 0, 0] [])
         ·
          have p99 := of_decide_eq_false c97
          refine s_skip ?_
          refine s_skip ?_
          refine sp (.bool false) ?_
          refine s_nil ?_
          exact xs_cut () trivial (sub_of rfl ⟨⟨rfl, rfl⟩, ⟨⟨rfl, rfl⟩, ⟨⟨rfl, rfl⟩, ⟨⟨rfl, rfl⟩, ⟨⟨rfl, rfl⟩, ⟨⟨rfl, show Value.bool false = Value.bool ((decide (y14.kind ≤ 2)) && (decide ((hsetMetaE ((mst l i).1) (ofS ((mst l i).2) y14.a) (ofS ((mst l i).2) y14.b)) = 0))) by first | (simp only [c97, bls]; done) | simp [c97]⟩, trivial⟩⟩⟩⟩⟩⟩) (fun _ h => h.re [0, 0, 0, 0, 0, 0, 0, 0, 0, 0] [])
        ·
         refine k_cond ((decide (y14.kind ≤ 2)) && (decide ((hsetMetaE ((mst l i).1) (ofS ((mst l i).2) y14.a) (ofS ((mst l i).2) y14.b)) = 0))) (fun c100 => ?_) (fun c100 => ?_)
         ·
          obtain ⟨c101, c102⟩ := and_t c100
          have p103 := of_decide_eq_true c101
          have p104 := of_decide_eq_true c102
          refine k_reg ?_
          refine sp (pB g4 2) ?_
          refine s_lt (t_load 8 lx) ?_
          refine s_lt (t_loadA 3 zc) ?_
          refine s_buildSlice (e := 71) [(0, .agg zc)] zc (fun g105 => ?_) (hb := by kernel_rfl)
          refine s_append (L := (mst l i).2) 8 VlT_ok Tryz.underlying28 (.lit 0 VlT_ok [zVl]) (by show _ * 48 ≤ _; (try simp only [lnm]); omega) (by (try simp only [lnm]); omega) (fun v106 => ?_)
          refine sp (pB g4 2) ?_
          refine s_fact (fun H h => ((Acc.own (T := VlT) (L := ((mst l i).2 ++ [zVl])) 8 rfl) H h).form) (fun hf107 => ?_)
          refine s_store (u := v106) (m := 1) 9 #[pB hb2 0, pB hb3 0, v106] ?_ (hm := by (obtain ⟨_, _, e⟩ := hf107; rw [e]; rfl)) (h1 := by (obtain ⟨_, _, e⟩ := hf107; rw [e]; rfl)) (ha' := by (obtain ⟨_, _, e⟩ := hf107; rw [e]; rfl))
          refine s_nil <| xs_block ?_
          refine xs_then <| k_reg ?_
          refine sp (iw (i : Int)) ?_
          refine s_lt (t_add (i : Int) 1 (by (try simp only [lnm]); omega)) ?_
          refine sp (iw ((i : Int) + 1)) ?_
          refine s_nil ?_
          have hms := mst_succ hy15
          have h1 : (hsetMeta ((mst l i).1) (ofS ((mst l i).2) y14.a) (ofS ((mst l i).2) y14.b)) = (mst l (i + 1)).1 := by rw [hms]; unfold mstep; simp [of_decide_eq_false c67, of_decide_eq_false c76, of_decide_eq_false c85, of_decide_eq_false c94, boxB]
          have h2 : ((mst l i).2 ++ [zVl]) = (mst l (i + 1)).2 := by rw [hms]; unfold mstep; simp_all [boxB]
          refine xs_mem (Bs := blkA g105 zc 71 :: rhA hb3 ((mst l (i + 1)).1) :: hpA hb2 ((mst l (i + 1)).1) :: blkA g66 zc 71 :: blkA g65 zc 71 :: blkA g18 (vc (ofS ((mst l i).2) y14.c)) 71 :: blkA g17 (vc (ofS ((mst l i).2) y14.b)) 71 :: blkA g16 (vc (ofS ((mst l i).2) y14.a)) 71 :: own VlT v106 ((mst l (i + 1)).2) :: blkA g4 #[pB hb2 0, pB hb3 0, v106] 30 :: blkA g1 #[.pointer none, .pointer none, (.slice none 0 0)] 30 :: F) (fun _ h => by rw [← h1, ← h2]; exact h) ?_
          exact xs_round (v106, i + 1) (by show 100 - (i + 1) < 100 - i; omega) (by show i + 1 ≤ 100 ∧ i + 1 ≤ l.length; omega) (sub_of rfl ⟨⟨rfl, rfl⟩, ⟨⟨rfl, rfl⟩, ⟨⟨rfl, rfl⟩, ⟨⟨rfl, rfl⟩, trivial⟩⟩⟩⟩) (fun _ h => h.re [8, 8, 1, 1, 6] [5, 5, 5, 5, 5, 5])
         ·
          have p108 := c100
          simp only [Bool.and_eq_true, Bool.or_eq_true, Bool.and_eq_false_iff, Bool.or_eq_false_iff, Bool.not_eq_true', Bool.not_eq_false', decide_eq_true_eq, decide_eq_false_iff_not] at p108
          refine k_skip ?_
          refine xs_block ?_
          refine xs_then <| k_reg ?_
          refine sp (iw (i : Int)) ?_
          refine s_lt (t_add (i : Int) 1 (by (try simp only [lnm]); omega)) ?_
          refine sp (iw ((i : Int) + 1)) ?_
          refine s_nil ?_
          have hms := mst_succ hy15
          have h1 : (hsetMeta ((mst l i).1) (ofS ((mst l i).2) y14.a) (ofS ((mst l i).2) y14.b)) = (mst l (i + 1)).1 := by rw [hms]; unfold mstep; simp [of_decide_eq_false c67, of_decide_eq_false c76, of_decide_eq_false c85, of_decide_eq_false c94, boxB]
          have h2 : (mst l i).2 = (mst l (i + 1)).2 := by rw [hms]; unfold mstep; simp_all [boxB]
          refine xs_mem (Bs := rhA hb3 ((mst l (i + 1)).1) :: hpA hb2 ((mst l (i + 1)).1) :: blkA g66 zc 71 :: blkA g65 zc 71 :: blkA g18 (vc (ofS ((mst l i).2) y14.c)) 71 :: blkA g17 (vc (ofS ((mst l i).2) y14.b)) 71 :: blkA g16 (vc (ofS ((mst l i).2) y14.a)) 71 :: own VlT lx ((mst l (i + 1)).2) :: blkA g4 #[pB hb2 0, pB hb3 0, lx] 30 :: blkA g1 #[.pointer none, .pointer none, (.slice none 0 0)] 30 :: F) (fun _ h => by rw [← h1, ← h2]; exact h) ?_
          exact xs_round (lx, i + 1) (by show 100 - (i + 1) < 100 - i; omega) (by show i + 1 ≤ 100 ∧ i + 1 ≤ l.length; omega) (sub_of rfl ⟨⟨rfl, rfl⟩, ⟨⟨rfl, rfl⟩, ⟨⟨rfl, rfl⟩, ⟨⟨rfl, rfl⟩, trivial⟩⟩⟩⟩) (fun _ h => h.re [7, 7, 0, 0, 5] [5, 5, 5, 5, 5])
   refine h_join (ι := Nat × Nat) 4 #[true, true, true, true, true, true, true, true, true, true, true, true, true, true, true, true, true, true, true, true, true, true, true, false, false, false, false] (fun (g16, g17) => [(0, lv), (2, pB g1 0), (4, pB g4 0), (5, iw (i : Int)), (6, pB g16 0), (7, pB g17 0), (36, .agg (vc (ofS ((mst l i).2) y14.a))), (43, .agg (vc (ofS ((mst l i).2) y14.b))), (50, .agg (vc (ofS ((mst l i).2) y14.c)))]) (fun (g16, g17) => blkA g17 zc 71 :: blkA g16 zc 71 :: own VlT lx ((mst l i).2) :: blkA g4 #[pB hb2 0, pB hb3 0, lx] 30 :: rhA hb3 ((mst l i).1) :: hpA hb2 ((mst l i).1) :: blkA g1 #[.pointer none, .pointer none, (.slice none 0 0)] 30 :: F) ?_ (fun hj109 => ?_)
   ·
    rintro ⟨g16, g17⟩
    try dsimp only
    refine h_stepS 23 ?_
    refine s_alloc (.agg zc) zc (fun g110 => ?_)
    refine s_nil (xs_held [3, 3, 5] ?_)
    exact h_use hj64 (g16, g17, g110) (fun _ h => h.re [0, 0, 0, 0, 0, 0, 0, 0] [])
   refine h_join (ι := Nat × Nat) 4 #[true, true, true, true, true, true, true, true, true, true, true, true, true, true, true, true, true, true, true, true, true, true, false, true, false, false, false] (fun (g16, g19) => [(0, lv), (2, pB g1 0), (4, pB g4 0), (5, iw (i : Int)), (6, pB g16 0), (8, pB g19 0), (36, .agg (vc (ofS ((mst l i).2) y14.a))), (43, .agg (vc (ofS ((mst l i).2) y14.b))), (50, .agg (vc (ofS ((mst l i).2) y14.c)))]) (fun (g16, g19) => blkA g19 zc 71 :: blkA g16 zc 71 :: own VlT lx ((mst l i).2) :: blkA g4 #[pB hb2 0, pB hb3 0, lx] 30 :: rhA hb3 ((mst l i).1) :: hpA hb2 ((mst l i).1) :: blkA g1 #[.pointer none, .pointer none, (.slice none 0 0)] 30 :: F) ?_ (fun hj111 => ?_)
   ·
    rintro ⟨g16, g19⟩
    try dsimp only
    refine h_stepS 22 ?_
    refine s_alloc (.agg zc) zc (fun g112 => ?_)
    refine s_nil (xs_held [3, 3, 5] ?_)
    exact h_use hj64 (g16, g112, g19) (fun _ h => h.re [1, 0, 0, 0, 0, 0, 0, 0] [])
   refine h_join (ι := Nat × Nat) 4 #[true, true, true, true, true, true, true, true, true, true, true, true, true, true, true, true, true, true, true, true, true, false, true, true, false, false, false] (fun (g21, g23) => [(0, lv), (2, pB g1 0), (4, pB g4 0), (5, iw (i : Int)), (7, pB g21 0), (8, pB g23 0), (36, .agg (vc (ofS ((mst l i).2) y14.a))), (43, .agg (vc (ofS ((mst l i).2) y14.b))), (50, .agg (vc (ofS ((mst l i).2) y14.c)))]) (fun (g21, g23) => blkA g23 zc 71 :: blkA g21 zc 71 :: own VlT lx ((mst l i).2) :: blkA g4 #[pB hb2 0, pB hb3 0, lx] 30 :: rhA hb3 ((mst l i).1) :: hpA hb2 ((mst l i).1) :: blkA g1 #[.pointer none, .pointer none, (.slice none 0 0)] 30 :: F) ?_ (fun hj113 => ?_)
   ·
    rintro ⟨g21, g23⟩
    try dsimp only
    refine h_stepS 21 ?_
    refine s_alloc (.agg zc) zc (fun g114 => ?_)
    refine s_nil (xs_held [3, 3, 5] ?_)
    exact h_use hj64 (g114, g21, g23) (fun _ h => h.re [1, 1, 0, 0, 0, 0, 0, 0] [])
   refine h_join (ι := Nat × Nat × Nat) 4 #[true, true, true, true, true, true, true, true, true, true, true, true, true, true, true, true, true, true, true, true, false, true, true, true, false, false, false] (fun (g28, g29, g30) => [(0, lv), (2, pB g1 0), (4, pB g4 0), (5, iw (i : Int)), (6, pB g28 0), (7, pB g29 0), (8, pB g30 0), (36, .agg (vc (ofS ((mst l i).2) y14.a))), (43, .agg (vc (ofS ((mst l i).2) y14.b))), (44, .agg #[pB hb2 0, pB hb3 0, lx]), (49, .agg #[iw y14.c.v.kind, iw y14.c.v.p, iw y14.c.v.q, sw y14.c.v.str, iw y14.c.v.ref, iw y14.c.obj])]) (fun (g28, g29, g30) => blkA g30 zc 71 :: blkA g29 zc 71 :: blkA g28 zc 71 :: own VlT lx ((mst l i).2) :: blkA g4 #[pB hb2 0, pB hb3 0, lx] 30 :: rhA hb3 ((mst l i).1) :: hpA hb2 ((mst l i).1) :: blkA g1 #[.pointer none, .pointer none, (.slice none 0 0)] 30 :: F) ?_ (fun hj115 => ?_)
   ·
    rintro ⟨g28, g29, g30⟩
    try dsimp only
    refine h_stepS 20 ?_
    refine s_call [3] (of_s (L := (mst l i).2) (by (try simp only [lnm]); omega) y14.c) ?_
    rintro _ _ ⟨rfl, rfl⟩
    refine s_nil (xs_held [0, 3, 5] ?_)
    exact h_use hj64 (g28, g29, g30) (fun _ h => h.re [1, 1, 1, 0, 0, 0, 0, 0] [])
   refine h_join (ι := Nat) 5 #[true, true, true, true, true, true, true, true, true, true, true, true, true, true, true, true, true, true, true, true, true, true, false, false, false, false, false] (fun g16 => [(0, lv), (2, pB g1 0), (4, pB g4 0), (5, iw (i : Int)), (6, pB g16 0), (36, .agg (vc (ofS ((mst l i).2) y14.a))), (43, .agg (vc (ofS ((mst l i).2) y14.b))), (50, .agg (vc (ofS ((mst l i).2) y14.c)))]) (fun g16 => blkA g16 zc 71 :: own VlT lx ((mst l i).2) :: blkA g4 #[pB hb2 0, pB hb3 0, lx] 30 :: rhA hb3 ((mst l i).1) :: hpA hb2 ((mst l i).1) :: blkA g1 #[.pointer none, .pointer none, (.slice none 0 0)] 30 :: F) ?_ (fun hj116 => ?_)
   ·
    rintro g16
    try dsimp only
    refine h_stepS2 22 23 ?_ ?_
    ·
     refine s_alloc (.agg zc) zc (fun g117 => ?_)
     refine s_nil (xs_held [2, 2, 4] ?_)
     exact h_use hj109 (g16, g117) (fun _ h => h.re [0, 0, 0, 0, 0, 0, 0] [])
    ·
     refine s_alloc (.agg zc) zc (fun g118 => ?_)
     refine s_nil (xs_held [2, 2, 4] ?_)
     exact h_use hj111 (g16, g118) (fun _ h => h.re [0, 0, 0, 0, 0, 0, 0] [])
   refine h_join (ι := Nat) 5 #[true, true, true, true, true, true, true, true, true, true, true, true, true, true, true, true, true, true, true, true, true, false, true, false, false, false, false] (fun g21 => [(0, lv), (2, pB g1 0), (4, pB g4 0), (5, iw (i : Int)), (7, pB g21 0), (36, .agg (vc (ofS ((mst l i).2) y14.a))), (43, .agg (vc (ofS ((mst l i).2) y14.b))), (50, .agg (vc (ofS ((mst l i).2) y14.c)))]) (fun g21 => blkA g21 zc 71 :: own VlT lx ((mst l i).2) :: blkA g4 #[pB hb2 0, pB hb3 0, lx] 30 :: rhA hb3 ((mst l i).1) :: hpA hb2 ((mst l i).1) :: blkA g1 #[.pointer none, .pointer none, (.slice none 0 0)] 30 :: F) ?_ (fun hj119 => ?_)
   ·
    rintro g21
    try dsimp only
    refine h_stepS2 21 23 ?_ ?_
    ·
     refine s_alloc (.agg zc) zc (fun g120 => ?_)
     refine s_nil (xs_held [2, 2, 4] ?_)
     exact h_use hj109 (g120, g21) (fun _ h => h.re [1, 0, 0, 0, 0, 0, 0] [])
    ·
     refine s_alloc (.agg zc) zc (fun g121 => ?_)
     refine s_nil (xs_held [2, 2, 4] ?_)
     exact h_use hj113 (g21, g121) (fun _ h => h.re [0, 0, 0, 0, 0, 0, 0] [])
   refine h_join (ι := Nat) 5 #[true, true, true, true, true, true, true, true, true, true, true, true, true, true, true, true, true, true, true, true, true, false, false, true, false, false, false] (fun g25 => [(0, lv), (2, pB g1 0), (4, pB g4 0), (5, iw (i : Int)), (8, pB g25 0), (36, .agg (vc (ofS ((mst l i).2) y14.a))), (43, .agg (vc (ofS ((mst l i).2) y14.b))), (50, .agg (vc (ofS ((mst l i).2) y14.c)))]) (fun g25 => blkA g25 zc 71 :: own VlT lx ((mst l i).2) :: blkA g4 #[pB hb2 0, pB hb3 0, lx] 30 :: rhA hb3 ((mst l i).1) :: hpA hb2 ((mst l i).1) :: blkA g1 #[.pointer none, .pointer none, (.slice none 0 0)] 30 :: F) ?_ (fun hj122 => ?_)
   ·
    rintro g25
    try dsimp only
    refine h_stepS2 21 22 ?_ ?_
    ·
     refine s_alloc (.agg zc) zc (fun g123 => ?_)
     refine s_nil (xs_held [2, 2, 4] ?_)
     exact h_use hj111 (g123, g25) (fun _ h => h.re [1, 0, 0, 0, 0, 0, 0] [])
    ·
     refine s_alloc (.agg zc) zc (fun g124 => ?_)
     refine s_nil (xs_held [2, 2, 4] ?_)
     exact h_use hj113 (g124, g25) (fun _ h => h.re [1, 0, 0, 0, 0, 0, 0] [])
   refine h_join (ι := Nat × Nat) 5 #[true, true, true, true, true, true, true, true, true, true, true, true, true, true, true, true, true, true, true, true, false, true, true, false, false, false, false] (fun (g28, g29) => [(0, lv), (2, pB g1 0), (4, pB g4 0), (5, iw (i : Int)), (6, pB g28 0), (7, pB g29 0), (36, .agg (vc (ofS ((mst l i).2) y14.a))), (43, .agg (vc (ofS ((mst l i).2) y14.b))), (44, .agg #[pB hb2 0, pB hb3 0, lx]), (49, .agg #[iw y14.c.v.kind, iw y14.c.v.p, iw y14.c.v.q, sw y14.c.v.str, iw y14.c.v.ref, iw y14.c.obj])]) (fun (g28, g29) => blkA g29 zc 71 :: blkA g28 zc 71 :: own VlT lx ((mst l i).2) :: blkA g4 #[pB hb2 0, pB hb3 0, lx] 30 :: rhA hb3 ((mst l i).1) :: hpA hb2 ((mst l i).1) :: blkA g1 #[.pointer none, .pointer none, (.slice none 0 0)] 30 :: F) ?_ (fun hj125 => ?_)
   ·
    rintro ⟨g28, g29⟩
    try dsimp only
    refine h_stepS2 20 23 ?_ ?_
    ·
     refine s_call [2] (of_s (L := (mst l i).2) (by (try simp only [lnm]); omega) y14.c) ?_
     rintro _ _ ⟨rfl, rfl⟩
     refine s_nil (xs_held [0, 2, 4] ?_)
     exact h_use hj109 (g28, g29) (fun _ h => h.re [1, 1, 0, 0, 0, 0, 0] [])
    ·
     refine s_alloc (.agg zc) zc (fun g126 => ?_)
     refine s_nil (xs_held [3, 3, 5] ?_)
     exact h_use hj115 (g28, g29, g126) (fun _ h => h.re [0, 0, 0, 0, 0, 0, 0, 0] [])
   refine h_join (ι := Nat × Nat) 5 #[true, true, true, true, true, true, true, true, true, true, true, true, true, true, true, true, true, true, true, true, false, true, false, true, false, false, false] (fun (g28, g31) => [(0, lv), (2, pB g1 0), (4, pB g4 0), (5, iw (i : Int)), (6, pB g28 0), (8, pB g31 0), (36, .agg (vc (ofS ((mst l i).2) y14.a))), (43, .agg (vc (ofS ((mst l i).2) y14.b))), (44, .agg #[pB hb2 0, pB hb3 0, lx]), (49, .agg #[iw y14.c.v.kind, iw y14.c.v.p, iw y14.c.v.q, sw y14.c.v.str, iw y14.c.v.ref, iw y14.c.obj])]) (fun (g28, g31) => blkA g31 zc 71 :: blkA g28 zc 71 :: own VlT lx ((mst l i).2) :: blkA g4 #[pB hb2 0, pB hb3 0, lx] 30 :: rhA hb3 ((mst l i).1) :: hpA hb2 ((mst l i).1) :: blkA g1 #[.pointer none, .pointer none, (.slice none 0 0)] 30 :: F) ?_ (fun hj127 => ?_)
   ·
    rintro ⟨g28, g31⟩
    try dsimp only
    refine h_stepS2 20 22 ?_ ?_
    ·
     refine s_call [2] (of_s (L := (mst l i).2) (by (try simp only [lnm]); omega) y14.c) ?_
     rintro _ _ ⟨rfl, rfl⟩
     refine s_nil (xs_held [0, 2, 4] ?_)
     exact h_use hj111 (g28, g31) (fun _ h => h.re [1, 1, 0, 0, 0, 0, 0] [])
    ·
     refine s_alloc (.agg zc) zc (fun g128 => ?_)
     refine s_nil (xs_held [3, 3, 5] ?_)
     exact h_use hj115 (g28, g128, g31) (fun _ h => h.re [1, 0, 0, 0, 0, 0, 0, 0] [])
   refine h_join (ι := Nat × Nat) 5 #[true, true, true, true, true, true, true, true, true, true, true, true, true, true, true, true, true, true, true, true, false, false, true, true, false, false, false] (fun (g33, g35) => [(0, lv), (2, pB g1 0), (4, pB g4 0), (5, iw (i : Int)), (7, pB g33 0), (8, pB g35 0), (36, .agg (vc (ofS ((mst l i).2) y14.a))), (43, .agg (vc (ofS ((mst l i).2) y14.b))), (44, .agg #[pB hb2 0, pB hb3 0, lx]), (49, .agg #[iw y14.c.v.kind, iw y14.c.v.p, iw y14.c.v.q, sw y14.c.v.str, iw y14.c.v.ref, iw y14.c.obj])]) (fun (g33, g35) => blkA g35 zc 71 :: blkA g33 zc 71 :: own VlT lx ((mst l i).2) :: blkA g4 #[pB hb2 0, pB hb3 0, lx] 30 :: rhA hb3 ((mst l i).1) :: hpA hb2 ((mst l i).1) :: blkA g1 #[.pointer none, .pointer none, (.slice none 0 0)] 30 :: F) ?_ (fun hj129 => ?_)
   ·
    rintro ⟨g33, g35⟩
    try dsimp only
    refine h_stepS2 20 21 ?_ ?_
    ·
     refine s_call [2] (of_s (L := (mst l i).2) (by (try simp only [lnm]); omega) y14.c) ?_
     rintro _ _ ⟨rfl, rfl⟩
     refine s_nil (xs_held [0, 2, 4] ?_)
     exact h_use hj113 (g33, g35) (fun _ h => h.re [1, 1, 0, 0, 0, 0, 0] [])
    ·
     refine s_alloc (.agg zc) zc (fun g130 => ?_)
     refine s_nil (xs_held [3, 3, 5] ?_)
     exact h_use hj115 (g130, g33, g35) (fun _ h => h.re [1, 1, 0, 0, 0, 0, 0, 0] [])
   refine h_join (ι := Nat × Nat × Nat) 5 #[true, true, true, true, true, true, true, true, true, true, true, true, true, false, true, true, true, true, true, true, false, true, true, true, false, false, false] (fun (g40, g41, g42) => [(0, lv), (2, pB g1 0), (4, pB g4 0), (5, iw (i : Int)), (6, pB g40 0), (7, pB g41 0), (8, pB g42 0), (36, .agg (vc (ofS ((mst l i).2) y14.a))), (37, .agg #[pB hb2 0, pB hb3 0, lx]), (42, .agg #[iw y14.b.v.kind, iw y14.b.v.p, iw y14.b.v.q, sw y14.b.v.str, iw y14.b.v.ref, iw y14.b.obj]), (44, .agg #[pB hb2 0, pB hb3 0, lx]), (49, .agg #[iw y14.c.v.kind, iw y14.c.v.p, iw y14.c.v.q, sw y14.c.v.str, iw y14.c.v.ref, iw y14.c.obj])]) (fun (g40, g41, g42) => blkA g42 zc 71 :: blkA g41 zc 71 :: blkA g40 zc 71 :: own VlT lx ((mst l i).2) :: blkA g4 #[pB hb2 0, pB hb3 0, lx] 30 :: rhA hb3 ((mst l i).1) :: hpA hb2 ((mst l i).1) :: blkA g1 #[.pointer none, .pointer none, (.slice none 0 0)] 30 :: F) ?_ (fun hj131 => ?_)
   ·
    rintro ⟨g40, g41, g42⟩
    try dsimp only
    refine h_stepS 13 ?_
    refine s_call [3] (of_s (L := (mst l i).2) (by (try simp only [lnm]); omega) y14.b) ?_
    rintro _ _ ⟨rfl, rfl⟩
    refine s_nil (xs_held [0, 3, 5] ?_)
    exact h_use hj115 (g40, g41, g42) (fun _ h => h.re [1, 1, 1, 0, 0, 0, 0, 0] [])
   refine h_join (ι := Nat) 6 #[true, true, true, true, true, true, true, true, true, true, true, true, true, true, true, true, true, true, true, true, false, true, false, false, false, false, false] (fun g28 => [(0, lv), (2, pB g1 0), (4, pB g4 0), (5, iw (i : Int)), (6, pB g28 0), (36, .agg (vc (ofS ((mst l i).2) y14.a))), (43, .agg (vc (ofS ((mst l i).2) y14.b))), (44, .agg #[pB hb2 0, pB hb3 0, lx]), (49, .agg #[iw y14.c.v.kind, iw y14.c.v.p, iw y14.c.v.q, sw y14.c.v.str, iw y14.c.v.ref, iw y14.c.obj])]) (fun g28 => blkA g28 zc 71 :: own VlT lx ((mst l i).2) :: blkA g4 #[pB hb2 0, pB hb3 0, lx] 30 :: rhA hb3 ((mst l i).1) :: hpA hb2 ((mst l i).1) :: blkA g1 #[.pointer none, .pointer none, (.slice none 0 0)] 30 :: F) ?_ (fun hj132 => ?_)
   ·
    rintro g28
    try dsimp only
    refine h_stepS3 20 22 23 ?_ ?_ ?_
    ·
     refine s_call [1] (of_s (L := (mst l i).2) (by (try simp only [lnm]); omega) y14.c) ?_
     rintro _ _ ⟨rfl, rfl⟩
     refine s_nil (xs_held [0, 1, 3] ?_)
     exact h_use hj116 g28 (fun _ h => h.re [1, 0, 0, 0, 0, 0] [])
    ·
     refine s_alloc (.agg zc) zc (fun g133 => ?_)
     refine s_nil (xs_held [2, 2, 4] ?_)
     exact h_use hj125 (g28, g133) (fun _ h => h.re [0, 0, 0, 0, 0, 0, 0] [])
    ·
     refine s_alloc (.agg zc) zc (fun g134 => ?_)
     refine s_nil (xs_held [2, 2, 4] ?_)
     exact h_use hj127 (g28, g134) (fun _ h => h.re [0, 0, 0, 0, 0, 0, 0] [])
   refine h_join (ι := Nat) 6 #[true, true, true, true, true, true, true, true, true, true, true, true, true, true, true, true, true, true, true, true, false, false, true, false, false, false, false] (fun g33 => [(0, lv), (2, pB g1 0), (4, pB g4 0), (5, iw (i : Int)), (7, pB g33 0), (36, .agg (vc (ofS ((mst l i).2) y14.a))), (43, .agg (vc (ofS ((mst l i).2) y14.b))), (44, .agg #[pB hb2 0, pB hb3 0, lx]), (49, .agg #[iw y14.c.v.kind, iw y14.c.v.p, iw y14.c.v.q, sw y14.c.v.str, iw y14.c.v.ref, iw y14.c.obj])]) (fun g33 => blkA g33 zc 71 :: own VlT lx ((mst l i).2) :: blkA g4 #[pB hb2 0, pB hb3 0, lx] 30 :: rhA hb3 ((mst l i).1) :: hpA hb2 ((mst l i).1) :: blkA g1 #[.pointer none, .pointer none, (.slice none 0 0)] 30 :: F) ?_ (fun hj135 => ?_)
   ·
    rintro g33
    try dsimp only
    refine h_stepS3 20 21 23 ?_ ?_ ?_
    ·
     refine s_call [1] (of_s (L := (mst l i).2) (by (try simp only [lnm]); omega) y14.c) ?_
     rintro _ _ ⟨rfl, rfl⟩
     refine s_nil (xs_held [0, 1, 3] ?_)
     exact h_use hj119 g33 (fun _ h => h.re [1, 0, 0, 0, 0, 0] [])
    ·
     refine s_alloc (.agg zc) zc (fun g136 => ?_)
     refine s_nil (xs_held [2, 2, 4] ?_)
     exact h_use hj125 (g136, g33) (fun _ h => h.re [1, 0, 0, 0, 0, 0, 0] [])
    ·
     refine s_alloc (.agg zc) zc (fun g137 => ?_)
     refine s_nil (xs_held [2, 2, 4] ?_)
     exact h_use hj129 (g33, g137) (fun _ h => h.re [0, 0, 0, 0, 0, 0, 0] [])
   refine h_join (ι := Nat) 6 #[true, true, true, true, true, true, true, true, true, true, true, true, true, true, true, true, true, true, true, true, false, false, false, true, false, false, false] (fun g37 => [(0, lv), (2, pB g1 0), (4, pB g4 0), (5, iw (i : Int)), (8, pB g37 0), (36, .agg (vc (ofS ((mst l i).2) y14.a))), (43, .agg (vc (ofS ((mst l i).2) y14.b))), (44, .agg #[pB hb2 0, pB hb3 0, lx]), (49, .agg #[iw y14.c.v.kind, iw y14.c.v.p, iw y14.c.v.q, sw y14.c.v.str, iw y14.c.v.ref, iw y14.c.obj])]) (fun g37 => blkA g37 zc 71 :: own VlT lx ((mst l i).2) :: blkA g4 #[pB hb2 0, pB hb3 0, lx] 30 :: rhA hb3 ((mst l i).1) :: hpA hb2 ((mst l i).1) :: blkA g1 #[.pointer none, .pointer none, (.slice none 0 0)] 30 :: F) ?_ (fun hj138 => ?_)
   ·
    rintro g37
    try dsimp only
    refine h_stepS3 20 21 22 ?_ ?_ ?_
    ·
     refine s_call [1] (of_s (L := (mst l i).2) (by (try simp only [lnm]); omega) y14.c) ?_
     rintro _ _ ⟨rfl, rfl⟩
     refine s_nil (xs_held [0, 1, 3] ?_)
     exact h_use hj122 g37 (fun _ h => h.re [1, 0, 0, 0, 0, 0] [])
    ·
     refine s_alloc (.agg zc) zc (fun g139 => ?_)
     refine s_nil (xs_held [2, 2, 4] ?_)
     exact h_use hj127 (g139, g37) (fun _ h => h.re [1, 0, 0, 0, 0, 0, 0] [])
    ·
     refine s_alloc (.agg zc) zc (fun g140 => ?_)
     refine s_nil (xs_held [2, 2, 4] ?_)
     exact h_use hj129 (g140, g37) (fun _ h => h.re [1, 0, 0, 0, 0, 0, 0] [])
   refine h_join (ι := Nat × Nat) 6 #[true, true, true, true, true, true, true, true, true, true, true, true, true, false, true, true, true, true, true, true, false, true, true, false, false, false, false] (fun (g40, g41) => [(0, lv), (2, pB g1 0), (4, pB g4 0), (5, iw (i : Int)), (6, pB g40 0), (7, pB g41 0), (36, .agg (vc (ofS ((mst l i).2) y14.a))), (37, .agg #[pB hb2 0, pB hb3 0, lx]), (42, .agg #[iw y14.b.v.kind, iw y14.b.v.p, iw y14.b.v.q, sw y14.b.v.str, iw y14.b.v.ref, iw y14.b.obj]), (44, .agg #[pB hb2 0, pB hb3 0, lx]), (49, .agg #[iw y14.c.v.kind, iw y14.c.v.p, iw y14.c.v.q, sw y14.c.v.str, iw y14.c.v.ref, iw y14.c.obj])]) (fun (g40, g41) => blkA g41 zc 71 :: blkA g40 zc 71 :: own VlT lx ((mst l i).2) :: blkA g4 #[pB hb2 0, pB hb3 0, lx] 30 :: rhA hb3 ((mst l i).1) :: hpA hb2 ((mst l i).1) :: blkA g1 #[.pointer none, .pointer none, (.slice none 0 0)] 30 :: F) ?_ (fun hj141 => ?_)
   ·
    rintro ⟨g40, g41⟩
    try dsimp only
    refine h_stepS2 13 23 ?_ ?_
    ·
     refine s_call [2] (of_s (L := (mst l i).2) (by (try simp only [lnm]); omega) y14.b) ?_
     rintro _ _ ⟨rfl, rfl⟩
     refine s_nil (xs_held [0, 2, 4] ?_)
     exact h_use hj125 (g40, g41) (fun _ h => h.re [1, 1, 0, 0, 0, 0, 0] [])
    ·
     refine s_alloc (.agg zc) zc (fun g142 => ?_)
     refine s_nil (xs_held [3, 3, 5] ?_)
     exact h_use hj131 (g40, g41, g142) (fun _ h => h.re [0, 0, 0, 0, 0, 0, 0, 0] [])
   refine h_join (ι := Nat × Nat) 6 #[true, true, true, true, true, true, true, true, true, true, true, true, true, false, true, true, true, true, true, true, false, true, false, true, false, false, false] (fun (g40, g43) => [(0, lv), (2, pB g1 0), (4, pB g4 0), (5, iw (i : Int)), (6, pB g40 0), (8, pB g43 0), (36, .agg (vc (ofS ((mst l i).2) y14.a))), (37, .agg #[pB hb2 0, pB hb3 0, lx]), (42, .agg #[iw y14.b.v.kind, iw y14.b.v.p, iw y14.b.v.q, sw y14.b.v.str, iw y14.b.v.ref, iw y14.b.obj]), (44, .agg #[pB hb2 0, pB hb3 0, lx]), (49, .agg #[iw y14.c.v.kind, iw y14.c.v.p, iw y14.c.v.q, sw y14.c.v.str, iw y14.c.v.ref, iw y14.c.obj])]) (fun (g40, g43) => blkA g43 zc 71 :: blkA g40 zc 71 :: own VlT lx ((mst l i).2) :: blkA g4 #[pB hb2 0, pB hb3 0, lx] 30 :: rhA hb3 ((mst l i).1) :: hpA hb2 ((mst l i).1) :: blkA g1 #[.pointer none, .pointer none, (.slice none 0 0)] 30 :: F) ?_ (fun hj143 => ?_)
   ·
    rintro ⟨g40, g43⟩
    try dsimp only
    refine h_stepS2 13 22 ?_ ?_
    ·
     refine s_call [2] (of_s (L := (mst l i).2) (by (try simp only [lnm]); omega) y14.b) ?_
     rintro _ _ ⟨rfl, rfl⟩
     refine s_nil (xs_held [0, 2, 4] ?_)
     exact h_use hj127 (g40, g43) (fun _ h => h.re [1, 1, 0, 0, 0, 0, 0] [])
    ·
     refine s_alloc (.agg zc) zc (fun g144 => ?_)
     refine s_nil (xs_held [3, 3, 5] ?_)
     exact h_use hj131 (g40, g144, g43) (fun _ h => h.re [1, 0, 0, 0, 0, 0, 0, 0] [])
   refine h_join (ι := Nat × Nat) 6 #[true, true, true, true, true, true, true, true, true, true, true, true, true, false, true, true, true, true, true, true, false, false, true, true, false, false, false] (fun (g45, g47) => [(0, lv), (2, pB g1 0), (4, pB g4 0), (5, iw (i : Int)), (7, pB g45 0), (8, pB g47 0), (36, .agg (vc (ofS ((mst l i).2) y14.a))), (37, .agg #[pB hb2 0, pB hb3 0, lx]), (42, .agg #[iw y14.b.v.kind, iw y14.b.v.p, iw y14.b.v.q, sw y14.b.v.str, iw y14.b.v.ref, iw y14.b.obj]), (44, .agg #[pB hb2 0, pB hb3 0, lx]), (49, .agg #[iw y14.c.v.kind, iw y14.c.v.p, iw y14.c.v.q, sw y14.c.v.str, iw y14.c.v.ref, iw y14.c.obj])]) (fun (g45, g47) => blkA g47 zc 71 :: blkA g45 zc 71 :: own VlT lx ((mst l i).2) :: blkA g4 #[pB hb2 0, pB hb3 0, lx] 30 :: rhA hb3 ((mst l i).1) :: hpA hb2 ((mst l i).1) :: blkA g1 #[.pointer none, .pointer none, (.slice none 0 0)] 30 :: F) ?_ (fun hj145 => ?_)
   ·
    rintro ⟨g45, g47⟩
    try dsimp only
    refine h_stepS2 13 21 ?_ ?_
    ·
     refine s_call [2] (of_s (L := (mst l i).2) (by (try simp only [lnm]); omega) y14.b) ?_
     rintro _ _ ⟨rfl, rfl⟩
     refine s_nil (xs_held [0, 2, 4] ?_)
     exact h_use hj129 (g45, g47) (fun _ h => h.re [1, 1, 0, 0, 0, 0, 0] [])
    ·
     refine s_alloc (.agg zc) zc (fun g146 => ?_)
     refine s_nil (xs_held [3, 3, 5] ?_)
     exact h_use hj131 (g146, g45, g47) (fun _ h => h.re [1, 1, 0, 0, 0, 0, 0, 0] [])
   refine h_join (ι := Nat × Nat × Nat) 6 #[true, true, true, true, true, true, false, true, true, true, true, true, true, false, true, true, true, true, true, true, false, true, true, true, false, false, false] (fun (g52, g53, g54) => [(0, lv), (2, pB g1 0), (4, pB g4 0), (5, iw (i : Int)), (6, pB g52 0), (7, pB g53 0), (8, pB g54 0), (30, .agg #[pB hb2 0, pB hb3 0, lx]), (35, .agg #[iw y14.a.v.kind, iw y14.a.v.p, iw y14.a.v.q, sw y14.a.v.str, iw y14.a.v.ref, iw y14.a.obj]), (37, .agg #[pB hb2 0, pB hb3 0, lx]), (42, .agg #[iw y14.b.v.kind, iw y14.b.v.p, iw y14.b.v.q, sw y14.b.v.str, iw y14.b.v.ref, iw y14.b.obj]), (44, .agg #[pB hb2 0, pB hb3 0, lx]), (49, .agg #[iw y14.c.v.kind, iw y14.c.v.p, iw y14.c.v.q, sw y14.c.v.str, iw y14.c.v.ref, iw y14.c.obj])]) (fun (g52, g53, g54) => blkA g54 zc 71 :: blkA g53 zc 71 :: blkA g52 zc 71 :: own VlT lx ((mst l i).2) :: blkA g4 #[pB hb2 0, pB hb3 0, lx] 30 :: rhA hb3 ((mst l i).1) :: hpA hb2 ((mst l i).1) :: blkA g1 #[.pointer none, .pointer none, (.slice none 0 0)] 30 :: F) ?_ (fun hj147 => ?_)
   ·
    rintro ⟨g52, g53, g54⟩
    try dsimp only
    refine h_stepS 6 ?_
    refine s_call [3] (of_s (L := (mst l i).2) (by (try simp only [lnm]); omega) y14.a) ?_
    rintro _ _ ⟨rfl, rfl⟩
    refine s_nil (xs_held [0, 3, 5] ?_)
    exact h_use hj131 (g52, g53, g54) (fun _ h => h.re [1, 1, 1, 0, 0, 0, 0, 0] [])
   refine h_join (ι := Nat) 7 #[true, true, true, true, true, true, true, true, true, true, true, true, true, false, true, true, true, true, true, true, false, true, false, false, false, false, false] (fun g40 => [(0, lv), (2, pB g1 0), (4, pB g4 0), (5, iw (i : Int)), (6, pB g40 0), (36, .agg (vc (ofS ((mst l i).2) y14.a))), (37, .agg #[pB hb2 0, pB hb3 0, lx]), (42, .agg #[iw y14.b.v.kind, iw y14.b.v.p, iw y14.b.v.q, sw y14.b.v.str, iw y14.b.v.ref, iw y14.b.obj]), (44, .agg #[pB hb2 0, pB hb3 0, lx]), (49, .agg #[iw y14.c.v.kind, iw y14.c.v.p, iw y14.c.v.q, sw y14.c.v.str, iw y14.c.v.ref, iw y14.c.obj])]) (fun g40 => blkA g40 zc 71 :: own VlT lx ((mst l i).2) :: blkA g4 #[pB hb2 0, pB hb3 0, lx] 30 :: rhA hb3 ((mst l i).1) :: hpA hb2 ((mst l i).1) :: blkA g1 #[.pointer none, .pointer none, (.slice none 0 0)] 30 :: F) ?_ (fun hj148 => ?_)
   ·
    rintro g40
    try dsimp only
    refine h_stepS3 13 22 23 ?_ ?_ ?_
    ·
     refine s_call [1] (of_s (L := (mst l i).2) (by (try simp only [lnm]); omega) y14.b) ?_
     rintro _ _ ⟨rfl, rfl⟩
     refine s_nil (xs_held [0, 1, 3] ?_)
     exact h_use hj132 g40 (fun _ h => h.re [1, 0, 0, 0, 0, 0] [])
    ·
     refine s_alloc (.agg zc) zc (fun g149 => ?_)
     refine s_nil (xs_held [2, 2, 4] ?_)
     exact h_use hj141 (g40, g149) (fun _ h => h.re [0, 0, 0, 0, 0, 0, 0] [])
    ·
     refine s_alloc (.agg zc) zc (fun g150 => ?_)
     refine s_nil (xs_held [2, 2, 4] ?_)
     exact h_use hj143 (g40, g150) (fun _ h => h.re [0, 0, 0, 0, 0, 0, 0] [])
   refine h_join (ι := Nat) 7 #[true, true, true, true, true, true, true, true, true, true, true, true, true, false, true, true, true, true, true, true, false, false, true, false, false, false, false] (fun g45 => [(0, lv), (2, pB g1 0), (4, pB g4 0), (5, iw (i : Int)), (7, pB g45 0), (36, .agg (vc (ofS ((mst l i).2) y14.a))), (37, .agg #[pB hb2 0, pB hb3 0, lx]), (42, .agg #[iw y14.b.v.kind, iw y14.b.v.p, iw y14.b.v.q, sw y14.b.v.str, iw y14.b.v.ref, iw y14.b.obj]), (44, .agg #[pB hb2 0, pB hb3 0, lx]), (49, .agg #[iw y14.c.v.kind, iw y14.c.v.p, iw y14.c.v.q, sw y14.c.v.str, iw y14.c.v.ref, iw y14.c.obj])]) (fun g45 => blkA g45 zc 71 :: own VlT lx ((mst l i).2) :: blkA g4 #[pB hb2 0, pB hb3 0, lx] 30 :: rhA hb3 ((mst l i).1) :: hpA hb2 ((mst l i).1) :: blkA g1 #[.pointer none, .pointer none, (.slice none 0 0)] 30 :: F) ?_ (fun hj151 => ?_)
   ·
    rintro g45
    try dsimp only
    refine h_stepS3 13 21 23 ?_ ?_ ?_
    ·
     refine s_call [1] (of_s (L := (mst l i).2) (by (try simp only [lnm]); omega) y14.b) ?_
     rintro _ _ ⟨rfl, rfl⟩
     refine s_nil (xs_held [0, 1, 3] ?_)
     exact h_use hj135 g45 (fun _ h => h.re [1, 0, 0, 0, 0, 0] [])
    ·
     refine s_alloc (.agg zc) zc (fun g152 => ?_)
     refine s_nil (xs_held [2, 2, 4] ?_)
     exact h_use hj141 (g152, g45) (fun _ h => h.re [1, 0, 0, 0, 0, 0, 0] [])
    ·
     refine s_alloc (.agg zc) zc (fun g153 => ?_)
     refine s_nil (xs_held [2, 2, 4] ?_)
     exact h_use hj145 (g45, g153) (fun _ h => h.re [0, 0, 0, 0, 0, 0, 0] [])
   refine h_join (ι := Nat) 7 #[true, true, true, true, true, true, true, true, true, true, true, true, true, false, true, true, true, true, true, true, false, false, false, true, false, false, false] (fun g49 => [(0, lv), (2, pB g1 0), (4, pB g4 0), (5, iw (i : Int)), (8, pB g49 0), (36, .agg (vc (ofS ((mst l i).2) y14.a))), (37, .agg #[pB hb2 0, pB hb3 0, lx]), (42, .agg #[iw y14.b.v.kind, iw y14.b.v.p, iw y14.b.v.q, sw y14.b.v.str, iw y14.b.v.ref, iw y14.b.obj]), (44, .agg #[pB hb2 0, pB hb3 0, lx]), (49, .agg #[iw y14.c.v.kind, iw y14.c.v.p, iw y14.c.v.q, sw y14.c.v.str, iw y14.c.v.ref, iw y14.c.obj])]) (fun g49 => blkA g49 zc 71 :: own VlT lx ((mst l i).2) :: blkA g4 #[pB hb2 0, pB hb3 0, lx] 30 :: rhA hb3 ((mst l i).1) :: hpA hb2 ((mst l i).1) :: blkA g1 #[.pointer none, .pointer none, (.slice none 0 0)] 30 :: F) ?_ (fun hj154 => ?_)
   ·
    rintro g49
    try dsimp only
    refine h_stepS3 13 21 22 ?_ ?_ ?_
    ·
     refine s_call [1] (of_s (L := (mst l i).2) (by (try simp only [lnm]); omega) y14.b) ?_
     rintro _ _ ⟨rfl, rfl⟩
     refine s_nil (xs_held [0, 1, 3] ?_)
     exact h_use hj138 g49 (fun _ h => h.re [1, 0, 0, 0, 0, 0] [])
    ·
     refine s_alloc (.agg zc) zc (fun g155 => ?_)
     refine s_nil (xs_held [2, 2, 4] ?_)
     exact h_use hj143 (g155, g49) (fun _ h => h.re [1, 0, 0, 0, 0, 0, 0] [])
    ·
     refine s_alloc (.agg zc) zc (fun g156 => ?_)
     refine s_nil (xs_held [2, 2, 4] ?_)
     exact h_use hj145 (g156, g49) (fun _ h => h.re [1, 0, 0, 0, 0, 0, 0] [])
   refine h_join (ι := Nat × Nat) 7 #[true, true, true, true, true, true, false, true, true, true, true, true, true, false, true, true, true, true, true, true, false, true, true, false, false, false, false] (fun (g52, g53) => [(0, lv), (2, pB g1 0), (4, pB g4 0), (5, iw (i : Int)), (6, pB g52 0), (7, pB g53 0), (30, .agg #[pB hb2 0, pB hb3 0, lx]), (35, .agg #[iw y14.a.v.kind, iw y14.a.v.p, iw y14.a.v.q, sw y14.a.v.str, iw y14.a.v.ref, iw y14.a.obj]), (37, .agg #[pB hb2 0, pB hb3 0, lx]), (42, .agg #[iw y14.b.v.kind, iw y14.b.v.p, iw y14.b.v.q, sw y14.b.v.str, iw y14.b.v.ref, iw y14.b.obj]), (44, .agg #[pB hb2 0, pB hb3 0, lx]), (49, .agg #[iw y14.c.v.kind, iw y14.c.v.p, iw y14.c.v.q, sw y14.c.v.str, iw y14.c.v.ref, iw y14.c.obj])]) (fun (g52, g53) => blkA g53 zc 71 :: blkA g52 zc 71 :: own VlT lx ((mst l i).2) :: blkA g4 #[pB hb2 0, pB hb3 0, lx] 30 :: rhA hb3 ((mst l i).1) :: hpA hb2 ((mst l i).1) :: blkA g1 #[.pointer none, .pointer none, (.slice none 0 0)] 30 :: F) ?_ (fun hj157 => ?_)
   ·
    rintro ⟨g52, g53⟩
    try dsimp only
    refine h_stepS2 6 23 ?_ ?_
    ·
     refine s_call [2] (of_s (L := (mst l i).2) (by (try simp only [lnm]); omega) y14.a) ?_
     rintro _ _ ⟨rfl, rfl⟩
     refine s_nil (xs_held [0, 2, 4] ?_)
     exact h_use hj141 (g52, g53) (fun _ h => h.re [1, 1, 0, 0, 0, 0, 0] [])
    ·
     refine s_alloc (.agg zc) zc (fun g158 => ?_)
     refine s_nil (xs_held [3, 3, 5] ?_)
     exact h_use hj147 (g52, g53, g158) (fun _ h => h.re [0, 0, 0, 0, 0, 0, 0, 0] [])
   refine h_join (ι := Nat × Nat) 7 #[true, true, true, true, true, true, false, true, true, true, true, true, true, false, true, true, true, true, true, true, false, true, false, true, false, false, false] (fun (g52, g55) => [(0, lv), (2, pB g1 0), (4, pB g4 0), (5, iw (i : Int)), (6, pB g52 0), (8, pB g55 0), (30, .agg #[pB hb2 0, pB hb3 0, lx]), (35, .agg #[iw y14.a.v.kind, iw y14.a.v.p, iw y14.a.v.q, sw y14.a.v.str, iw y14.a.v.ref, iw y14.a.obj]), (37, .agg #[pB hb2 0, pB hb3 0, lx]), (42, .agg #[iw y14.b.v.kind, iw y14.b.v.p, iw y14.b.v.q, sw y14.b.v.str, iw y14.b.v.ref, iw y14.b.obj]), (44, .agg #[pB hb2 0, pB hb3 0, lx]), (49, .agg #[iw y14.c.v.kind, iw y14.c.v.p, iw y14.c.v.q, sw y14.c.v.str, iw y14.c.v.ref, iw y14.c.obj])]) (fun (g52, g55) => blkA g55 zc 71 :: blkA g52 zc 71 :: own VlT lx ((mst l i).2) :: blkA g4 #[pB hb2 0, pB hb3 0, lx] 30 :: rhA hb3 ((mst l i).1) :: hpA hb2 ((mst l i).1) :: blkA g1 #[.pointer none, .pointer none, (.slice none 0 0)] 30 :: F) ?_ (fun hj159 => ?_)
   ·
    rintro ⟨g52, g55⟩
    try dsimp only
    refine h_stepS2 6 22 ?_ ?_
    ·
     refine s_call [2] (of_s (L := (mst l i).2) (by (try simp only [lnm]); omega) y14.a) ?_
     rintro _ _ ⟨rfl, rfl⟩
     refine s_nil (xs_held [0, 2, 4] ?_)
     exact h_use hj143 (g52, g55) (fun _ h => h.re [1, 1, 0, 0, 0, 0, 0] [])
    ·
     refine s_alloc (.agg zc) zc (fun g160 => ?_)
     refine s_nil (xs_held [3, 3, 5] ?_)
     exact h_use hj147 (g52, g160, g55) (fun _ h => h.re [1, 0, 0, 0, 0, 0, 0, 0] [])
   refine h_join (ι := Nat × Nat) 7 #[true, true, true, true, true, true, false, true, true, true, true, true, true, false, true, true, true, true, true, true, false, false, true, true, false, false, false] (fun (g57, g59) => [(0, lv), (2, pB g1 0), (4, pB g4 0), (5, iw (i : Int)), (7, pB g57 0), (8, pB g59 0), (30, .agg #[pB hb2 0, pB hb3 0, lx]), (35, .agg #[iw y14.a.v.kind, iw y14.a.v.p, iw y14.a.v.q, sw y14.a.v.str, iw y14.a.v.ref, iw y14.a.obj]), (37, .agg #[pB hb2 0, pB hb3 0, lx]), (42, .agg #[iw y14.b.v.kind, iw y14.b.v.p, iw y14.b.v.q, sw y14.b.v.str, iw y14.b.v.ref, iw y14.b.obj]), (44, .agg #[pB hb2 0, pB hb3 0, lx]), (49, .agg #[iw y14.c.v.kind, iw y14.c.v.p, iw y14.c.v.q, sw y14.c.v.str, iw y14.c.v.ref, iw y14.c.obj])]) (fun (g57, g59) => blkA g59 zc 71 :: blkA g57 zc 71 :: own VlT lx ((mst l i).2) :: blkA g4 #[pB hb2 0, pB hb3 0, lx] 30 :: rhA hb3 ((mst l i).1) :: hpA hb2 ((mst l i).1) :: blkA g1 #[.pointer none, .pointer none, (.slice none 0 0)] 30 :: F) ?_ (fun hj161 => ?_)
   ·
    rintro ⟨g57, g59⟩
    try dsimp only
    refine h_stepS2 6 21 ?_ ?_
    ·
     refine s_call [2] (of_s (L := (mst l i).2) (by (try simp only [lnm]); omega) y14.a) ?_
     rintro _ _ ⟨rfl, rfl⟩
     refine s_nil (xs_held [0, 2, 4] ?_)
     exact h_use hj145 (g57, g59) (fun _ h => h.re [1, 1, 0, 0, 0, 0, 0] [])
    ·
     refine s_alloc (.agg zc) zc (fun g162 => ?_)
     refine s_nil (xs_held [3, 3, 5] ?_)
     exact h_use hj147 (g162, g57, g59) (fun _ h => h.re [1, 1, 0, 0, 0, 0, 0, 0] [])
   refine h_stepS4 6 21 22 23 ?_ ?_ ?_ ?_
   ·
    refine s_call [0] (of_s (L := (mst l i).2) (by (try simp only [lnm]); omega) y14.a) ?_
    rintro _ _ ⟨rfl, rfl⟩
    refine s_nil (xs_held [0, 0, 2] ?_)
    refine h_stepS4 13 21 22 23 ?_ ?_ ?_ ?_
    ·
     refine s_call [0] (of_s (L := (mst l i).2) (by (try simp only [lnm]); omega) y14.b) ?_
     rintro _ _ ⟨rfl, rfl⟩
     refine s_nil (xs_held [0, 0, 2] ?_)
     refine h_stepS4 20 21 22 23 ?_ ?_ ?_ ?_
     ·
      refine s_call [0] (of_s (L := (mst l i).2) (by (try simp only [lnm]); omega) y14.c) ?_
      rintro _ _ ⟨rfl, rfl⟩
      refine s_nil (xs_held [0, 0, 2] ?_)
      refine h_stepS3 21 22 23 ?_ ?_ ?_
      ·
       refine s_alloc (.agg zc) zc (fun g163 => ?_)
       refine s_nil (xs_held [1, 1, 3] ?_)
       exact h_use hj116 g163 (fun _ h => h.re [0, 0, 0, 0, 0, 0] [])
      ·
       refine s_alloc (.agg zc) zc (fun g164 => ?_)
       refine s_nil (xs_held [1, 1, 3] ?_)
       exact h_use hj119 g164 (fun _ h => h.re [0, 0, 0, 0, 0, 0] [])
      ·
       refine s_alloc (.agg zc) zc (fun g165 => ?_)
       refine s_nil (xs_held [1, 1, 3] ?_)
       exact h_use hj122 g165 (fun _ h => h.re [0, 0, 0, 0, 0, 0] [])
     ·
      refine s_alloc (.agg zc) zc (fun g166 => ?_)
      refine s_nil (xs_held [1, 1, 3] ?_)
      exact h_use hj132 g166 (fun _ h => h.re [0, 0, 0, 0, 0, 0] [])
     ·
      refine s_alloc (.agg zc) zc (fun g167 => ?_)
      refine s_nil (xs_held [1, 1, 3] ?_)
      exact h_use hj135 g167 (fun _ h => h.re [0, 0, 0, 0, 0, 0] [])
     ·
      refine s_alloc (.agg zc) zc (fun g168 => ?_)
      refine s_nil (xs_held [1, 1, 3] ?_)
      exact h_use hj138 g168 (fun _ h => h.re [0, 0, 0, 0, 0, 0] [])
    ·
     refine s_alloc (.agg zc) zc (fun g169 => ?_)
     refine s_nil (xs_held [1, 1, 3] ?_)
     exact h_use hj148 g169 (fun _ h => h.re [0, 0, 0, 0, 0, 0] [])
    ·
     refine s_alloc (.agg zc) zc (fun g170 => ?_)
     refine s_nil (xs_held [1, 1, 3] ?_)
     exact h_use hj151 g170 (fun _ h => h.re [0, 0, 0, 0, 0, 0] [])
    ·
     refine s_alloc (.agg zc) zc (fun g171 => ?_)
     refine s_nil (xs_held [1, 1, 3] ?_)
     exact h_use hj154 g171 (fun _ h => h.re [0, 0, 0, 0, 0, 0] [])
   ·
    refine s_alloc (.agg zc) zc (fun g172 => ?_)
    refine s_nil (xs_held [1, 1, 3] ?_)
    refine h_stepS3 6 22 23 ?_ ?_ ?_
    ·
     refine s_call [1] (of_s (L := (mst l i).2) (by (try simp only [lnm]); omega) y14.a) ?_
     rintro _ _ ⟨rfl, rfl⟩
     refine s_nil (xs_held [0, 1, 3] ?_)
     exact h_use hj148 g172 (fun _ h => h.re [1, 0, 0, 0, 0, 0] [])
    ·
     refine s_alloc (.agg zc) zc (fun g173 => ?_)
     refine s_nil (xs_held [2, 2, 4] ?_)
     exact h_use hj157 (g172, g173) (fun _ h => h.re [0, 0, 0, 0, 0, 0, 0] [])
    ·
     refine s_alloc (.agg zc) zc (fun g174 => ?_)
     refine s_nil (xs_held [2, 2, 4] ?_)
     exact h_use hj159 (g172, g174) (fun _ h => h.re [0, 0, 0, 0, 0, 0, 0] [])
   ·
    refine s_alloc (.agg zc) zc (fun g175 => ?_)
    refine s_nil (xs_held [1, 1, 3] ?_)
    refine h_stepS3 6 21 23 ?_ ?_ ?_
    ·
     refine s_call [1] (of_s (L := (mst l i).2) (by (try simp only [lnm]); omega) y14.a) ?_
     rintro _ _ ⟨rfl, rfl⟩
     refine s_nil (xs_held [0, 1, 3] ?_)
     exact h_use hj151 g175 (fun _ h => h.re [1, 0, 0, 0, 0, 0] [])
    ·
     refine s_alloc (.agg zc) zc (fun g176 => ?_)
     refine s_nil (xs_held [2, 2, 4] ?_)
     exact h_use hj157 (g176, g175) (fun _ h => h.re [1, 0, 0, 0, 0, 0, 0] [])
    ·
     refine s_alloc (.agg zc) zc (fun g177 => ?_)
     refine s_nil (xs_held [2, 2, 4] ?_)
     exact h_use hj161 (g175, g177) (fun _ h => h.re [0, 0, 0, 0, 0, 0, 0] [])
   ·
    refine s_alloc (.agg zc) zc (fun g178 => ?_)
    refine s_nil (xs_held [1, 1, 3] ?_)
    refine h_stepS3 6 21 22 ?_ ?_ ?_
    ·
     refine s_call [1] (of_s (L := (mst l i).2) (by (try simp only [lnm]); omega) y14.a) ?_
     rintro _ _ ⟨rfl, rfl⟩
     refine s_nil (xs_held [0, 1, 3] ?_)
     exact h_use hj154 g178 (fun _ h => h.re [1, 0, 0, 0, 0, 0] [])
    ·
     refine s_alloc (.agg zc) zc (fun g179 => ?_)
     refine s_nil (xs_held [2, 2, 4] ?_)
     exact h_use hj159 (g179, g178) (fun _ h => h.re [1, 0, 0, 0, 0, 0, 0] [])
    ·
     refine s_alloc (.agg zc) zc (fun g180 => ?_)
     refine s_nil (xs_held [2, 2, 4] ?_)
     exact h_use hj161 (g180, g178) (fun _ h => h.re [1, 0, 0, 0, 0, 0, 0] [])
  ·
   have p181 := c9
   simp only [Bool.and_eq_true, Bool.or_eq_true, Bool.and_eq_false_iff, Bool.or_eq_false_iff, Bool.not_eq_true', Bool.not_eq_false', decide_eq_true_eq, decide_eq_false_iff_not] at p181
   refine k_exit ?_
   refine xs_exit ?_
   refine xs_exit ?_
   refine xs_here ?_
   refine xs_then <| k_sr <| s_lt (t_loadA 1 #[pB hb2 0, pB hb3 0, lx]) ?_
   refine s_fact (fun H h => ((Acc.own (T := VlT) (L := (mst l i).2) 0 rfl) H h).form) (fun hf182 => ?_)
   refine s_store (u := .agg #[pB hb2 0, pB hb3 0, lx]) (m := 3) 4 #[pB hb2 0, pB hb3 0, lx] ?_ (hm := by (obtain ⟨_, _, e⟩ := hf182; rw [e]; rfl)) (h1 := by (obtain ⟨_, _, e⟩ := hf182; rw [e]; rfl)) (ha' := by (obtain ⟨_, _, e⟩ := hf182; rw [e]; rfl))
   refine sp (.bool true) ?_
   refine s_nt <| k_ret ?_
   have hend : made l = mst l i := by unfold made; congr 1; omega
   exact xs_fin [.agg #[.pointer (some ⟨hb2, 0, none⟩), .pointer (some ⟨hb3, 0, none⟩), lx], .bool true] (hpA hb2 (mst l i).1 :: rhA hb3 (mst l i).1 :: own VlT lx (mst l i).2 :: F) (SI.agg 2 30 4 (SI.tmp 3 SI.nil)) (fun _ h => h.re [3, 2, 0] [3, 3]) ⟨hb2, hb3, lx, rfl, by rw [hend]⟩
end Go.Proofs.YtmhpcebiamkciaaGreat
end
section
set_option linter.unusedSimpArgs false
set_option linter.unusedVariables false
set_option maxRecDepth 100000
set_option maxHeartbeats 2000000
namespace Go.Proofs.YtmhpcebiamkciaaGreat
open Go.Hp Go.J Go.S
open Go.Mem (Ty KTy blk elemAt pre suf blk_pre blk_suf aget aset strK aggDesc)
open Go.Mem (adel apos aget_aset aget_adel)
structure Ob where
  id : Int
  size : Int
  weak : Int
  rv : Sv
  ev : Sv
  refs : List Int
  ents : List Ent
abbrev Ob.v (x : Ob) : Value := .agg #[iw x.id, iw x.size, iw x.weak, x.rv.v, x.ev.v]
def ObT : Ty Ob := ⟨100, 5, 72, true, Ob.v, ⟨0, 0, 0, ⟨none, 0, 0⟩, ⟨none, 0, 0⟩, [], []⟩⟩
theorem ObT_ok : ObT.Ok Tryz.prog := ok_of ObT _ Tryz.t100 (by decide) (fun _ => rfl) (fun x u hu => by simp [Ty.enc, ObT, Value.cells] at hu; rcases hu with rfl | rfl | rfl | rfl | rfl <;> rfl) (fun _ => rfl) Tryz.underlying100 rfl (fun h => by cases h) (by kernel_rfl) (by kernel_rfl) (by kernel_rfl) (by kernel_rfl)
def KnO (Z : Zone) (x : Ob) : Prop := Kn Z iTy x.rv.v x.refs ∧ Kn Z EntT x.ev.v x.ents
structure KnG (Z : Zone) (ov rv : Value) (l : List Ob) (R : List Int) : Prop where
  obs : Kn Z ObT ov l
  roots : Kn Z iTy rv R
  each : ∀ x ∈ l, KnO Z x
theorem KnG.up {Z : Zone} {As : List Asr} {H : Heap} {ov rv : Value} {l : List Ob} {R : List Int} (k : KnG Z ov rv l R) (h : Holds Z As H) : KnG (zoneOf H) ov rv l R :=
  ⟨k.obs.up h, k.roots.up h, fun x hx => ⟨(k.each x hx).1.up h, (k.each x hx).2.up h⟩⟩
def GrA (ov rv : Value) (l : List Ob) (R : List Int) (H : Heap) : Prop := Sl H ObT ov l ∧ Sl H iTy rv R ∧ ∀ x ∈ l, Sl H iTy x.rv.v x.refs ∧ Sl H EntT x.ev.v x.ents
theorem GrA.kn {ov rv : Value} {l : List Ob} {R : List Int} {H : Heap} (h : GrA ov rv l R H) : KnG (zoneOf H) ov rv l R := ⟨.of h.1, .of h.2.1, fun x hx => ⟨.of (h.2.2 x hx).1, .of (h.2.2 x hx).2⟩⟩
abbrev Ob.c (x : Ob) : Int × Int × Int × List Int × List Ent := (x.id, x.size, x.weak, x.refs, x.ents)
def chk (last : Int) : List Ob → Bool
  | [] => true
  | x :: r => !(decide (x.id ≤ last) || (decide (x.size < 0) || (decide (x.weak < 0) || decide (3 < x.weak)))) && chk x.id r
theorem chk_drop {last : Int} {l : List Ob} {i : Nat} {y : Ob} (hy : l[i]? = some y) : chk last (l.drop i) = (!(decide (y.id ≤ last) || (decide (y.size < 0) || (decide (y.weak < 0) || decide (3 < y.weak)))) && chk y.id (l.drop (i + 1))) := by
  have h : l.drop i = y :: l.drop (i + 1) := by
    obtain ⟨hi, e⟩ := List.getElem?_eq_some_iff.1 hy
    rw [← e]; exact List.drop_eq_getElem_cons hi
  rw [h]; rfl
abbrev Asc (l : List Ob) : Prop := l.Pairwise (fun x y => x.id < y.id)
theorem asc_lt {l : List Ob} (h : Asc l) {i j : Nat} {x y : Ob} (hx : l[i]? = some x) (hy : l[j]? = some y) (hij : i < j) : x.id < y.id := by
  obtain ⟨hi, e1⟩ := List.getElem?_eq_some_iff.1 hx
  obtain ⟨hj, e2⟩ := List.getElem?_eq_some_iff.1 hy
  rw [← e1, ← e2]; exact List.pairwise_iff_getElem.1 h i j hi hj hij
theorem asc_inj {l : List Ob} (h : Asc l) {i j : Nat} {x y : Ob} (hx : l[i]? = some x) (hy : l[j]? = some y) (e : x.id = y.id) : i = j := by
  rcases Nat.lt_trichotomy i j with hij | rfl | hij
  · have := asc_lt h hx hy hij; omega
  · rfl
  · have := asc_lt h hy hx hij; omega
def fnd (l : List Ob) (id : Int) : Option Ob := l.find? fun o => decide (o.id = id)
theorem fnd_id {l : List Ob} {id : Int} {o : Ob} (h : fnd l id = some o) : o.id = id ∧ o ∈ l := by
  have h1 := List.find?_some h
  exact ⟨by simpa using h1, List.mem_of_find?_eq_some h⟩
theorem fnd_none {l : List Ob} {id : Int} (h : fnd l id = none) : ∀ o ∈ l, o.id ≠ id := by
  intro o ho
  have := List.find?_eq_none.1 h o ho
  simpa using this
theorem fnd_mem {l : List Ob} (h : Asc l) {o : Ob} (ho : o ∈ l) : fnd l o.id = some o := by
  cases hf : fnd l o.id with
  | none => exact absurd rfl (fnd_none hf o ho)
  | some p =>
    obtain ⟨h1, h2⟩ := fnd_id hf
    obtain ⟨i, hi⟩ := List.mem_iff_getElem?.1 ho
    obtain ⟨j, hj⟩ := List.mem_iff_getElem?.1 h2
    have := asc_inj h hj hi h1
    subst this
    rw [hi] at hj; rw [hj]
theorem half (a b : Nat) : Int.tdiv ((a : Int) + (b : Int)) 2 = (((a + b) / 2 : Nat) : Int) := by
  rw [← Int.natCast_add, Int.tdiv_eq_ediv_of_nonneg (by omega)]; omega
theorem take_eq_succ {α : Type} {A B : List α} {i : Nat} {x y : α} (h : A.take i = B.take i) (hx : A[i]? = some x) (hy : B[i]? = some y) (e : x = y) : A.take (i + 1) = B.take (i + 1) := by
  rw [List.take_add_one, List.take_add_one, h, hx, hy, e]
theorem ne_of_get {α : Type} {A B : List α} {i : Nat} {x y : α} (hx : A[i]? = some x) (hy : B[i]? = some y) (h : x ≠ y) : A ≠ B := by
  rintro rfl; rw [hx] at hy; exact h (Option.some.inj hy)
theorem take_all {α : Type} {A B : List α} {i : Nat} (h : A.take i = B.take i) (h1 : A.length ≤ i) (h2 : B.length ≤ i) : A = B := by
  rwa [List.take_of_length_le h1, List.take_of_length_le h2] at h
structure Bis (ks : List Int) (n : Int) (lo hi : Nat) : Prop where
  le : lo ≤ hi
  top : hi ≤ ks.length
  below : ∀ (j : Nat) y, j < lo → ks[j]? = some y → y < n
  above : ∀ (j : Nat) y, hi ≤ j → ks[j]? = some y → n ≤ y
theorem bis0 (ks : List Int) (n : Int) : Bis ks n 0 ks.length := ⟨Nat.zero_le _, Nat.le_refl _, fun j y h => absurd h (Nat.not_lt_zero _), fun j y h hy => by rw [List.getElem?_eq_none h] at hy; cases hy⟩
theorem get_lt {ks : List Int} (h : ks.Pairwise (· < ·)) {i j : Nat} {x y : Int} (hx : ks[i]? = some x) (hy : ks[j]? = some y) (hij : i < j) : x < y := by
  obtain ⟨hi, e1⟩ := List.getElem?_eq_some_iff.1 hx
  obtain ⟨hj, e2⟩ := List.getElem?_eq_some_iff.1 hy
  rw [← e1, ← e2]; exact List.pairwise_iff_getElem.1 h i j hi hj hij
theorem Bis.up {ks : List Int} (hs : ks.Pairwise (· < ·)) {n y : Int} {lo hi md : Nat} (h : Bis ks n lo hi) (hy : ks[md]? = some y) (hm : lo ≤ md ∧ md < hi) (hlt : y < n) : Bis ks n (md + 1) hi :=
  ⟨by omega, h.top, fun j z hj hz => by
    rcases Nat.lt_or_ge j md with h1 | h1
    · have := get_lt hs hz hy h1; omega
    · have : j = md := by omega
      subst this; rw [hy] at hz; cases hz; exact hlt, h.above⟩
theorem Bis.down {ks : List Int} (hs : ks.Pairwise (· < ·)) {n y : Int} {lo hi md : Nat} (h : Bis ks n lo hi) (hy : ks[md]? = some y) (hm : lo ≤ md ∧ md < hi) (hge : ¬ y < n) : Bis ks n lo md :=
  ⟨hm.1, by have := h.top; omega, h.below, fun j z hj hz => by
    rcases Nat.lt_or_ge md j with h1 | h1
    · have := get_lt hs hy hz h1; omega
    · have : j = md := by omega
      subst this; rw [hy] at hz; cases hz; omega⟩
theorem Bis.end_ {ks : List Int} (hs : ks.Pairwise (· < ·)) {n : Int} {lo hi : Nat} (h : Bis ks n lo hi) (he : ¬ lo < hi) : n ∈ ks ↔ ks[lo]? = some n := by
  have hl : lo = hi := by have := h.le; omega
  subst hl
  constructor
  · intro hm
    obtain ⟨j, hj⟩ := List.mem_iff_getElem?.1 hm
    rcases Nat.lt_trichotomy j lo with h1 | rfl | h1
    · have := h.below j n h1 hj; omega
    · exact hj
    · have hjl : j < ks.length := (List.getElem?_eq_some_iff.1 hj).1
      obtain ⟨y, hy⟩ : ∃ y, ks[lo]? = some y := ⟨_, List.getElem?_eq_getElem (by omega)⟩
      have h2 := h.above lo y (Nat.le_refl _) hy
      have h3 := get_lt hs hy hj h1
      omega
  · exact fun h => List.mem_of_getElem? h
theorem Bis.found {ks : List Int} (hs : ks.Pairwise (· < ·)) {n y : Int} {lo hi : Nat} (h : Bis ks n lo hi) (he : ¬ lo < hi) (hy : ks[lo]? = some y) : decide (y = n) = decide (n ∈ ks) := by
  rw [decide_eq_decide, h.end_ hs he, hy]; exact ⟨fun h => by rw [h], fun h => Option.some.inj h⟩
theorem Bis.lost {ks : List Int} (hs : ks.Pairwise (· < ·)) {n : Int} {lo hi : Nat} (h : Bis ks n lo hi) (he : ¬ lo < hi) (hy : ¬ lo < ks.length) : false = decide (n ∈ ks) := by
  refine (decide_eq_false fun hm => ?_).symm
  rw [h.end_ hs he, List.getElem?_eq_none (by omega)] at hm; cases hm
theorem ids_asc {l : List Ob} (h : Asc l) : (l.map Ob.id).Pairwise (· < ·) := by rw [List.pairwise_map]; exact h
theorem ids_get {l : List Ob} {i : Nat} {y : Ob} (h : l[i]? = some y) : (l.map Ob.id)[i]? = some y.id := by rw [List.getElem?_map, h]; rfl
def gfI (l : List Ob) (id : Int) : Int := match (l.map Ob.id).findIdx? (fun x => decide (x = id)) with | some i => (i : Int) | none => -1
theorem gfI_some {l : List Ob} (h : Asc l) {i : Nat} {y : Ob} (hy : l[i]? = some y) : gfI l y.id = (i : Int) := by
  unfold gfI
  cases hf : (l.map Ob.id).findIdx? (fun x => decide (x = y.id)) with
  | none =>
    have := List.findIdx?_eq_none_iff.1 hf y.id (List.mem_of_getElem? (ids_get hy))
    simp at this
  | some j =>
    obtain ⟨hj, h1, _⟩ := List.findIdx?_eq_some_iff_getElem.1 hf
    have h2 : l[j]? = some (l[j]'(by simpa using hj)) := List.getElem?_eq_getElem _
    have h3 : (l[j]'(by simpa using hj)).id = y.id := by simpa using h1
    have := asc_inj h h2 hy h3
    subst this; rfl
theorem gfI_none {l : List Ob} {id : Int} (h : id ∉ l.map Ob.id) : gfI l id = -1 := by
  unfold gfI
  have : (l.map Ob.id).findIdx? (fun x => decide (x = id)) = none := List.findIdx?_eq_none_iff.2 fun x hx => by
    simp; rintro rfl; exact h hx
  rw [this]
theorem gfd_cases {l : List Ob} (h : Asc l) (id : Int) : (fnd l id = none ∧ gfI l id = -1) ∨ ∃ i o, l[i]? = some o ∧ o.id = id ∧ fnd l id = some o ∧ gfI l id = ((i : Nat) : Int) := by
  cases hf : fnd l id with
  | none =>
    refine .inl ⟨rfl, gfI_none fun hm => ?_⟩
    obtain ⟨o, ho, e⟩ := List.mem_map.1 hm
    exact fnd_none hf o ho e
  | some o =>
    obtain ⟨h1, h2⟩ := fnd_id hf
    obtain ⟨i, hi⟩ := List.mem_iff_getElem?.1 h2
    exact .inr ⟨i, o, hi, h1, rfl, by rw [← h1]; exact gfI_some h hi⟩
def errI (b : Bool) : Int := if b then 0 else 2
theorem find2_s {Z : Zone} {ov rv : Value} {l : List Ob} {R : List Int} (hg : KnG Z ov rv l R) (hs : Asc l) (hl : l.length ≤ 1000000) (id : Int) : SF Tryz.prog 99 #[.agg #[ov, rv], iw id] Z [] fun r Bs => r = iw (gfI l id) ∧ Bs = [] := by
  refine sf_enter Tryz.func99 45 [(0, .agg #[ov, rv]), (1, iw id)] (fun w0 => ?_)
  refine k_seq <| k_reg ?_
  refine s_box #[ov, rv] (fun g1 => ?_)
  refine s_lt (t_pure (iw 0)) ?_
  refine s_nil <| xs_then <| k_seq <| k_draw ?_
  refine s_lt (t_pure (.pointer (some ⟨g1, 0, none⟩))) ?_
  refine s_lt (t_load 0 ov) ?_
  refine s_fact (fun H h => ((Acc.zn hg.obs) H h).form) (fun hf2 => ?_)
  refine s_lt (t_len ObT_ok Tryz.underlying55 (.zn hg.obs)) ?_
  refine s_lt (t_pure (iw 0)) ?_
  refine s_lt (t_pure (iw (l.length : Int))) ?_
  refine s_nil <| x_dynS (fun _ h => by obtain ⟨_, _, e⟩ := hf2; subst e; kernel_rfl) ?_
  refine xs_then <| k_seq <| k_block ?_
  refine k_loop (ι := Nat × Nat) (fun (lo, hi) => Bis (l.map Ob.id) id lo hi) (fun (lo, hi) => [(1, iw id), (2, .pointer (some ⟨g1, 0, none⟩)), (4, iw 0), (5, iw (lo : Int)), (6, iw (hi : Int))]) (fun (lo, hi) => [blkA g1 #[ov, rv] 57]) (fun (lo, hi) => hi - lo) (0, l.length) (by have := bis0 (l.map Ob.id) id; rwa [List.length_map] at this) (sub_of rfl ⟨⟨rfl, rfl⟩, ⟨⟨rfl, rfl⟩, ⟨⟨rfl, rfl⟩, ⟨⟨rfl, rfl⟩, ⟨⟨rfl, rfl⟩, trivial⟩⟩⟩⟩⟩) (fun _ h => h.re [0] []) ?_
  rintro ⟨lo, hi⟩ hi3
  replace hi3 : Bis (l.map Ob.id) id lo hi := hi3
  show SK _ _ _ _ _ [(1, iw id), (2, .pointer (some ⟨g1, 0, none⟩)), (4, iw 0), (5, iw (lo : Int)), (6, iw (hi : Int))] _ [blkA g1 #[ov, rv] 57]
  have htop := hi3.top; rw [List.length_map] at htop
  refine k_seq <| k_seq <| k_reg ?_
  refine s_lt (t_pure (iw (lo : Int))) ?_
  refine s_lt (t_pure (iw (hi : Int))) ?_
  refine s_lt t_cmp ?_
  refine s_nil <| xs_then <| k_cond (decide ((lo : Int) < (hi : Int))) (fun c4 => ?_) (fun c4 => ?_)
  ·
    have p5 := of_decide_eq_true c4
    refine k_skip ?_
    refine xs_then <| k_block ?_
    refine k_seq <| k_reg ?_
    refine s_lt (t_pure (iw (lo : Int))) ?_
    refine s_lt (t_pure (iw (hi : Int))) ?_
    refine s_lt (t_add (lo : Int) (hi : Int) (by (try simp only [List.length_nil, List.length_cons, List.length_append, List.length_take, List.length_drop, List.length_set, List.length_replicate, List.length_reverse]); omega)) ?_
    obtain ⟨md6, hmd7⟩ : ∃ m : Nat, m = (lo + hi) / 2 := ⟨_, rfl⟩
    refine s_lt (Lt.to (v' := iw (md6 : Int)) (t_quo ((lo : Int) + (hi : Int)) 2 (by decide) (by rw [half]; omega)) (by rw [half, ← hmd7])) ?_
    refine s_lt (t_pure (iw (md6 : Int))) ?_
    refine s_nil <| xs_then <| k_seq <| k_reg ?_
    refine s_lt (t_pure (.pointer (some ⟨g1, 0, none⟩))) ?_
    refine s_lt (t_load 0 ov) ?_
    refine s_lt (t_pure (iw (md6 : Int))) ?_
    refine s_lt (t_index ObT_ok Tryz.underlying55 (.zn hg.obs) (md6 : Int) md6 (by omega) (by (try simp only [List.length_nil, List.length_cons, List.length_append, List.length_take, List.length_drop, List.length_set, List.length_replicate, List.length_reverse]); omega) (by omega)) ?_
    refine s_lt (t_pure (.pointer (some (elemAt ObT.size ov md6)))) ?_
    obtain ⟨y8, hy9⟩ : ∃ y, l[md6]? = some y := ⟨_, List.getElem?_eq_getElem (by (try simp only [List.length_nil, List.length_cons, List.length_append, List.length_take, List.length_drop, List.length_set, List.length_replicate, List.length_reverse]); omega)⟩
    have hk10 := hg.each y8 (List.mem_of_getElem? hy9)
    refine s_lt (t_loadF 0 ObT_ok (.zn hg.obs) hy9) ?_
    refine s_lt (t_pure (iw id)) ?_
    refine s_lt t_cmp ?_
    refine s_nil <| xs_then <| k_cond (decide (y8.id < id)) (fun c11 => ?_) (fun c11 => ?_)
    ·
      have p12 := of_decide_eq_true c11
      refine k_reg ?_
      refine s_lt (t_pure (iw (md6 : Int))) ?_
      refine s_lt (t_add (md6 : Int) 1 (by (try simp only [List.length_nil, List.length_cons, List.length_append, List.length_take, List.length_drop, List.length_set, List.length_replicate, List.length_reverse]); omega)) ?_
      refine s_lt (t_pure (iw ((md6 : Int) + 1))) ?_
      refine s_nil <| xs_block ?_
      exact xs_round (md6 + 1, hi) (by show hi - (md6 + 1) < hi - lo; omega) (hi3.up (ids_asc hs) (ids_get hy9) (by omega) p12) (sub_of rfl ⟨⟨rfl, rfl⟩, ⟨⟨rfl, rfl⟩, ⟨⟨rfl, rfl⟩, ⟨⟨rfl, rfl⟩, ⟨⟨rfl, rfl⟩, trivial⟩⟩⟩⟩⟩) (fun _ h => h.re [0] [])
    ·
      have p13 := of_decide_eq_false c11
      refine k_reg ?_
      refine s_lt (t_pure (iw (md6 : Int))) ?_
      refine s_lt (t_pure (iw (md6 : Int))) ?_
      refine s_nil <| xs_block ?_
      exact xs_round (lo, md6) (by show md6 - lo < hi - lo; omega) (hi3.down (ids_asc hs) (ids_get hy9) (by omega) p13) (sub_of rfl ⟨⟨rfl, rfl⟩, ⟨⟨rfl, rfl⟩, ⟨⟨rfl, rfl⟩, ⟨⟨rfl, rfl⟩, ⟨⟨rfl, rfl⟩, trivial⟩⟩⟩⟩⟩) (fun _ h => h.re [0] [])
  ·
    have p14 := of_decide_eq_false c4
    refine k_exit ?_
    refine xs_exit ?_
    refine xs_exit ?_
    refine xs_here ?_
    refine xs_then <| k_seq <| k_seq <| k_reg ?_
    refine s_lt (t_pure (iw (lo : Int))) ?_
    refine s_lt (t_pure (.pointer (some ⟨g1, 0, none⟩))) ?_
    refine s_lt (t_load 0 ov) ?_
    refine s_lt (t_len ObT_ok Tryz.underlying55 (.zn hg.obs)) ?_
    refine s_lt t_cmp ?_
    refine s_lt (t_pure (.bool (decide ((lo : Int) < (l.length : Int))))) ?_
    refine s_fork 34 (decide ((lo : Int) < (l.length : Int))) (fun c15 => ?_) (fun c15 => ?_)
    ·
      have p16 := of_decide_eq_true c15
      refine s_lt (t_pure (.pointer (some ⟨g1, 0, none⟩))) ?_
      refine s_lt (t_load 0 ov) ?_
      refine s_lt (t_pure (iw (lo : Int))) ?_
      refine s_lt (t_index ObT_ok Tryz.underlying55 (.zn hg.obs) (lo : Int) lo (by omega) (by (try simp only [List.length_nil, List.length_cons, List.length_append, List.length_take, List.length_drop, List.length_set, List.length_replicate, List.length_reverse]); omega) (by omega)) ?_
      refine s_lt (t_pure (.pointer (some (elemAt ObT.size ov lo)))) ?_
      obtain ⟨y17, hy18⟩ : ∃ y, l[lo]? = some y := ⟨_, List.getElem?_eq_getElem (by (try simp only [List.length_nil, List.length_cons, List.length_append, List.length_take, List.length_drop, List.length_set, List.length_replicate, List.length_reverse]); omega)⟩
      have hk19 := hg.each y17 (List.mem_of_getElem? hy18)
      refine s_lt (t_loadF 0 ObT_ok (.zn hg.obs) hy18) ?_
      refine s_lt (t_pure (iw id)) ?_
      refine s_lt t_cmp ?_
      refine s_lt (t_pure (.bool (decide (y17.id = id)))) ?_
      refine s_nil <| xs_then <| k_cond (decide (y17.id = id)) (fun c20 => ?_) (fun c20 => ?_)
      ·
        have p21 := of_decide_eq_true c20
        refine k_seq <| k_reg ?_
        refine s_lt (t_pure (iw (lo : Int))) ?_
        refine s_lt (t_pure (iw (lo : Int))) ?_
        refine s_nil <| xs_then <| k_ret <| xs_ret <| xs_fin [iw (lo : Int)] [] (SI.tmp 4 SI.nil) (fun _ h => h.re [] [0]) ⟨congrArg (Value.int .i64) ?_, rfl⟩
        rw [← p21]; exact (gfI_some hs hy18).symm
      ·
        have p22 := of_decide_eq_false c20
        refine k_skip ?_
        refine xs_then <| k_seq <| k_reg ?_
        refine s_lt (t_pure (iw (-1))) ?_
        refine s_nil <| xs_then <| k_ret <| xs_fin [iw (-1)] [] (SI.tmp 4 SI.nil) (fun _ h => h.re [] [0]) ⟨congrArg (Value.int .i64) ?_, rfl⟩
        refine (gfI_none fun hm => ?_).symm
        have hx := hi3.found (ids_asc hs) (by omega) (ids_get hy18); rw [decide_eq_true hm] at hx; exact p22 (of_decide_eq_true hx)
    ·
      have p23 := of_decide_eq_false c15
      refine s_skip ?_
      refine s_skip ?_
      refine s_skip ?_
      refine s_skip ?_
      refine s_skip ?_
      refine s_skip ?_
      refine s_skip ?_
      refine s_skip ?_
      refine s_lt (t_pure (.bool false)) ?_
      refine s_nil <| xs_then <| k_false ?_
      refine k_skip ?_
      refine xs_then <| k_seq <| k_reg ?_
      refine s_lt (t_pure (iw (-1))) ?_
      refine s_nil <| xs_then <| k_ret <| xs_fin [iw (-1)] [] (SI.tmp 4 SI.nil) (fun _ h => h.re [] [0]) ⟨congrArg (Value.int .i64) ?_, rfl⟩
      refine (gfI_none fun hm => ?_).symm
      have hx := hi3.lost (ids_asc hs) (by omega) (by rw [List.length_map]; omega); rw [decide_eq_true hm] at hx; cases hx
theorem rcheck_s {Z : Zone} {ov rv : Value} {l : List Ob} {R : List Int} (hg : KnG Z ov rv l R) : SF Tryz.prog 122 #[.agg #[ov, rv]] Z [] fun r Bs => r = iw (errI (chk 0 l)) ∧ Bs = [] := by
  refine sf_enter Tryz.func122 51 [(0, .agg #[ov, rv])] (fun w0 => ?_)
  refine k_fact (fun H h => (hg.obs.get h).len_le) (fun lA => ?_)
  refine k_seq <| k_reg ?_
  refine s_box #[ov, rv] (fun g1 => ?_)
  refine s_lt (t_pure (iw 0)) ?_
  refine s_nil <| xs_then <| k_seq <| k_seq <| k_reg ?_
  refine s_lt (t_pure (iw 0)) ?_
  refine s_nil <| xs_then <| k_block ?_
  refine k_loop (ι := Int × Nat) (fun (last, i) => i ≤ l.length ∧ chk 0 l = chk last (l.drop i) ∧ 0 ≤ last ∧ last = (if i = 0 then 0 else ((l.map Ob.id)[i - 1]?).getD 0)) (fun (last, i) => [(1, .pointer (some ⟨g1, 0, none⟩)), (2, iw 0), (3, iw (i : Int))]) (fun (last, i) => [blkA g1 #[ov, rv] 57]) (fun (last, i) => l.length - i) (0, 0) ⟨Nat.zero_le _, rfl, Int.le_refl _, rfl⟩ (sub_of rfl ⟨⟨rfl, rfl⟩, ⟨⟨rfl, rfl⟩, ⟨⟨rfl, rfl⟩, trivial⟩⟩⟩) (fun _ h => h.re [0] []) ?_
  rintro ⟨last, i⟩ hi2
  replace hi2 : i ≤ l.length ∧ chk 0 l = chk last (l.drop i) ∧ 0 ≤ last ∧ last = (if i = 0 then 0 else ((l.map Ob.id)[i - 1]?).getD 0) := hi2
  show SK _ _ _ _ _ [(1, .pointer (some ⟨g1, 0, none⟩)), (2, iw 0), (3, iw (i : Int))] _ [blkA g1 #[ov, rv] 57]
  obtain ⟨hj1, hj2, hj3, hj4⟩ := id hi2
  refine k_seq <| k_seq <| k_reg ?_
  refine s_lt (t_pure (iw (i : Int))) ?_
  refine s_lt (t_pure (.pointer (some ⟨g1, 0, none⟩))) ?_
  refine s_lt (t_load 0 ov) ?_
  refine s_lt (t_len ObT_ok Tryz.underlying55 (.zn hg.obs)) ?_
  refine s_lt t_cmp ?_
  refine s_nil <| xs_then <| k_cond (decide ((i : Int) < (l.length : Int))) (fun c3 => ?_) (fun c3 => ?_)
  ·
    have p4 := of_decide_eq_true c3
    refine k_skip ?_
    refine xs_then <| k_seq <| k_block ?_
    refine k_seq <| k_reg ?_
    refine s_lt (t_pure (.pointer (some ⟨g1, 0, none⟩))) ?_
    refine s_lt (t_load 0 ov) ?_
    refine s_lt (t_pure (iw (i : Int))) ?_
    refine s_lt (t_index ObT_ok Tryz.underlying55 (.zn hg.obs) (i : Int) i (by omega) (by (try simp only [List.length_nil, List.length_cons, List.length_append, List.length_take, List.length_drop, List.length_set, List.length_replicate, List.length_reverse]); omega) (by omega)) ?_
    obtain ⟨y5, hy6⟩ : ∃ y, l[i]? = some y := ⟨_, List.getElem?_eq_getElem (by (try simp only [List.length_nil, List.length_cons, List.length_append, List.length_take, List.length_drop, List.length_set, List.length_replicate, List.length_reverse]); omega)⟩
    have hk7 := hg.each y5 (List.mem_of_getElem? hy6)
    refine s_lt (t_loadE ObT_ok (.zn hg.obs) hy6) ?_
    refine s_alloc (.agg #[iw 0, iw 0, iw 0, (.slice none 0 0), (.slice none 0 0)]) #[iw 0, iw 0, iw 0, (.slice none 0 0), (.slice none 0 0)] (fun g8 => ?_)
    refine s_store 0 #[iw y5.id, iw y5.size, iw y5.weak, y5.rv.v, y5.ev.v] ?_
    refine s_nil <| xs_then <| k_seq <| k_draw ?_
    refine s_lt (t_pure (.pointer (some ⟨g8, 0, none⟩))) ?_
    refine s_lt (t_load 0 (iw y5.id)) ?_
    refine s_lt t_cmp ?_
    refine s_lt (t_pure (.bool (decide (y5.id < 1)))) ?_
    refine s_fork 20 (decide (y5.id < 1)) (fun c9 => ?_) (fun c9 => ?_)
    ·
      have p10 := of_decide_eq_true c9
      refine s_skip ?_
      refine s_skip ?_
      refine s_skip ?_
      refine s_skip ?_
      refine s_skip ?_
      refine s_skip ?_
      refine s_skip ?_
      refine s_skip ?_
      refine s_skip ?_
      refine s_skip ?_
      refine s_skip ?_
      refine s_skip ?_
      refine s_skip ?_
      refine s_skip ?_
      refine s_lt (t_pure (.bool true)) ?_
      refine s_lt (t_pure (.bool true)) ?_
      refine s_skip ?_
      refine s_skip ?_
      refine s_skip ?_
      refine s_lt (t_pure (.bool true)) ?_
      refine s_lt (t_pure (.bool true)) ?_
      refine s_skip ?_
      refine s_skip ?_
      refine s_skip ?_
      refine s_lt (t_pure (.bool true)) ?_
      refine s_lt (t_pure (.bool true)) ?_
      refine s_skip ?_
      refine s_skip ?_
      refine s_skip ?_
      refine s_lt (t_pure (.bool true)) ?_
      refine s_nil <| x_dynS (fun _ h => by kernel_rfl) ?_
      refine xs_then <| k_true ?_
      refine k_seq <| k_reg ?_
      refine s_lt (t_pure (iw 2)) ?_
      refine s_nil <| xs_then <| k_ret <| xs_retBlock ?_
      refine xs_ret <| xs_ret <| xs_retBlock ?_
      refine xs_ret <| xs_fin [iw 2] [] (SI.tmp 2 SI.nil) (fun _ h => h.re [] [0, 0]) ⟨congrArg (Value.int .i64) ?_, rfl⟩
      rw [hi2.2.1, chk_drop hy6]; first | (rw [decide_eq_true (p := y5.id ≤ last) (by have := hi2.2.2; first | omega | (rw [hi2.2.2.2]; rw [if_pos (by omega)]; omega))]; rfl) | (simp only [errI]; rw [if_neg]; simp only [Bool.and_eq_true, Bool.not_eq_true', Bool.or_eq_false_iff, decide_eq_false_iff_not]; omega)
    ·
      have p11 := of_decide_eq_false c9
      refine s_lt (t_pure (iw (i : Int))) ?_
      refine s_lt t_cmp ?_
      refine s_lt (t_pure (.bool (decide ((0 : Int) < (i : Int))))) ?_
      refine s_fork 23 (decide ((0 : Int) < (i : Int))) (fun c12 => ?_) (fun c12 => ?_)
      ·
        have p13 := of_decide_eq_true c12
        refine s_lt (t_pure (.pointer (some ⟨g8, 0, none⟩))) ?_
        refine s_lt (t_load 0 (iw y5.id)) ?_
        refine s_lt (t_pure (.pointer (some ⟨g1, 0, none⟩))) ?_
        refine s_lt (t_load 1 ov) ?_
        refine s_lt (t_pure (iw (i : Int))) ?_
        refine s_lt (t_sub (i : Int) 1 (by (try simp only [List.length_nil, List.length_cons, List.length_append, List.length_take, List.length_drop, List.length_set, List.length_replicate, List.length_reverse]); omega)) ?_
        refine s_lt (t_index ObT_ok Tryz.underlying55 (.zn hg.obs) ((i : Int) - 1) (i - 1) (by omega) (by (try simp only [List.length_nil, List.length_cons, List.length_append, List.length_take, List.length_drop, List.length_set, List.length_replicate, List.length_reverse]); omega) (by omega)) ?_
        refine s_lt (t_pure (.pointer (some (elemAt ObT.size ov (i - 1))))) ?_
        obtain ⟨y14, hy15⟩ : ∃ y, l[(i - 1)]? = some y := ⟨_, List.getElem?_eq_getElem (by (try simp only [List.length_nil, List.length_cons, List.length_append, List.length_take, List.length_drop, List.length_set, List.length_replicate, List.length_reverse]); omega)⟩
        have hk16 := hg.each y14 (List.mem_of_getElem? hy15)
        have hq : last = y14.id := by rw [hj4, if_neg (by omega), ids_get hy15]; rfl
        refine s_lt (t_loadF 0 ObT_ok (.zn hg.obs) hy15) ?_
        refine s_lt t_cmp ?_
        refine s_lt (t_pure (.bool (decide (y5.id ≤ y14.id)))) ?_
        refine s_lt (t_pure (.bool (decide (y5.id ≤ y14.id)))) ?_
        refine s_lt (t_pure (.bool (decide (y5.id ≤ y14.id)))) ?_
        refine s_fork 36 (decide (y5.id ≤ y14.id)) (fun c17 => ?_) (fun c17 => ?_)
        ·
          have p18 := of_decide_eq_true c17
          refine s_skip ?_
          refine s_skip ?_
          refine s_skip ?_
          refine s_lt (t_pure (.bool true)) ?_
          refine s_lt (t_pure (.bool true)) ?_
          refine s_skip ?_
          refine s_skip ?_
          refine s_skip ?_
          refine s_lt (t_pure (.bool true)) ?_
          refine s_lt (t_pure (.bool true)) ?_
          refine s_skip ?_
          refine s_skip ?_
          refine s_skip ?_
          refine s_lt (t_pure (.bool true)) ?_
          refine s_nil <| x_dynS (fun _ h => by kernel_rfl) ?_
          refine xs_then <| k_true ?_
          refine k_seq <| k_reg ?_
          refine s_lt (t_pure (iw 2)) ?_
          refine s_nil <| xs_then <| k_ret <| xs_retBlock ?_
          refine xs_ret <| xs_ret <| xs_retBlock ?_
          refine xs_ret <| xs_fin [iw 2] [] (SI.tmp 2 SI.nil) (fun _ h => h.re [] [0, 0]) ⟨congrArg (Value.int .i64) ?_, rfl⟩
          rw [hi2.2.1, chk_drop hy6]; first | (rw [decide_eq_true (p := y5.id ≤ last) (by have := hi2.2.2; first | omega | (rw [hi2.2.2.2]; rw [if_pos (by omega)]; omega))]; rfl) | (simp only [errI]; rw [if_neg]; simp only [Bool.and_eq_true, Bool.not_eq_true', Bool.or_eq_false_iff, decide_eq_false_iff_not]; omega)
        ·
          have p19 := of_decide_eq_false c17
          refine s_lt (t_pure (.pointer (some ⟨g8, 1, none⟩))) ?_
          refine s_lt (t_load 0 (iw y5.size)) ?_
          refine s_lt t_cmp ?_
          refine s_lt (t_pure (.bool (decide (y5.size < 0)))) ?_
          refine s_lt (t_pure (.bool (decide (y5.size < 0)))) ?_
          refine s_fork 41 (decide (y5.size < 0)) (fun c20 => ?_) (fun c20 => ?_)
          ·
            have p21 := of_decide_eq_true c20
            refine s_skip ?_
            refine s_skip ?_
            refine s_skip ?_
            refine s_lt (t_pure (.bool true)) ?_
            refine s_lt (t_pure (.bool true)) ?_
            refine s_skip ?_
            refine s_skip ?_
            refine s_skip ?_
            refine s_lt (t_pure (.bool true)) ?_
            refine s_nil <| x_dynS (fun _ h => by kernel_rfl) ?_
            refine xs_then <| k_true ?_
            refine k_seq <| k_reg ?_
            refine s_lt (t_pure (iw 2)) ?_
            refine s_nil <| xs_then <| k_ret <| xs_retBlock ?_
            refine xs_ret <| xs_ret <| xs_retBlock ?_
            refine xs_ret <| xs_fin [iw 2] [] (SI.tmp 2 SI.nil) (fun _ h => h.re [] [0, 0]) ⟨congrArg (Value.int .i64) ?_, rfl⟩
            rw [hi2.2.1, chk_drop hy6]; first | (rw [decide_eq_true (p := y5.id ≤ last) (by have := hi2.2.2; first | omega | (rw [hi2.2.2.2]; rw [if_pos (by omega)]; omega))]; rfl) | (simp only [errI]; rw [if_neg]; simp only [Bool.and_eq_true, Bool.not_eq_true', Bool.or_eq_false_iff, decide_eq_false_iff_not]; omega)
          ·
            have p22 := of_decide_eq_false c20
            refine s_lt (t_pure (.pointer (some ⟨g8, 2, none⟩))) ?_
            refine s_lt (t_load 0 (iw y5.weak)) ?_
            refine s_lt t_cmp ?_
            refine s_lt (t_pure (.bool (decide (y5.weak < 0)))) ?_
            refine s_lt (t_pure (.bool (decide (y5.weak < 0)))) ?_
            refine s_fork 46 (decide (y5.weak < 0)) (fun c23 => ?_) (fun c23 => ?_)
            ·
              have p24 := of_decide_eq_true c23
              refine s_skip ?_
              refine s_skip ?_
              refine s_skip ?_
              refine s_lt (t_pure (.bool true)) ?_
              refine s_nil <| x_dynS (fun _ h => by kernel_rfl) ?_
              refine xs_then <| k_true ?_
              refine k_seq <| k_reg ?_
              refine s_lt (t_pure (iw 2)) ?_
              refine s_nil <| xs_then <| k_ret <| xs_retBlock ?_
              refine xs_ret <| xs_ret <| xs_retBlock ?_
              refine xs_ret <| xs_fin [iw 2] [] (SI.tmp 2 SI.nil) (fun _ h => h.re [] [0, 0]) ⟨congrArg (Value.int .i64) ?_, rfl⟩
              rw [hi2.2.1, chk_drop hy6]; first | (rw [decide_eq_true (p := y5.id ≤ last) (by have := hi2.2.2; first | omega | (rw [hi2.2.2.2]; rw [if_pos (by omega)]; omega))]; rfl) | (simp only [errI]; rw [if_neg]; simp only [Bool.and_eq_true, Bool.not_eq_true', Bool.or_eq_false_iff, decide_eq_false_iff_not]; omega)
            ·
              have p25 := of_decide_eq_false c23
              refine s_lt (t_pure (.pointer (some ⟨g8, 2, none⟩))) ?_
              refine s_lt (t_load 0 (iw y5.weak)) ?_
              refine s_lt t_cmp ?_
              refine s_lt (t_pure (.bool (decide ((3 : Int) < y5.weak)))) ?_
              refine s_nil <| x_dynS (fun _ h => by kernel_rfl) ?_
              refine xs_then <| k_cond (decide ((3 : Int) < y5.weak)) (fun c26 => ?_) (fun c26 => ?_)
              ·
                have p27 := of_decide_eq_true c26
                refine k_seq <| k_reg ?_
                refine s_lt (t_pure (iw 2)) ?_
                refine s_nil <| xs_then <| k_ret <| xs_retBlock ?_
                refine xs_ret <| xs_ret <| xs_retBlock ?_
                refine xs_ret <| xs_fin [iw 2] [] (SI.tmp 2 SI.nil) (fun _ h => h.re [] [0, 0]) ⟨congrArg (Value.int .i64) ?_, rfl⟩
                rw [hi2.2.1, chk_drop hy6]; first | (rw [decide_eq_true (p := y5.id ≤ last) (by have := hi2.2.2; first | omega | (rw [hi2.2.2.2]; rw [if_pos (by omega)]; omega))]; rfl) | (simp only [errI]; rw [if_neg]; simp only [Bool.and_eq_true, Bool.not_eq_true', Bool.or_eq_false_iff, decide_eq_false_iff_not]; omega)
              ·
                have p28 := of_decide_eq_false c26
                refine k_skip ?_
                refine xs_block ?_
                refine xs_then <| k_reg ?_
                refine s_lt (t_pure (iw (i : Int))) ?_
                refine s_lt (t_add (i : Int) 1 (by (try simp only [List.length_nil, List.length_cons, List.length_append, List.length_take, List.length_drop, List.length_set, List.length_replicate, List.length_reverse]); omega)) ?_
                refine s_lt (t_pure (iw ((i : Int) + 1))) ?_
                refine s_nil ?_
                exact xs_round (y5.id, i + 1) (by show l.length - (i + 1) < l.length - i; omega) (by obtain ⟨hi1, hi2, hi3, hi4⟩ := hi2; have hd := chk_drop (last := last) hy6; refine ⟨by omega, ?_, by omega, by show y5.id = if i + 1 = 0 then 0 else ((l.map Ob.id)[i + 1 - 1]?).getD 0; rw [if_neg (by omega), Nat.add_sub_cancel, ids_get hy6]; rfl⟩; rw [hi2, hd, decide_eq_false (by omega), decide_eq_false (by omega), decide_eq_false (by omega), decide_eq_false (by omega)]; rfl) (sub_of rfl ⟨⟨rfl, rfl⟩, ⟨⟨rfl, rfl⟩, ⟨⟨rfl, rfl⟩, trivial⟩⟩⟩) (fun _ h => h.re [1] [1])
      ·
        have p29 := of_decide_eq_false c12
        refine s_skip ?_
        refine s_skip ?_
        refine s_skip ?_
        refine s_skip ?_
        refine s_skip ?_
        refine s_skip ?_
        refine s_skip ?_
        refine s_skip ?_
        refine s_skip ?_
        refine s_skip ?_
        refine s_lt (t_pure (.bool false)) ?_
        refine s_lt (t_pure (.bool false)) ?_
        refine s_lt (t_pure (.bool false)) ?_
        refine s_lt (t_pure (.pointer (some ⟨g8, 1, none⟩))) ?_
        refine s_lt (t_load 0 (iw y5.size)) ?_
        refine s_lt t_cmp ?_
        refine s_lt (t_pure (.bool (decide (y5.size < 0)))) ?_
        refine s_lt (t_pure (.bool (decide (y5.size < 0)))) ?_
        refine s_fork 41 (decide (y5.size < 0)) (fun c30 => ?_) (fun c30 => ?_)
        ·
          have p31 := of_decide_eq_true c30
          refine s_skip ?_
          refine s_skip ?_
          refine s_skip ?_
          refine s_lt (t_pure (.bool true)) ?_
          refine s_lt (t_pure (.bool true)) ?_
          refine s_skip ?_
          refine s_skip ?_
          refine s_skip ?_
          refine s_lt (t_pure (.bool true)) ?_
          refine s_nil <| x_dynS (fun _ h => by kernel_rfl) ?_
          refine xs_then <| k_true ?_
          refine k_seq <| k_reg ?_
          refine s_lt (t_pure (iw 2)) ?_
          refine s_nil <| xs_then <| k_ret <| xs_retBlock ?_
          refine xs_ret <| xs_ret <| xs_retBlock ?_
          refine xs_ret <| xs_fin [iw 2] [] (SI.tmp 2 SI.nil) (fun _ h => h.re [] [0, 0]) ⟨congrArg (Value.int .i64) ?_, rfl⟩
          rw [hi2.2.1, chk_drop hy6]; first | (rw [decide_eq_true (p := y5.id ≤ last) (by have := hi2.2.2; first | omega | (rw [hi2.2.2.2]; rw [if_pos (by omega)]; omega))]; rfl) | (simp only [errI]; rw [if_neg]; simp only [Bool.and_eq_true, Bool.not_eq_true', Bool.or_eq_false_iff, decide_eq_false_iff_not]; omega)
        ·
          have p32 := of_decide_eq_false c30
          refine s_lt (t_pure (.pointer (some ⟨g8, 2, none⟩))) ?_
          refine s_lt (t_load 0 (iw y5.weak)) ?_
          refine s_lt t_cmp ?_
          refine s_lt (t_pure (.bool (decide (y5.weak < 0)))) ?_
          refine s_lt (t_pure (.bool (decide (y5.weak < 0)))) ?_
          refine s_fork 46 (decide (y5.weak < 0)) (fun c33 => ?_) (fun c33 => ?_)
          ·
            have p34 := of_decide_eq_true c33
            refine s_skip ?_
            refine s_skip ?_
            refine s_skip ?_
            refine s_lt (t_pure (.bool true)) ?_
            refine s_nil <| x_dynS (fun _ h => by kernel_rfl) ?_
            refine xs_then <| k_true ?_
            refine k_seq <| k_reg ?_
            refine s_lt (t_pure (iw 2)) ?_
            refine s_nil <| xs_then <| k_ret <| xs_retBlock ?_
            refine xs_ret <| xs_ret <| xs_retBlock ?_
            refine xs_ret <| xs_fin [iw 2] [] (SI.tmp 2 SI.nil) (fun _ h => h.re [] [0, 0]) ⟨congrArg (Value.int .i64) ?_, rfl⟩
            rw [hi2.2.1, chk_drop hy6]; first | (rw [decide_eq_true (p := y5.id ≤ last) (by have := hi2.2.2; first | omega | (rw [hi2.2.2.2]; rw [if_pos (by omega)]; omega))]; rfl) | (simp only [errI]; rw [if_neg]; simp only [Bool.and_eq_true, Bool.not_eq_true', Bool.or_eq_false_iff, decide_eq_false_iff_not]; omega)
          ·
            have p35 := of_decide_eq_false c33
            refine s_lt (t_pure (.pointer (some ⟨g8, 2, none⟩))) ?_
            refine s_lt (t_load 0 (iw y5.weak)) ?_
            refine s_lt t_cmp ?_
            refine s_lt (t_pure (.bool (decide ((3 : Int) < y5.weak)))) ?_
            refine s_nil <| x_dynS (fun _ h => by kernel_rfl) ?_
            refine xs_then <| k_cond (decide ((3 : Int) < y5.weak)) (fun c36 => ?_) (fun c36 => ?_)
            ·
              have p37 := of_decide_eq_true c36
              refine k_seq <| k_reg ?_
              refine s_lt (t_pure (iw 2)) ?_
              refine s_nil <| xs_then <| k_ret <| xs_retBlock ?_
              refine xs_ret <| xs_ret <| xs_retBlock ?_
              refine xs_ret <| xs_fin [iw 2] [] (SI.tmp 2 SI.nil) (fun _ h => h.re [] [0, 0]) ⟨congrArg (Value.int .i64) ?_, rfl⟩
              rw [hi2.2.1, chk_drop hy6]; first | (rw [decide_eq_true (p := y5.id ≤ last) (by have := hi2.2.2; first | omega | (rw [hi2.2.2.2]; rw [if_pos (by omega)]; omega))]; rfl) | (simp only [errI]; rw [if_neg]; simp only [Bool.and_eq_true, Bool.not_eq_true', Bool.or_eq_false_iff, decide_eq_false_iff_not]; omega)
            ·
              have p38 := of_decide_eq_false c36
              refine k_skip ?_
              refine xs_block ?_
              refine xs_then <| k_reg ?_
              refine s_lt (t_pure (iw (i : Int))) ?_
              refine s_lt (t_add (i : Int) 1 (by (try simp only [List.length_nil, List.length_cons, List.length_append, List.length_take, List.length_drop, List.length_set, List.length_replicate, List.length_reverse]); omega)) ?_
              refine s_lt (t_pure (iw ((i : Int) + 1))) ?_
              refine s_nil ?_
              exact xs_round (y5.id, i + 1) (by show l.length - (i + 1) < l.length - i; omega) (by obtain ⟨hi1, hi2, hi3, hi4⟩ := hi2; have hd := chk_drop (last := last) hy6; refine ⟨by omega, ?_, by omega, by show y5.id = if i + 1 = 0 then 0 else ((l.map Ob.id)[i + 1 - 1]?).getD 0; rw [if_neg (by omega), Nat.add_sub_cancel, ids_get hy6]; rfl⟩; rw [hi2, hd, decide_eq_false (by omega), decide_eq_false (by omega), decide_eq_false (by omega), decide_eq_false (by omega)]; rfl) (sub_of rfl ⟨⟨rfl, rfl⟩, ⟨⟨rfl, rfl⟩, ⟨⟨rfl, rfl⟩, trivial⟩⟩⟩) (fun _ h => h.re [1] [1])
  ·
    have p39 := of_decide_eq_false c3
    refine k_exit ?_
    refine xs_exit ?_
    refine xs_exit ?_
    refine xs_here ?_
    refine xs_then <| k_seq <| k_reg ?_
    refine s_lt (t_pure (iw 0)) ?_
    refine s_nil <| xs_then <| k_ret <| xs_fin [iw 0] [] (SI.tmp 2 SI.nil) (fun _ h => h.re [] [0]) ⟨congrArg (Value.int .i64) ?_, rfl⟩
    rw [hi2.2.1, List.drop_of_length_le (by omega)]; rfl
end Go.Proofs.YtmhpcebiamkciaaGreat
end
section
set_option linter.unusedSimpArgs false
set_option linter.unusedVariables false
set_option maxRecDepth 100000
set_option maxHeartbeats 2000000
namespace Go.Proofs.YtmhpcebiamkciaaGreat
open Go.Hp Go.J Go.S
open Go.Mem (Ty KTy blk elemAt pre suf blk_pre blk_suf aget aset strK aggDesc)
open Go.Mem (adel apos aget_aset aget_adel)
def allE (e : Ent) : List Int := [e.key, e.val]
def allO (o : Ob) : List Int := o.refs ++ o.ents.flatMap allE
def alO (l : List Ob) (id : Int) : Bool := (fnd l id).isSome
def rfO (l : List Ob) (id : Int) : List Int := match fnd l id with
  | some o => allO o
  | none => []
theorem rfO_is {l : List Ob} {id : Int} {o : Ob} (h : fnd l id = some o) : rfO l id = allO o := by unfold rfO; rw [h]
theorem alO_is {l : List Ob} {id : Int} {o : Ob} (h : fnd l id = some o) : alO l id = true := by unfold alO; rw [h]; rfl
theorem alO_no {l : List Ob} {id : Int} (h : fnd l id = none) : alO l id = false := by unfold alO; rw [h]; rfl
theorem ent_take {L : List Ent} {i : Nat} {e : Ent} (h : L[i]? = some e) : (L.take i).flatMap allE ++ [e.key, e.val] = (L.take (i + 1)).flatMap allE := by
  rw [List.take_add_one, h]; simp [List.flatMap_append, allE]
theorem ent_len : ∀ L : List Ent, (L.flatMap allE).length = 2 * L.length
  | [] => rfl
  | e :: r => by simp only [List.flatMap_cons, List.length_append, List.length_cons, ent_len r]; simp [allE]; omega
theorem map_set {l : List Ob} {f g : Int → Int} {i : Nat} {o : Ob} (hs : Asc l) (ho : l[i]? = some o) (hn : ∀ x, x ≠ o.id → g x = f x) : (l.map fun o => f o.id).set i (g o.id) = l.map fun o => g o.id := by
  apply List.ext_getElem?
  intro j
  rw [List.getElem?_set, List.getElem?_map, List.getElem?_map]
  have hi : i < l.length := (List.getElem?_eq_some_iff.1 ho).1
  by_cases e : i = j
  · subst e; rw [if_pos rfl, if_pos (by rw [List.length_map]; exact hi), ho]; rfl
  · rw [if_neg e]
    cases hj : l[j]? with
    | none => rfl
    | some y =>
      show some (f y.id) = some (g y.id)
      rw [hn y.id fun q => e (asc_inj hs ho hj q.symm)]
theorem map_set2 {l : List Ob} {f : Int → Int} {i : Nat} {o : Ob} (g : Int → Int) (v : Int) (hs : Asc l) (ho : l[i]? = some o) (hv : g o.id = v) (hn : ∀ x, x ≠ o.id → g x = f x) : (l.map fun o => f o.id).set i v = l.map fun o => g o.id := by
  subst hv; exact map_set hs ho hn
theorem col_nil (l : List Ob) : List.replicate l.length (0 : Int) = l.map fun o => clI [] 0 o.id := by
  apply List.ext_getElem?
  intro j
  rw [List.getElem?_replicate, List.getElem?_map]
  by_cases h : j < l.length
  · rw [if_pos h, List.getElem?_eq_getElem h]; exact congrArg some clI_nil.symm
  · rw [if_neg h, List.getElem?_eq_none (by omega)]; rfl
theorem find_must {l : List Ob} (h : Asc l) {id : Int} (hi : alO l id = true) : ∃ i o, l[i]? = some o ∧ o.id = id ∧ fnd l id = some o ∧ gfI l id = ((i : Nat) : Int) := by
  rcases gfd_cases h id with ⟨h1, _⟩ | h1
  · rw [alO_no h1] at hi; cases hi
  · exact h1
theorem drop_one (G : List Int) (i : Nat) : (G.drop i).drop 1 = G.drop (i + 1) := by rw [List.drop_drop]
theorem get_drop0 {G : List Int} {i : Nat} {y : Int} (h : (G.drop i)[0]? = some y) : G[i]? = some y := by
  rw [List.getElem?_drop, Nat.add_zero] at h; exact h
theorem al_ids {l : List Ob} {x : Int} (h : alO l x = true) : x ∈ l.map Ob.id := by
  unfold alO at h
  obtain ⟨o, ho⟩ := Option.isSome_iff_exists.1 h
  obtain ⟨h1, h2⟩ := fnd_id ho
  exact List.mem_map.2 ⟨o, h2, h1⟩
def fil (l : List Ob) (G : List Int) : List Int := (l.map Ob.id).filter fun x => decide (x ∈ G)
theorem fil_yes {l : List Ob} {G : List Int} {i : Nat} {y : Ob} (hy : l[i]? = some y) (h : y.id ∈ G) : fil (l.take i) G ++ [y.id] = fil (l.take (i + 1)) G := by
  unfold fil; rw [List.take_add_one, hy]; simp [List.filter_append, h]
theorem fil_no {l : List Ob} {G : List Int} {i : Nat} {y : Ob} (hy : l[i]? = some y) (h : y.id ∉ G) : fil (l.take i) G = fil (l.take (i + 1)) G := by
  unfold fil; rw [List.take_add_one, hy]; simp [List.filter_append, h]
theorem fil_len (l : List Ob) (G : List Int) : (fil l G).length ≤ l.length := by
  unfold fil; refine Nat.le_trans (List.length_filter_le _ _) ?_; rw [List.length_map]; exact Nat.le_refl _
def rfA (b : Nat) (l : List Ob) (G : List Int) (k q : Nat) : Asr := exA fun ov => exA fun cv => exA fun qv => stA True [blkA b #[ov, .slice none 0 0, cv, qv] 111, own ObT ov l, own iTy cv (l.map fun o => clI G k o.id), ownO iTy qv (G.drop q)]
section
variable {Z : Zone} {F : List Asr} {H : Heap} {b : Nat} {l : List Ob} {G : List Int} {k q : Nat}
theorem rf_open (h : Holds Z (rfA b l G k q :: F) H) : ∃ ov cv qv, True ∧ Holds Z (blkA b #[ov, .slice none 0 0, cv, qv] 111 :: own ObT ov l :: own iTy cv (l.map fun o => clI G k o.id) :: ownO iTy qv (G.drop q) :: F) H := by
  obtain ⟨ov, h⟩ := h.open_ex
  obtain ⟨cv, h⟩ := h.open_ex
  obtain ⟨qv, h⟩ := h.open_ex
  exact ⟨ov, cv, qv, h.open_st⟩
theorem rf_shut {ov cv qv : Value} {C Q : List Int} (hC : C = l.map fun o => clI G k o.id) (hQ : Q = G.drop q) (h : Holds Z (blkA b #[ov, .slice none 0 0, cv, qv] 111 :: own ObT ov l :: own iTy cv C :: ownO iTy qv Q :: F) H) : Holds Z (rfA b l G k q :: F) H := by
  subst hC hQ
  exact Holds.shut_ex ov (Holds.shut_ex cv (Holds.shut_ex qv (Holds.shut_st trivial h)))
end
theorem rreach_s {Z : Zone} {F : List Asr} {b : Nat} {l : List Ob} {G : List Int} {k q : Nat} (hO : ∀ x ∈ l, KnO Z x) (hs : Asc l) (hl : l.length ≤ 100000) (hk : k ≤ G.length) (hq : q ≤ G.length) (hG : G.length ≤ 1000000) (id : Int) : SF Tryz.prog 123 #[.pointer (some ⟨b, 0, none⟩), iw id] Z (rfA b l G k q :: F) fun r Bs => r = .tuple #[] ∧ Bs = rfA b l (sr1 (alO l) G id) k q :: F := by
  refine sf_enter Tryz.func123 39 [(0, .pointer (some ⟨b, 0, none⟩)), (1, iw id)] (fun w0 => ?_)
  refine k_mem3 (fun H h => rf_open (h.re [0] [])) (fun ov1 cv2 qv3 hw => ?_)
  have hml4 : (l.map fun o => clI G k o.id).length = l.length := List.length_map _
  refine k_seq <| k_reg ?_
  refine s_lt (t_pure (.pointer (some ⟨b, 0, none⟩))) ?_
  refine s_lt (t_pure (.pointer (some ⟨b, 0, none⟩))) ?_
  refine s_lt (t_pure (.pointer (some ⟨b, 0, none⟩))) ?_
  refine s_lt (t_loadA 0 #[ov1, (.slice none 0 0)]) ?_
  refine s_lt (t_pure (iw id)) ?_
  refine s_vcall (fun _ h => find2_s (show KnG _ _ _ l [] from ⟨Acc.kn (T := ObT) (.own 1) h, Acc.kn (T := iTy) .nil h, fun x hx => ⟨Kn.up (hO x hx).1 h, Kn.up (hO x hx).2 h⟩⟩) hs (by omega) id) ?_
  rintro _ rfl
  rcases gfd_cases hs id with ⟨hf7, he11⟩ | ⟨ix5, ob6, hx8, hid9, hf10, he11⟩
  ·
    rw [he11]
    refine s_lt (t_pure (iw (-1))) ?_
    refine s_nil <| xs_then <| k_seq <| k_reg ?_
    refine s_lt (t_pure (iw (-1))) ?_
    refine s_lt (t_cmp (c := false)) ?_
    refine s_lt (t_pure (.bool false)) ?_
    refine s_skip ?_
    refine s_skip ?_
    refine s_skip ?_
    refine s_skip ?_
    refine s_skip ?_
    refine s_skip ?_
    refine s_skip ?_
    refine s_skip ?_
    refine s_lt (t_pure (.bool false)) ?_
    refine s_nil <| xs_then <| k_false ?_
    refine k_skip ?_
    refine xs_mem (fun _ h => rf_shut (l := l) (G := G) (k := k) (q := q) rfl rfl (h.re [0, 0, 0, 0] [])) ?_
    refine xs_finN [] (rfA b l G k q :: F) SI.nil (fun _ h => h.re [0] []) ⟨rfl, ?_⟩
    rw [sr1_dead (alO_no hf7)]
  ·
    rw [he11]
    have hk12 := hO ob6 (List.mem_of_getElem? hx8)
    have hlt13 : ix5 < l.length := (List.getElem?_eq_some_iff.1 hx8).1
    refine s_lt (t_pure (iw (ix5 : Int))) ?_
    refine s_nil <| xs_then <| k_seq <| k_reg ?_
    refine s_lt (t_pure (iw (ix5 : Int))) ?_
    refine s_lt t_cmp ?_
    refine s_lt (t_pure (.bool (decide ((0 : Int) ≤ (ix5 : Int))))) ?_
    refine s_fork 13 (decide ((0 : Int) ≤ (ix5 : Int))) (fun c14 => ?_) (fun c14 => ?_)
    ·
      have p15 := of_decide_eq_true c14
      refine s_lt (t_pure (.pointer (some ⟨b, 0, none⟩))) ?_
      refine s_lt (t_pure (.pointer (some ⟨b, 0, none⟩))) ?_
      refine s_lt (t_pure (.pointer (some ⟨b, 2, none⟩))) ?_
      refine s_lt (t_load 0 cv2) ?_
      refine s_lt (t_pure (iw (ix5 : Int))) ?_
      refine s_lt (t_index iTy_ok Tryz.underlying23 (.own 2) (ix5 : Int) ix5 (by omega) (by (try simp only [List.length_nil, List.length_cons, List.length_append, List.length_take, List.length_drop, List.length_set, List.length_replicate, List.length_reverse]); omega) (by omega)) ?_
      refine s_lt (t_loadE iTy_ok (.own 2) (show ((l.map fun o => clI G k o.id))[ix5]? = some (clI G k ob6.id) by rw [List.getElem?_map, hx8]; rfl)) ?_
      refine s_lt t_cmp ?_
      refine s_lt (t_pure (.bool (decide ((clI G k ob6.id) = 0)))) ?_
      refine s_nil <| xs_then <| k_cond (decide ((clI G k ob6.id) = 0)) (fun c16 => ?_) (fun c16 => ?_)
      ·
        have p17 := of_decide_eq_true c16
        refine k_seq <| k_reg ?_
        refine s_lt (t_pure (.pointer (some ⟨b, 0, none⟩))) ?_
        refine s_lt (t_pure (.pointer (some ⟨b, 0, none⟩))) ?_
        refine s_lt (t_pure (.pointer (some ⟨b, 2, none⟩))) ?_
        refine s_lt (t_load 0 cv2) ?_
        refine s_lt (t_pure (iw (ix5 : Int))) ?_
        refine s_lt (t_index iTy_ok Tryz.underlying23 (.own 2) (ix5 : Int) ix5 (by omega) (by (try simp only [List.length_nil, List.length_cons, List.length_append, List.length_take, List.length_drop, List.length_set, List.length_replicate, List.length_reverse]); omega) (by omega)) ?_
        refine s_storeE 2 0 1 iTy_ok (show ((l.map fun o => clI G k o.id))[ix5]? = some (clI G k ob6.id) by rw [List.getElem?_map, hx8]; rfl) ?_
        refine s_nil <| xs_then <| k_reg ?_
        refine s_lt (t_pure (.pointer (some ⟨b, 0, none⟩))) ?_
        refine s_lt (t_pure (.pointer (some ⟨b, 0, none⟩))) ?_
        refine s_lt (t_pure (.pointer (some ⟨b, 0, none⟩))) ?_
        refine s_lt (t_pure (.pointer (some ⟨b, 3, none⟩))) ?_
        refine s_lt (t_load 0 qv3) ?_
        refine s_lt (t_pure (iw id)) ?_
        refine s_buildSlice (e := 3) [(0, iw id)] #[iw id] (fun g18 => ?_) (hb := by kernel_rfl)
        refine s_appendO (L := (G.drop q)) 4 iTy_ok Tryz.underlying23 (.lit 0 iTy_ok [id]) (by show _ * 8 ≤ _; (try simp only [List.length_nil, List.length_cons, List.length_append, List.length_take, List.length_drop, List.length_set, List.length_replicate, List.length_reverse]); omega) (by (try simp only [List.length_nil, List.length_cons, List.length_append, List.length_take, List.length_drop, List.length_set, List.length_replicate, List.length_reverse]); omega) (fun v19 => ?_)
        refine s_fact (fun H h => ((Acc.ownO (T := iTy) (L := ((G.drop q) ++ [id])) 4 rfl) H h).form) (fun hf20 => ?_)
        refine s_lt (t_pure (.pointer (some ⟨b, 0, none⟩))) ?_
        refine s_lt (t_pure (.pointer (some ⟨b, 3, none⟩))) ?_
        refine s_store (u := v19) (m := 1) 1 #[ov1, (.slice none 0 0), cv2, v19] ?_ (hm := by (obtain ⟨_, _, e⟩ := hf20; rw [e]; rfl)) (h1 := by (obtain ⟨_, _, e⟩ := hf20; rw [e]; rfl)) (ha' := by (obtain ⟨_, _, e⟩ := hf20; rw [e]; rfl))
        refine s_nil ?_
        have hz := clI_zero (of_decide_eq_true c16); rw [hid9] at hz
        refine xs_mem (fun _ h => rf_shut (l := l) (G := (G ++ [id])) (k := k) (q := q) (map_set2 (f := clI G k) (clI (G ++ [id]) k) 1 hs hx8 (by rw [hid9, clI_new hk hz, if_pos rfl]) (fun x hx => (clI_new hk hz).trans (if_neg (by rw [← hid9]; exact hx)))) (List.drop_append_of_le_length hq).symm (h.re [1, 1, 1, 1] [])) ?_
        refine xs_finN [] (rfA b l (G ++ [id]) k q :: F) SI.nil (fun _ h => h.re [0] [1]) ⟨rfl, ?_⟩
        rw [sr1_yes (alO_is hf10) hz]
      ·
        have p21 := of_decide_eq_false c16
        refine k_skip ?_
        refine xs_mem (fun _ h => rf_shut (l := l) (G := G) (k := k) (q := q) rfl rfl (h.re [0, 0, 0, 0] [])) ?_
        refine xs_finN [] (rfA b l G k q :: F) SI.nil (fun _ h => h.re [0] []) ⟨rfl, ?_⟩
        rw [sr1_in (by have := clI_ne (of_decide_eq_false c16); rwa [hid9] at this)]
    ·
      have p22 := of_decide_eq_false c14
      refine s_skip ?_
      refine s_skip ?_
      refine s_skip ?_
      refine s_skip ?_
      refine s_skip ?_
      refine s_skip ?_
      refine s_skip ?_
      refine s_skip ?_
      refine s_lt (t_pure (.bool false)) ?_
      refine s_nil <| xs_then <| k_false ?_
      refine k_skip ?_
      refine xs_mem (fun _ h => rf_shut (l := l) (G := G) (k := k) (q := q) rfl rfl (h.re [0, 0, 0, 0] [])) ?_
      refine xs_finN [] (rfA b l G k q :: F) SI.nil (fun _ h => h.re [0] []) ⟨rfl, ?_⟩
      exfalso; have := of_decide_eq_false c14; omega
theorem rrefs_s {Z : Zone} {x : Ob} (hx : KnO Z x) (h1 : x.refs.length ≤ 100000) (h2 : x.ents.length ≤ 100000) : SF Tryz.prog 124 #[x.v] Z [] fun r Bs => Bs = [own iTy r (allO x)] := by
  refine sf_enter Tryz.func124 32 [(0, .agg #[iw x.id, iw x.size, iw x.weak, x.rv.v, x.ev.v])] (fun w0 => ?_)
  refine k_seq <| k_reg ?_
  refine s_box #[iw x.id, iw x.size, iw x.weak, x.rv.v, x.ev.v] (fun g1 => ?_)
  refine s_lt (t_pure (.slice none 0 0)) ?_
  refine s_nil <| xs_then <| k_seq <| k_reg ?_
  refine s_buildSlice (e := 3) [] #[] (fun g2 => ?_) (hb := by kernel_rfl)
  refine s_lt (t_pure (.pointer (some ⟨g1, 3, none⟩))) ?_
  refine s_lt (t_load 1 x.rv.v) ?_
  refine s_mem (fun _ h => Holds.slice 0 h iTy_ok []) ?_
  refine s_append (L := []) 0 iTy_ok Tryz.underlying23 (.zn hx.1) (by show _ * 8 ≤ _; (try simp only [List.length_nil, List.length_cons, List.length_append, List.length_take, List.length_drop, List.length_set, List.length_replicate, List.length_reverse]); omega) (by (try simp only [List.length_nil, List.length_cons, List.length_append, List.length_take, List.length_drop, List.length_set, List.length_replicate, List.length_reverse]); omega) (fun v3 => ?_)
  rw [List.nil_append]
  refine s_fact (fun H h => ((Acc.own (T := iTy) (L := x.refs) 0 rfl) H h).form) (fun hf4 => ?_)
  refine s_lt (t_pure v3) ?_
  refine s_nil <| xs_then <| k_seq <| k_seq <| k_reg ?_
  refine s_lt (t_pure (iw 0)) ?_
  refine s_nil <| xs_then <| k_block ?_
  refine k_fact (fun H h => (hx.2.get h).len_le) (fun le => ?_)
  refine k_mem (Bs := [own iTy v3 (x.refs ++ (x.ents.take 0).flatMap allE), blkA g1 #[iw x.id, iw x.size, iw x.weak, x.rv.v, x.ev.v] 100]) (fun _ h => by rw [show x.refs ++ (x.ents.take 0).flatMap allE = x.refs from List.append_nil _]; exact h) ?_
  refine k_loop (ι := Value × Nat) (fun (sx, i) => i ≤ x.ents.length) (fun (sx, i) => [(1, .pointer (some ⟨g1, 0, none⟩)), (2, (.slice none 0 0)), (3, sx), (4, iw (i : Int))]) (fun (sx, i) => [own iTy sx (x.refs ++ (x.ents.take i).flatMap allE), blkA g1 #[iw x.id, iw x.size, iw x.weak, x.rv.v, x.ev.v] 100]) (fun (sx, i) => x.ents.length - i) (v3, 0) (Nat.zero_le _) (sub_of rfl ⟨⟨rfl, rfl⟩, ⟨⟨rfl, rfl⟩, ⟨⟨rfl, rfl⟩, ⟨⟨rfl, rfl⟩, trivial⟩⟩⟩⟩) (fun _ h => h.re [0, 0] []) ?_
  rintro ⟨sx, i⟩ hi5
  replace hi5 : i ≤ x.ents.length := hi5
  show SK _ _ _ _ _ [(1, .pointer (some ⟨g1, 0, none⟩)), (2, (.slice none 0 0)), (3, sx), (4, iw (i : Int))] _ [own iTy sx (x.refs ++ (x.ents.take i).flatMap allE), blkA g1 #[iw x.id, iw x.size, iw x.weak, x.rv.v, x.ev.v] 100]
  have hel := ent_len (x.ents.take i); rw [List.length_take] at hel
  refine k_seq <| k_seq <| k_reg ?_
  refine s_lt (t_pure (iw (i : Int))) ?_
  refine s_lt (t_pure (.pointer (some ⟨g1, 4, none⟩))) ?_
  refine s_lt (t_load 1 x.ev.v) ?_
  refine s_lt (t_len EntT_ok Tryz.underlying98 (.zn hx.2)) ?_
  refine s_lt t_cmp ?_
  refine s_nil <| xs_then <| k_cond (decide ((i : Int) < (x.ents.length : Int))) (fun c6 => ?_) (fun c6 => ?_)
  ·
    have p7 := of_decide_eq_true c6
    refine k_skip ?_
    refine xs_then <| k_seq <| k_block ?_
    refine k_draw ?_
    refine s_lt (t_pure sx) ?_
    refine s_lt (t_pure (.pointer (some ⟨g1, 4, none⟩))) ?_
    refine s_lt (t_load 1 x.ev.v) ?_
    refine s_lt (t_pure (iw (i : Int))) ?_
    refine s_lt (t_index EntT_ok Tryz.underlying98 (.zn hx.2) (i : Int) i (by omega) (by (try simp only [List.length_nil, List.length_cons, List.length_append, List.length_take, List.length_drop, List.length_set, List.length_replicate, List.length_reverse]); omega) (by omega)) ?_
    refine s_lt (t_pure (.pointer (some (elemAt EntT.size x.ev.v i)))) ?_
    obtain ⟨y8, hy9⟩ : ∃ y, x.ents[i]? = some y := ⟨_, List.getElem?_eq_getElem (by (try simp only [List.length_nil, List.length_cons, List.length_append, List.length_take, List.length_drop, List.length_set, List.length_replicate, List.length_reverse]); omega)⟩
    refine s_lt (t_loadF 0 EntT_ok (.zn hx.2) hy9) ?_
    refine s_lt (t_pure (.pointer (some ⟨g1, 4, none⟩))) ?_
    refine s_lt (t_load 1 x.ev.v) ?_
    refine s_lt (t_pure (iw (i : Int))) ?_
    refine s_lt (t_index EntT_ok Tryz.underlying98 (.zn hx.2) (i : Int) i (by omega) (by (try simp only [List.length_nil, List.length_cons, List.length_append, List.length_take, List.length_drop, List.length_set, List.length_replicate, List.length_reverse]); omega) (by omega)) ?_
    refine s_lt (t_pure (.pointer (some ((elemAt EntT.size x.ev.v i).add 1)))) ?_
    refine s_lt (t_loadF 1 EntT_ok (.zn hx.2) hy9) ?_
    refine s_buildSlice (e := 3) [(0, iw y8.key), (1, iw y8.val)] #[iw y8.key, iw y8.val] (fun g10 => ?_) (hb := by kernel_rfl)
    refine s_append (L := (x.refs ++ (x.ents.take i).flatMap allE)) 1 iTy_ok Tryz.underlying23 (.lit 0 iTy_ok [y8.key, y8.val]) (by show _ * 8 ≤ _; (try simp only [List.length_nil, List.length_cons, List.length_append, List.length_take, List.length_drop, List.length_set, List.length_replicate, List.length_reverse]); omega) (by (try simp only [List.length_nil, List.length_cons, List.length_append, List.length_take, List.length_drop, List.length_set, List.length_replicate, List.length_reverse]); omega) (fun v11 => ?_)
    refine s_fact (fun H h => ((Acc.own (T := iTy) (L := ((x.refs ++ (x.ents.take i).flatMap allE) ++ [y8.key, y8.val])) 1 rfl) H h).form) (fun hf12 => ?_)
    refine s_lt (t_pure v11) ?_
    refine s_nil <| x_dynS (fun _ h => by kernel_rfl) ?_
    refine xs_block ?_
    refine xs_then <| k_reg ?_
    refine s_lt (t_pure (iw (i : Int))) ?_
    refine s_lt (t_add (i : Int) 1 (by (try simp only [List.length_nil, List.length_cons, List.length_append, List.length_take, List.length_drop, List.length_set, List.length_replicate, List.length_reverse]); omega)) ?_
    refine s_lt (t_pure (iw ((i : Int) + 1))) ?_
    refine s_nil ?_
    rw [List.append_assoc, ent_take hy9]
    exact xs_round (v11, i + 1) (by show x.ents.length - (i + 1) < x.ents.length - i; omega) (by show i + 1 ≤ x.ents.length; omega) (sub_of rfl ⟨⟨rfl, rfl⟩, ⟨⟨rfl, rfl⟩, ⟨⟨rfl, rfl⟩, ⟨⟨rfl, rfl⟩, trivial⟩⟩⟩⟩) (fun _ h => h.re [1, 1] [2])
  ·
    have p13 := of_decide_eq_false c6
    refine k_exit ?_
    refine xs_exit ?_
    refine xs_exit ?_
    refine xs_here ?_
    refine xs_then <| k_seq <| k_reg ?_
    refine s_lt (t_pure sx) ?_
    refine s_lt (t_pure sx) ?_
    refine s_nil <| xs_then <| k_ret ?_
    exact xs_fin [sx] [own iTy sx (allO x)] (SI.tmp 2 SI.nil) (fun _ h => by rw [List.take_of_length_le (by omega)] at h; exact h.re [0] [1]) rfl
theorem rnew_s {Z : Zone} {ov rv : Value} {l : List Ob} {R : List Int} (hg : KnG Z ov rv l R) (hc : chk 0 l = true) (hs : Asc l) (hl : l.length ≤ 100000) (hr : R.length ≤ 100000) : SF Tryz.prog 58 #[.agg #[ov, rv]] Z [] fun r Bs => ∃ b, r = .tuple #[.pointer (some ⟨b, 0, none⟩), iw 0] ∧ Bs = [rfA b l (srs (alO l) [] R) 0 0] := by
  refine sf_enter Tryz.func58 38 [(0, .agg #[ov, rv])] (fun w0 => ?_)
  have hO := hg.each
  refine k_seq <| k_reg ?_
  refine s_box #[ov, rv] (fun g1 => ?_)
  refine s_lt (t_pure (.pointer none)) ?_
  refine s_lt (t_pure (iw 0)) ?_
  refine s_nil <| xs_then <| k_seq <| k_seq <| k_reg ?_
  refine s_lt (t_loadA 0 #[ov, rv]) ?_
  refine s_vcall (fun _ h => rcheck_s (hg.up h)) ?_
  rintro _ rfl
  refine s_lt (Lt.to t_cmp (congrArg Value.bool (decide_eq_false (fun e => e (by rw [hc]; rfl)) : (decide ((errI (chk 0 l)) ≠ 0)) = false))) ?_
  refine s_nil <| xs_then <| k_false ?_
  refine k_skip ?_
  refine xs_then <| k_seq <| k_reg ?_
  refine s_lt (t_pure (.pointer (some ⟨g1, 0, none⟩))) ?_
  refine s_lt (t_load 0 ov) ?_
  refine s_lt (t_len ObT_ok Tryz.underlying55 (.zn hg.obs)) ?_
  refine s_make iTy_ok Tryz.underlying23 (l.length : Int) (by omega) (by show 8 * _ ≤ _; omega) (by omega) (fun v2 => ?_)
  refine s_fact (fun H h => ((Acc.own (T := iTy) (L := (List.replicate (((l.length : Int)).toNat) iTy.zero)) 0 rfl) H h).form) (fun hf3 => ?_)
  refine s_lt (show Lt _ _ _ _ _ (.agg #[(.slice none 0 0), (.slice none 0 0), v2, (.slice none 0 0)]) from by obtain ⟨_, _, e⟩ := hf3; rw [e]; clear e; exact t_kern _) ?_
  refine s_box #[(.slice none 0 0), (.slice none 0 0), v2, (.slice none 0 0)] (fun g4 => ?_)
  refine s_lt (t_pure (.pointer (some ⟨g4, 0, none⟩))) ?_
  refine s_nil <| xs_then <| k_seq <| k_reg ?_
  refine s_lt (t_pure (.pointer (some ⟨g4, 0, none⟩))) ?_
  refine s_buildSlice (e := 100) [] #[] (fun g5 => ?_) (hb := by kernel_rfl)
  refine s_lt (t_pure (.pointer (some ⟨g1, 0, none⟩))) ?_
  refine s_lt (t_load 3 ov) ?_
  refine s_mem (fun _ h => Holds.slice 0 h ObT_ok []) ?_
  refine s_append (L := []) 0 ObT_ok Tryz.underlying55 (.zn hg.obs) (by show _ * 72 ≤ _; (try simp only [List.length_nil, List.length_cons, List.length_append, List.length_take, List.length_drop, List.length_set, List.length_replicate, List.length_reverse]); omega) (by (try simp only [List.length_nil, List.length_cons, List.length_append, List.length_take, List.length_drop, List.length_set, List.length_replicate, List.length_reverse]); omega) (fun v6 => ?_)
  rw [List.nil_append]
  refine s_fact (fun H h => ((Acc.own (T := ObT) (L := l) 0 rfl) H h).form) (fun hf7 => ?_)
  refine s_lt (t_pure (.pointer (some ⟨g4, 0, none⟩))) ?_
  refine s_lt (t_pure (.pointer (some ⟨g4, 0, none⟩))) ?_
  refine s_lt (t_pure (.pointer (some ⟨g4, 0, none⟩))) ?_
  refine s_store (u := v6) (m := 1) 1 #[v6, (.slice none 0 0), v2, (.slice none 0 0)] ?_ (hm := by (obtain ⟨_, _, e⟩ := hf7; rw [e]; rfl)) (h1 := by (obtain ⟨_, _, e⟩ := hf7; rw [e]; rfl)) (ha' := by (obtain ⟨_, _, e⟩ := hf7; rw [e]; rfl))
  refine s_nil <| xs_then <| k_seq <| k_seq <| k_reg ?_
  refine s_lt (t_pure (iw 0)) ?_
  refine s_nil <| xs_then <| k_block ?_
  refine k_mem (fun _ h => Holds.nilO (T := iTy) h) ?_
  refine k_mem (fun _ h => rf_shut (l := l) (G := []) (k := 0) (q := 0) (col_nil l) rfl (h.re [2, 1, 1, 0] [])) ?_
  refine k_mem (Bs := [rfA g4 l (srs (alO l) [] (R.take 0)) 0 0, blkA g1 #[ov, rv] 57]) (fun _ h => h) ?_
  refine k_loop (ι := Nat) (fun j => j ≤ R.length) (fun j => [(1, .pointer (some ⟨g1, 0, none⟩)), (2, .pointer none), (3, iw 0), (4, .pointer (some ⟨g4, 0, none⟩)), (5, iw (j : Int))]) (fun j => [rfA g4 l (srs (alO l) [] (R.take j)) 0 0, blkA g1 #[ov, rv] 57]) (fun j => R.length - j) 0 (Nat.zero_le _) (sub_of rfl ⟨⟨rfl, rfl⟩, ⟨⟨rfl, rfl⟩, ⟨⟨rfl, rfl⟩, ⟨⟨rfl, rfl⟩, ⟨⟨rfl, rfl⟩, trivial⟩⟩⟩⟩⟩) (fun _ h => h.re [0, 0] []) ?_
  rintro j hi8
  show SK _ _ _ _ _ [(1, .pointer (some ⟨g1, 0, none⟩)), (2, .pointer none), (3, iw 0), (4, .pointer (some ⟨g4, 0, none⟩)), (5, iw (j : Int))] _ [rfA g4 l (srs (alO l) [] (R.take j)) 0 0, blkA g1 #[ov, rv] 57]
  have hsl := srs_len (alO l) (R.take j) []; rw [List.length_take] at hsl; simp only [List.length_nil] at hsl
  refine k_seq <| k_seq <| k_reg ?_
  refine s_lt (t_pure (iw (j : Int))) ?_
  refine s_lt (t_pure (.pointer (some ⟨g1, 1, none⟩))) ?_
  refine s_lt (t_load 1 rv) ?_
  refine s_lt (t_len iTy_ok Tryz.underlying23 (.zn hg.roots)) ?_
  refine s_lt t_cmp ?_
  refine s_nil <| xs_then <| k_cond (decide ((j : Int) < (R.length : Int))) (fun c9 => ?_) (fun c9 => ?_)
  ·
    have p10 := of_decide_eq_true c9
    refine k_skip ?_
    refine xs_then <| k_seq <| k_block ?_
    refine k_reg ?_
    refine s_lt (t_pure (.pointer (some ⟨g4, 0, none⟩))) ?_
    refine s_lt (t_pure (.pointer (some ⟨g1, 1, none⟩))) ?_
    refine s_lt (t_load 1 rv) ?_
    refine s_lt (t_pure (iw (j : Int))) ?_
    refine s_lt (t_index iTy_ok Tryz.underlying23 (.zn hg.roots) (j : Int) j (by omega) (by (try simp only [List.length_nil, List.length_cons, List.length_append, List.length_take, List.length_drop, List.length_set, List.length_replicate, List.length_reverse]); omega) (by omega)) ?_
    obtain ⟨y11, hy12⟩ : ∃ y, R[j]? = some y := ⟨_, List.getElem?_eq_getElem (by (try simp only [List.length_nil, List.length_cons, List.length_append, List.length_take, List.length_drop, List.length_set, List.length_replicate, List.length_reverse]); omega)⟩
    refine s_lt (t_loadE iTy_ok (.zn hg.roots) hy12) ?_
    refine s_call [0] (rreach_s (G := (srs (alO l) [] (R.take j))) (k := 0) (q := 0) hO hs hl (Nat.zero_le _) (Nat.zero_le _) (by omega) y11) ?_
    rintro _ _ ⟨rfl, rfl⟩
    refine s_nil <| xs_block ?_
    refine xs_then <| k_reg ?_
    refine s_lt (t_pure (iw (j : Int))) ?_
    refine s_lt (t_add (j : Int) 1 (by (try simp only [List.length_nil, List.length_cons, List.length_append, List.length_take, List.length_drop, List.length_set, List.length_replicate, List.length_reverse]); omega)) ?_
    refine s_lt (t_pure (iw ((j : Int) + 1))) ?_
    refine s_nil ?_
    rw [← srs_take hy12]
    exact xs_round (j + 1) (by show R.length - (j + 1) < R.length - j; omega) (by omega) (sub_of rfl ⟨⟨rfl, rfl⟩, ⟨⟨rfl, rfl⟩, ⟨⟨rfl, rfl⟩, ⟨⟨rfl, rfl⟩, ⟨⟨rfl, rfl⟩, trivial⟩⟩⟩⟩⟩) (fun _ h => h.re [0, 0] [])
  ·
    have p13 := of_decide_eq_false c9
    refine k_exit ?_
    refine xs_exit ?_
    refine xs_exit ?_
    refine xs_here ?_
    refine xs_then <| k_seq <| k_reg ?_
    refine s_lt (t_pure (.pointer (some ⟨g4, 0, none⟩))) ?_
    refine s_lt (t_pure (.pointer (some ⟨g4, 0, none⟩))) ?_
    refine s_lt (t_pure (iw 0)) ?_
    refine s_nil <| xs_then <| k_ret ?_
    exact xs_fin [.pointer (some ⟨g4, 0, none⟩), iw 0] [rfA g4 l (srs (alO l) [] R) 0 0] (SI.tmp 2 (SI.tmp 3 SI.nil)) (fun _ h => by rw [List.take_of_length_le (by omega)] at h; exact h.re [0] [1]) ⟨g4, rfl, rfl⟩
theorem rstep_s {Z : Zone} {F : List Asr} {b : Nat} {l : List Ob} {R G : List Int} (hO : ∀ x ∈ l, KnO Z x) (hs : Asc l) (hl : l.length ≤ 100000) (hsm : ∀ o ∈ l, o.refs.length ≤ 100000 ∧ o.ents.length ≤ 100000) (hB : Bq (alO l) (rfO l) R 0 G) : SF Tryz.prog 59 #[.pointer (some ⟨b, 0, none⟩), iw (l.length : Int)] Z (rfA b l G 0 0 :: F) fun r Bs => ∃ G1 k, Bq (alO l) (rfO l) R k G1 ∧ G1.length ≤ k ∧ Bs = rfA b l G1 k k :: F := by
  refine sf_enter Tryz.func59 78 [(0, .pointer (some ⟨b, 0, none⟩)), (1, iw (l.length : Int))] (fun w0 => ?_)
  refine k_seq <| k_reg ?_
  refine s_lt (t_pure (.bool false)) ?_
  refine s_nil <| xs_then <| k_seq <| k_seq <| k_reg ?_
  refine s_lt (t_pure (.pointer (some ⟨b, 0, none⟩))) ?_
  refine s_lt (t_pure (.bool false)) ?_
  refine s_nil <| xs_then <| k_false ?_
  refine k_skip ?_
  refine xs_then <| k_seq <| k_seq <| k_reg ?_
  refine s_lt (t_pure (iw 0)) ?_
  refine s_nil <| xs_then <| k_block ?_
  refine k_loop (ι := List Int × Nat) (fun (G1, i) => i ≤ l.length ∧ Bq (alO l) (rfO l) R i G1) (fun (G1, i) => [(0, .pointer (some ⟨b, 0, none⟩)), (1, iw (l.length : Int)), (4, .bool false), (5, iw (i : Int))]) (fun (G1, i) => rfA b l G1 i i :: F) (fun (G1, i) => l.length - i) (G, 0) ⟨Nat.zero_le _, hB⟩ (sub_of rfl ⟨⟨rfl, rfl⟩, ⟨⟨rfl, rfl⟩, ⟨⟨rfl, rfl⟩, ⟨⟨rfl, rfl⟩, trivial⟩⟩⟩⟩) (fun _ h => h.re [0] []) ?_
  rintro ⟨G1, i⟩ hi1
  replace hi1 : i ≤ l.length ∧ Bq (alO l) (rfO l) R i G1 := hi1
  show SK _ _ _ _ _ [(0, .pointer (some ⟨b, 0, none⟩)), (1, iw (l.length : Int)), (4, .bool false), (5, iw (i : Int))] _ (rfA b l G1 i i :: F)
  obtain ⟨hj1, hj2⟩ := id hi1
  have hGl := hj2.len (fun x hx => al_ids hx); rw [List.length_map] at hGl; have hdl : (G1.drop i).length = G1.length - i := List.length_drop
  refine k_seq <| k_seq <| k_reg ?_
  refine s_lt (t_pure (iw (i : Int))) ?_
  refine s_lt (t_pure (iw (l.length : Int))) ?_
  refine s_lt t_cmp ?_
  refine s_lt (t_pure (.bool (decide ((i : Int) < (l.length : Int))))) ?_
  refine s_fork 15 (decide ((i : Int) < (l.length : Int))) (fun c2 => ?_) (fun c2 => ?_)
  ·
    have p3 := of_decide_eq_true c2
    refine s_lt (t_pure (.pointer (some ⟨b, 0, none⟩))) ?_
    refine s_lt (t_pure (.pointer (some ⟨b, 0, none⟩))) ?_
    refine s_lt (t_pure (.pointer (some ⟨b, 3, none⟩))) ?_
    refine s_mem3 (fun H h => rf_open (h.re [0] [])) (fun ov4 cv5 qv6 hw => ?_)
    have hml7 : (l.map fun o => clI G1 i o.id).length = l.length := List.length_map _
    refine s_lt (t_load 0 qv6) ?_
    refine s_lt (t_len iTy_ok Tryz.underlying23 (.ownO 3)) ?_
    refine s_lt t_cmp ?_
    refine s_lt (t_pure (.bool (decide ((0 : Int) < ((G1.drop i).length : Int))))) ?_
    refine s_nil <| xs_then <| k_cond (decide ((0 : Int) < ((G1.drop i).length : Int))) (fun c8 => ?_) (fun c8 => ?_)
    ·
      have p9 := of_decide_eq_true c8
      refine k_skip ?_
      refine xs_then <| k_seq <| k_block ?_
      refine k_seq <| k_reg ?_
      refine s_lt (t_pure (.pointer (some ⟨b, 0, none⟩))) ?_
      refine s_lt (t_pure (.pointer (some ⟨b, 0, none⟩))) ?_
      refine s_lt (t_pure (.pointer (some ⟨b, 3, none⟩))) ?_
      refine s_lt (t_load 0 qv6) ?_
      refine s_lt (t_index iTy_ok Tryz.underlying23 (.ownO 3) 0 0 (by omega) (by (try simp only [List.length_nil, List.length_cons, List.length_append, List.length_take, List.length_drop, List.length_set, List.length_replicate, List.length_reverse]); omega) (by omega)) ?_
      obtain ⟨y10, hy11⟩ : ∃ y, (G1.drop i)[0]? = some y := ⟨_, List.getElem?_eq_getElem (by (try simp only [List.length_nil, List.length_cons, List.length_append, List.length_take, List.length_drop, List.length_set, List.length_replicate, List.length_reverse]); omega)⟩
      refine s_lt (t_loadE iTy_ok (.ownO 3) hy11) ?_
      refine s_lt (t_pure (iw y10)) ?_
      refine s_nil <| xs_then <| k_seq <| k_reg ?_
      refine s_lt (t_pure (.pointer (some ⟨b, 0, none⟩))) ?_
      refine s_lt (t_pure (.pointer (some ⟨b, 0, none⟩))) ?_
      refine s_lt (t_pure (.pointer (some ⟨b, 0, none⟩))) ?_
      refine s_lt (t_pure (.pointer (some ⟨b, 3, none⟩))) ?_
      refine s_lt (t_load 0 qv6) ?_
      refine s_lt (t_suf iTy_ok Tryz.underlying23 (.ownO 3) 1 1 (by omega) (by (try simp only [List.length_nil, List.length_cons, List.length_append, List.length_take, List.length_drop, List.length_set, List.length_replicate, List.length_reverse]); omega) (by omega)) ?_
      refine s_lt (t_pure (.pointer (some ⟨b, 0, none⟩))) ?_
      refine s_lt (t_pure (.pointer (some ⟨b, 3, none⟩))) ?_
      refine s_mem (fun _ h => Holds.sufO (i := 3) h iTy_ok 1 rfl (by (try simp only [List.length_nil, List.length_cons, List.length_append, List.length_take, List.length_drop, List.length_set, List.length_replicate, List.length_reverse]); omega)) ?_
      refine s_fact (fun H h => ((Acc.ownO (T := iTy) (L := ((G1.drop i).drop 1)) 3 rfl) H h).form) (fun hf12 => ?_)
      refine s_store (u := (suf iTy.size qv6 1)) (m := 1) 0 #[ov4, (.slice none 0 0), cv5, (suf iTy.size qv6 1)] ?_ (hm := by (obtain ⟨_, _, e⟩ := hf12; rw [e]; rfl)) (h1 := by (obtain ⟨_, _, e⟩ := hf12; rw [e]; rfl)) (ha' := by (obtain ⟨_, _, e⟩ := hf12; rw [e]; rfl))
      refine s_nil <| xs_then <| k_seq <| k_reg ?_
      refine s_lt (t_pure (.pointer (some ⟨b, 0, none⟩))) ?_
      refine s_lt (t_pure (.pointer (some ⟨b, 0, none⟩))) ?_
      refine s_lt (t_pure (.pointer (some ⟨b, 0, none⟩))) ?_
      refine s_lt (t_loadA 0 #[ov4, (.slice none 0 0)]) ?_
      refine s_lt (t_pure (iw y10)) ?_
      refine s_vcall (fun _ h => find2_s (show KnG _ _ _ l [] from ⟨Acc.kn (T := ObT) (.own 1) h, Acc.kn (T := iTy) .nil h, fun x hx => ⟨Kn.up (hO x hx).1 h, Kn.up (hO x hx).2 h⟩⟩) hs (by omega) y10) ?_
      rintro _ rfl
      have hGy := get_drop0 hy11; have hGi := (List.getElem?_eq_some_iff.1 hGy).1
      obtain ⟨ix13, ob14, hx15, hid16, hf17, he18⟩ := find_must hs (hj2.snd y10 (List.mem_of_getElem? hGy)).1; rw [he18]
      have hk19 := hO ob14 (List.mem_of_getElem? hx15)
      have hlt20 : ix13 < l.length := (List.getElem?_eq_some_iff.1 hx15).1
      refine s_lt (t_pure (iw (ix13 : Int))) ?_
      refine s_nil <| xs_then <| k_seq <| k_reg ?_
      refine s_lt (t_pure (.pointer (some ⟨b, 0, none⟩))) ?_
      refine s_lt (t_pure (.pointer (some ⟨b, 0, none⟩))) ?_
      refine s_lt (t_pure (.pointer (some ⟨b, 0, none⟩))) ?_
      refine s_lt (t_pure (.pointer (some ⟨b, 0, none⟩))) ?_
      refine s_lt (t_load 0 ov4) ?_
      refine s_lt (t_pure (iw (ix13 : Int))) ?_
      refine s_lt (t_index ObT_ok Tryz.underlying55 (.own 1) (ix13 : Int) ix13 (by omega) (by (try simp only [List.length_nil, List.length_cons, List.length_append, List.length_take, List.length_drop, List.length_set, List.length_replicate, List.length_reverse]); omega) (by omega)) ?_
      refine s_lt (t_loadE ObT_ok (.own 1) hx15) ?_
      have hsx := hsm ob14 (List.mem_of_getElem? hx15)
      refine s_pcall (fun _ h => rrefs_s (x := ob14) ⟨Kn.up (hO ob14 (List.mem_of_getElem? hx15)).1 h, Kn.up (hO ob14 (List.mem_of_getElem? hx15)).2 h⟩ hsx.1 hsx.2) ?_
      rintro v21 _ rfl
      refine s_fact (fun H h => ((Acc.own (T := iTy) (L := (allO ob14)) 0 rfl) H h).form) (fun hf22 => ?_)
      refine s_lt (t_pure v21) ?_
      refine s_nil <| xs_then <| k_seq <| k_seq <| k_reg ?_
      refine s_lt (t_pure (iw 0)) ?_
      refine s_nil <| xs_then <| k_block ?_
      refine k_mem (fun _ h => rf_shut (l := l) (G := G1) (k := i) (q := (i + 1)) rfl (drop_one _ _) (h.re [1, 1, 1, 1] [])) ?_
      have hq1 := hj2.step hGy; rw [rfO_is hf17] at hq1; have hq2 := hq1; have hgy2 : (srs (alO l) G1 (allO ob14))[i]? = some y10 := by rw [pre_at (srs_ok (alO l) (allO ob14) G1).pre (by omega)]; exact hGy
      have hsx := hsm ob14 (List.mem_of_getElem? hx15); have hao : (allO ob14).length = ob14.refs.length + 2 * ob14.ents.length := by unfold allO; rw [List.length_append, ent_len]
      refine k_mem (Bs := rfA b l (srs (alO l) G1 ((allO ob14).take 0)) i (i + 1) :: own iTy v21 (allO ob14) :: F) (fun _ h => h) ?_
      refine k_loop (ι := Nat) (fun j => j ≤ (allO ob14).length) (fun j => [(0, .pointer (some ⟨b, 0, none⟩)), (1, iw (l.length : Int)), (4, .bool false), (5, iw (i : Int)), (6, iw y10), (7, iw (ix13 : Int)), (8, v21), (9, iw (j : Int)), (12, iw (i : Int)), (13, iw (l.length : Int)), (14, .bool (decide ((i : Int) < (l.length : Int)))), (15, .bool true), (16, .pointer (some ⟨b, 0, none⟩)), (17, .pointer (some ⟨b, 0, none⟩)), (18, .pointer (some ⟨b, 3, none⟩)), (19, qv6), (20, iw ((G1.drop i).length : Int)), (21, .bool (decide ((0 : Int) < ((G1.drop i).length : Int)))), (22, .bool (decide ((0 : Int) < ((G1.drop i).length : Int)))), (25, .pointer (some ⟨b, 0, none⟩)), (26, .pointer (some ⟨b, 0, none⟩)), (27, .pointer (some ⟨b, 3, none⟩)), (28, qv6), (29, .pointer (some (elemAt iTy.size qv6 0))), (30, iw y10), (31, .pointer (some ⟨b, 0, none⟩)), (32, .pointer (some ⟨b, 0, none⟩)), (33, .pointer (some ⟨b, 0, none⟩)), (34, .pointer (some ⟨b, 3, none⟩)), (35, qv6), (36, (suf iTy.size qv6 1)), (37, .pointer (some ⟨b, 0, none⟩)), (38, .pointer (some ⟨b, 3, none⟩)), (39, .pointer (some ⟨b, 0, none⟩)), (40, .pointer (some ⟨b, 0, none⟩)), (41, .pointer (some ⟨b, 0, none⟩)), (42, .agg #[ov4, (.slice none 0 0)]), (43, iw y10), (44, iw (ix13 : Int)), (45, .pointer (some ⟨b, 0, none⟩)), (46, .pointer (some ⟨b, 0, none⟩)), (47, .pointer (some ⟨b, 0, none⟩)), (48, .pointer (some ⟨b, 0, none⟩)), (49, ov4), (50, iw (ix13 : Int)), (51, .pointer (some (elemAt ObT.size ov4 ix13))), (52, .agg #[iw ob14.id, iw ob14.size, iw ob14.weak, ob14.rv.v, ob14.ev.v]), (53, v21)]) (fun j => rfA b l (srs (alO l) G1 ((allO ob14).take j)) i (i + 1) :: own iTy v21 (allO ob14) :: F) (fun j => (allO ob14).length - j) 0 (Nat.zero_le _) (sub_of rfl ⟨⟨rfl, rfl⟩, ⟨⟨rfl, rfl⟩, ⟨⟨rfl, rfl⟩, ⟨⟨rfl, rfl⟩, ⟨⟨rfl, rfl⟩, ⟨⟨rfl, rfl⟩, ⟨⟨rfl, rfl⟩, ⟨⟨rfl, rfl⟩, ⟨⟨rfl, rfl⟩, ⟨⟨rfl, rfl⟩, ⟨⟨rfl, rfl⟩, ⟨⟨rfl, rfl⟩, ⟨⟨rfl, rfl⟩, ⟨⟨rfl, rfl⟩, ⟨⟨rfl, rfl⟩, ⟨⟨rfl, rfl⟩, ⟨⟨rfl, rfl⟩, ⟨⟨rfl, rfl⟩, ⟨⟨rfl, rfl⟩, ⟨⟨rfl, rfl⟩, ⟨⟨rfl, rfl⟩, ⟨⟨rfl, rfl⟩, ⟨⟨rfl, rfl⟩, ⟨⟨rfl, rfl⟩, ⟨⟨rfl, rfl⟩, ⟨⟨rfl, rfl⟩, ⟨⟨rfl, rfl⟩, ⟨⟨rfl, rfl⟩, ⟨⟨rfl, rfl⟩, ⟨⟨rfl, rfl⟩, ⟨⟨rfl, rfl⟩, ⟨⟨rfl, rfl⟩, ⟨⟨rfl, rfl⟩, ⟨⟨rfl, rfl⟩, ⟨⟨rfl, rfl⟩, ⟨⟨rfl, rfl⟩, ⟨⟨rfl, rfl⟩, ⟨⟨rfl, rfl⟩, ⟨⟨rfl, rfl⟩, ⟨⟨rfl, rfl⟩, ⟨⟨rfl, rfl⟩, ⟨⟨rfl, rfl⟩, ⟨⟨rfl, rfl⟩, ⟨⟨rfl, rfl⟩, ⟨⟨rfl, rfl⟩, ⟨⟨rfl, rfl⟩, ⟨⟨rfl, rfl⟩, ⟨⟨rfl, rfl⟩, trivial⟩⟩⟩⟩⟩⟩⟩⟩⟩⟩⟩⟩⟩⟩⟩⟩⟩⟩⟩⟩⟩⟩⟩⟩⟩⟩⟩⟩⟩⟩⟩⟩⟩⟩⟩⟩⟩⟩⟩⟩⟩⟩⟩⟩⟩⟩⟩⟩) (fun _ h => h.re [0, 0] []) ?_
      rintro j hi23
      show SK _ _ _ _ _ [(0, .pointer (some ⟨b, 0, none⟩)), (1, iw (l.length : Int)), (4, .bool false), (5, iw (i : Int)), (6, iw y10), (7, iw (ix13 : Int)), (8, v21), (9, iw (j : Int)), (12, iw (i : Int)), (13, iw (l.length : Int)), (14, .bool (decide ((i : Int) < (l.length : Int)))), (15, .bool true), (16, .pointer (some ⟨b, 0, none⟩)), (17, .pointer (some ⟨b, 0, none⟩)), (18, .pointer (some ⟨b, 3, none⟩)), (19, qv6), (20, iw ((G1.drop i).length : Int)), (21, .bool (decide ((0 : Int) < ((G1.drop i).length : Int)))), (22, .bool (decide ((0 : Int) < ((G1.drop i).length : Int)))), (25, .pointer (some ⟨b, 0, none⟩)), (26, .pointer (some ⟨b, 0, none⟩)), (27, .pointer (some ⟨b, 3, none⟩)), (28, qv6), (29, .pointer (some (elemAt iTy.size qv6 0))), (30, iw y10), (31, .pointer (some ⟨b, 0, none⟩)), (32, .pointer (some ⟨b, 0, none⟩)), (33, .pointer (some ⟨b, 0, none⟩)), (34, .pointer (some ⟨b, 3, none⟩)), (35, qv6), (36, (suf iTy.size qv6 1)), (37, .pointer (some ⟨b, 0, none⟩)), (38, .pointer (some ⟨b, 3, none⟩)), (39, .pointer (some ⟨b, 0, none⟩)), (40, .pointer (some ⟨b, 0, none⟩)), (41, .pointer (some ⟨b, 0, none⟩)), (42, .agg #[ov4, (.slice none 0 0)]), (43, iw y10), (44, iw (ix13 : Int)), (45, .pointer (some ⟨b, 0, none⟩)), (46, .pointer (some ⟨b, 0, none⟩)), (47, .pointer (some ⟨b, 0, none⟩)), (48, .pointer (some ⟨b, 0, none⟩)), (49, ov4), (50, iw (ix13 : Int)), (51, .pointer (some (elemAt ObT.size ov4 ix13))), (52, .agg #[iw ob14.id, iw ob14.size, iw ob14.weak, ob14.rv.v, ob14.ev.v]), (53, v21)] _ (rfA b l (srs (alO l) G1 ((allO ob14).take j)) i (i + 1) :: own iTy v21 (allO ob14) :: F)
      have hgl := (srs_ok (alO l) ((allO ob14).take j) G1).pre.length_le; have hgt := srs_len (alO l) ((allO ob14).take j) G1; rw [List.length_take] at hgt
      refine k_seq <| k_seq <| k_reg ?_
      refine s_lt (t_pure (iw (j : Int))) ?_
      refine s_lt (t_pure v21) ?_
      refine s_lt (t_len iTy_ok Tryz.underlying23 (.own 1)) ?_
      refine s_lt t_cmp ?_
      refine s_nil <| xs_then <| k_cond (decide ((j : Int) < ((allO ob14).length : Int))) (fun c24 => ?_) (fun c24 => ?_)
      ·
        have p25 := of_decide_eq_true c24
        refine k_skip ?_
        refine xs_then <| k_seq <| k_block ?_
        refine k_reg ?_
        refine s_lt (t_pure (.pointer (some ⟨b, 0, none⟩))) ?_
        refine s_lt (t_pure v21) ?_
        refine s_lt (t_pure (iw (j : Int))) ?_
        refine s_lt (t_index iTy_ok Tryz.underlying23 (.own 1) (j : Int) j (by omega) (by (try simp only [List.length_nil, List.length_cons, List.length_append, List.length_take, List.length_drop, List.length_set, List.length_replicate, List.length_reverse]); omega) (by omega)) ?_
        obtain ⟨y26, hy27⟩ : ∃ y, (allO ob14)[j]? = some y := ⟨_, List.getElem?_eq_getElem (by (try simp only [List.length_nil, List.length_cons, List.length_append, List.length_take, List.length_drop, List.length_set, List.length_replicate, List.length_reverse]); omega)⟩
        refine s_lt (t_loadE iTy_ok (.own 1) hy27) ?_
        refine s_call [0] (rreach_s (G := (srs (alO l) G1 ((allO ob14).take j))) (k := i) (q := (i + 1)) hO hs hl (by omega) (by omega) (by omega) y26) ?_
        rintro _ _ ⟨rfl, rfl⟩
        refine s_nil <| xs_block ?_
        refine xs_then <| k_reg ?_
        refine s_lt (t_pure (iw (j : Int))) ?_
        refine s_lt (t_add (j : Int) 1 (by (try simp only [List.length_nil, List.length_cons, List.length_append, List.length_take, List.length_drop, List.length_set, List.length_replicate, List.length_reverse]); omega)) ?_
        refine s_lt (t_pure (iw ((j : Int) + 1))) ?_
        refine s_nil ?_
        rw [← srs_take hy27]
        exact xs_round (j + 1) (by show (allO ob14).length - (j + 1) < (allO ob14).length - j; omega) (by omega) (sub_of rfl ⟨⟨rfl, rfl⟩, ⟨⟨rfl, rfl⟩, ⟨⟨rfl, rfl⟩, ⟨⟨rfl, rfl⟩, ⟨⟨rfl, rfl⟩, ⟨⟨rfl, rfl⟩, ⟨⟨rfl, rfl⟩, ⟨⟨rfl, rfl⟩, ⟨⟨rfl, rfl⟩, ⟨⟨rfl, rfl⟩, ⟨⟨rfl, rfl⟩, ⟨⟨rfl, rfl⟩, ⟨⟨rfl, rfl⟩, ⟨⟨rfl, rfl⟩, ⟨⟨rfl, rfl⟩, ⟨⟨rfl, rfl⟩, ⟨⟨rfl, rfl⟩, ⟨⟨rfl, rfl⟩, ⟨⟨rfl, rfl⟩, ⟨⟨rfl, rfl⟩, ⟨⟨rfl, rfl⟩, ⟨⟨rfl, rfl⟩, ⟨⟨rfl, rfl⟩, ⟨⟨rfl, rfl⟩, ⟨⟨rfl, rfl⟩, ⟨⟨rfl, rfl⟩, ⟨⟨rfl, rfl⟩, ⟨⟨rfl, rfl⟩, ⟨⟨rfl, rfl⟩, ⟨⟨rfl, rfl⟩, ⟨⟨rfl, rfl⟩, ⟨⟨rfl, rfl⟩, ⟨⟨rfl, rfl⟩, ⟨⟨rfl, rfl⟩, ⟨⟨rfl, rfl⟩, ⟨⟨rfl, rfl⟩, ⟨⟨rfl, rfl⟩, ⟨⟨rfl, rfl⟩, ⟨⟨rfl, rfl⟩, ⟨⟨rfl, rfl⟩, ⟨⟨rfl, rfl⟩, ⟨⟨rfl, rfl⟩, ⟨⟨rfl, rfl⟩, ⟨⟨rfl, rfl⟩, ⟨⟨rfl, rfl⟩, ⟨⟨rfl, rfl⟩, ⟨⟨rfl, rfl⟩, ⟨⟨rfl, rfl⟩, trivial⟩⟩⟩⟩⟩⟩⟩⟩⟩⟩⟩⟩⟩⟩⟩⟩⟩⟩⟩⟩⟩⟩⟩⟩⟩⟩⟩⟩⟩⟩⟩⟩⟩⟩⟩⟩⟩⟩⟩⟩⟩⟩⟩⟩⟩⟩⟩⟩) (fun _ h => h.re [0, 0] [])
      ·
        have p28 := of_decide_eq_false c24
        refine k_exit ?_
        obtain rfl : j = (allO ob14).length := by omega
        rw [List.take_length]
        refine xs_exit ?_
        refine xs_exit ?_
        refine xs_here ?_
        refine xs_then <| k_reg ?_
        refine s_lt (t_pure (.pointer (some ⟨b, 0, none⟩))) ?_
        refine s_lt (t_pure (.pointer (some ⟨b, 0, none⟩))) ?_
        refine s_lt (t_pure (.pointer (some ⟨b, 2, none⟩))) ?_
        refine s_mem3 (fun H h => rf_open (h.re [0] [])) (fun ov29 cv30 qv31 hw => ?_)
        have hml32 : (l.map fun o => clI (srs (alO l) G1 (allO ob14)) i o.id).length = l.length := List.length_map _
        refine s_lt (t_load 0 cv30) ?_
        refine s_lt (t_pure (iw (ix13 : Int))) ?_
        refine s_lt (t_index iTy_ok Tryz.underlying23 (.own 2) (ix13 : Int) ix13 (by omega) (by (try simp only [List.length_nil, List.length_cons, List.length_append, List.length_take, List.length_drop, List.length_set, List.length_replicate, List.length_reverse]); omega) (by omega)) ?_
        refine s_storeE 2 0 2 iTy_ok (show ((l.map fun o => clI (srs (alO l) G1 (allO ob14)) i o.id))[ix13]? = some (clI (srs (alO l) G1 (allO ob14)) i ob14.id) by rw [List.getElem?_map, hx15]; rfl) ?_
        refine s_nil <| xs_block ?_
        refine xs_then <| k_reg ?_
        refine s_lt (t_pure (iw (i : Int))) ?_
        refine s_lt (t_add (i : Int) 1 (by (try simp only [List.length_nil, List.length_cons, List.length_append, List.length_take, List.length_drop, List.length_set, List.length_replicate, List.length_reverse]); omega)) ?_
        refine s_lt (t_pure (iw ((i : Int) + 1))) ?_
        refine s_nil <| xs_mem (fun _ h => rf_shut (l := l) (G := (srs (alO l) G1 (allO ob14))) (k := (i + 1)) (q := (i + 1)) (map_set2 (f := clI (srs (alO l) G1 (allO ob14)) i) (clI (srs (alO l) G1 (allO ob14)) (i + 1)) 2 hs hx15 (by rw [hid16]; exact (clI_black hgy2).trans (if_pos rfl)) (fun x hx => (clI_black hgy2).trans (if_neg (by rw [← hid16]; exact hx)))) rfl (h.re [0, 0, 0, 0] [])) ?_
        exact xs_round (srs (alO l) G1 (allO ob14), i + 1) (by show l.length - (i + 1) < l.length - i; omega) ⟨by omega, hq2⟩ (sub_of rfl ⟨⟨rfl, rfl⟩, ⟨⟨rfl, rfl⟩, ⟨⟨rfl, rfl⟩, ⟨⟨rfl, rfl⟩, trivial⟩⟩⟩⟩) (fun _ h => h.re [0] [1])
    ·
      have p33 := of_decide_eq_false c8
      refine k_exit ?_
      refine xs_exit ?_
      refine xs_exit ?_
      refine xs_here ?_
      refine xs_then <| k_seq <| k_reg ?_
      refine s_lt (t_pure (.pointer (some ⟨b, 0, none⟩))) ?_
      refine s_lt (t_pure (.pointer (some ⟨b, 0, none⟩))) ?_
      refine s_lt (t_pure (.pointer (some ⟨b, 3, none⟩))) ?_
      refine s_lt (t_load 0 qv6) ?_
      refine s_lt (t_len iTy_ok Tryz.underlying23 (.ownO 3)) ?_
      refine s_lt t_cmp ?_
      refine s_lt (t_pure (.bool (decide (((G1.drop i).length : Int) = 0)))) ?_
      refine s_nil <| xs_then <| k_ret <| xs_mem (fun _ h => rf_shut (l := l) (G := G1) (k := i) (q := i) rfl rfl (h.re [0, 0, 0, 0] [])) ?_
      refine xs_fin [.bool (decide (((G1.drop i).length : Int) = 0))] (rfA b l G1 i i :: F) (SI.tmp 4 SI.nil) (fun _ h => h.re [0] []) ⟨G1, i, hj2, by omega, rfl⟩
  ·
    have p34 := of_decide_eq_false c2
    refine s_skip ?_
    refine s_skip ?_
    refine s_skip ?_
    refine s_skip ?_
    refine s_skip ?_
    refine s_skip ?_
    refine s_lt (t_pure (.bool false)) ?_
    refine s_nil <| xs_then <| k_false ?_
    refine k_exit ?_
    refine xs_exit ?_
    refine xs_exit ?_
    refine xs_here ?_
    refine xs_then <| k_seq <| k_reg ?_
    refine s_lt (t_pure (.pointer (some ⟨b, 0, none⟩))) ?_
    refine s_lt (t_pure (.pointer (some ⟨b, 0, none⟩))) ?_
    refine s_lt (t_pure (.pointer (some ⟨b, 3, none⟩))) ?_
    refine s_mem3 (fun H h => rf_open (h.re [0] [])) (fun ov35 cv36 qv37 hw => ?_)
    have hml38 : (l.map fun o => clI G1 i o.id).length = l.length := List.length_map _
    refine s_lt (t_load 0 qv37) ?_
    refine s_lt (t_len iTy_ok Tryz.underlying23 (.ownO 3)) ?_
    refine s_lt t_cmp ?_
    refine s_lt (t_pure (.bool (decide (((G1.drop i).length : Int) = 0)))) ?_
    refine s_nil <| xs_then <| k_ret <| xs_mem (fun _ h => rf_shut (l := l) (G := G1) (k := i) (q := i) rfl rfl (h.re [0, 0, 0, 0] [])) ?_
    refine xs_fin [.bool (decide (((G1.drop i).length : Int) = 0))] (rfA b l G1 i i :: F) (SI.tmp 4 SI.nil) (fun _ h => h.re [0] []) ⟨G1, i, hj2, by omega, rfl⟩
theorem rgraph_s {Z : Zone} {ov rv : Value} {l : List Ob} {R : List Int} (hg : KnG Z ov rv l R) (hc : chk 0 l = true) (hs : Asc l) (hl : l.length ≤ 100000) (hr : R.length ≤ 100000) (hsm : ∀ o ∈ l, o.refs.length ≤ 100000 ∧ o.ents.length ≤ 100000) : SF Tryz.prog 21 #[.agg #[ov, rv]] Z [] fun r Bs => ∃ v G k, r = .tuple #[v, iw 0] ∧ Bq (alO l) (rfO l) R k G ∧ G.length ≤ k ∧ Bs = [own iTy v (fil l G)] := by
  refine sf_enter Tryz.func21 46 [(0, .agg #[ov, rv])] (fun w0 => ?_)
  refine k_fact (fun H h => (hg.obs.get h).len_le) (fun lA => ?_)
  refine k_seq <| k_reg ?_
  refine s_box #[ov, rv] (fun g1 => ?_)
  refine s_lt (t_pure (.slice none 0 0)) ?_
  refine s_lt (t_pure (iw 0)) ?_
  refine s_nil <| xs_then <| k_seq <| k_reg ?_
  refine s_lt (t_loadA 0 #[ov, rv]) ?_
  refine s_pcall (fun _ h => rnew_s (hg.up h) hc hs hl hr) ?_
  rintro _ _ ⟨b2, rfl, rfl⟩
  refine s_lt (t_pure (.tuple #[.pointer (some ⟨b2, 0, none⟩), iw 0])) ?_
  refine s_lt (t_pure (.pointer (some ⟨b2, 0, none⟩))) ?_
  refine s_lt (t_pure (iw 0)) ?_
  refine s_lt (t_pure (.pointer (some ⟨b2, 0, none⟩))) ?_
  refine s_lt (t_pure (iw 0)) ?_
  refine s_nil <| xs_then <| k_seq <| k_seq <| k_reg ?_
  refine s_lt (t_pure (iw 0)) ?_
  refine s_lt (t_cmp (c := false)) ?_
  refine s_nil <| xs_then <| k_false ?_
  refine k_skip ?_
  refine xs_then <| k_seq <| k_reg ?_
  refine s_lt (t_pure (.pointer (some ⟨b2, 0, none⟩))) ?_
  refine s_lt (t_pure (.pointer (some ⟨g1, 0, none⟩))) ?_
  refine s_lt (t_load 1 ov) ?_
  refine s_lt (t_len ObT_ok Tryz.underlying55 (.zn hg.obs)) ?_
  refine s_call [0] (rstep_s hg.each hs hl hsm (bq_start (alO l) (rfO l) R)) ?_
  rintro v5 _ ⟨G3, k4, hB, hGe, rfl⟩
  refine s_nil <| xs_then <| k_seq <| k_reg ?_
  refine s_lt (t_pure (.slice none 0 0)) ?_
  refine s_nil <| xs_then <| k_seq <| k_seq <| k_reg ?_
  refine s_lt (t_pure (iw 0)) ?_
  refine s_nil <| xs_then <| k_block ?_
  refine k_mem (fun _ h => Holds.nilS (T := iTy) h) ?_
  refine k_mem (Bs := [own iTy (.slice none 0 0) (fil (l.take 0) G3), rfA b2 l G3 k4 k4, blkA g1 #[ov, rv] 57]) (fun _ h => h) ?_
  refine k_loop (ι := Value × Nat) (fun (sx, i) => i ≤ l.length) (fun (sx, i) => [(1, .pointer (some ⟨g1, 0, none⟩)), (2, (.slice none 0 0)), (3, iw 0), (4, .pointer (some ⟨b2, 0, none⟩)), (6, sx), (7, iw (i : Int))]) (fun (sx, i) => [own iTy sx (fil (l.take i) G3), rfA b2 l G3 k4 k4, blkA g1 #[ov, rv] 57]) (fun (sx, i) => l.length - i) (.slice none 0 0, 0) (Nat.zero_le _) (sub_of rfl ⟨⟨rfl, rfl⟩, ⟨⟨rfl, rfl⟩, ⟨⟨rfl, rfl⟩, ⟨⟨rfl, rfl⟩, ⟨⟨rfl, rfl⟩, ⟨⟨rfl, rfl⟩, trivial⟩⟩⟩⟩⟩⟩) (fun _ h => h.re [0, 0, 0] []) ?_
  rintro ⟨sx, i⟩ hi6
  replace hi6 : i ≤ l.length := hi6
  show SK _ _ _ _ _ [(1, .pointer (some ⟨g1, 0, none⟩)), (2, (.slice none 0 0)), (3, iw 0), (4, .pointer (some ⟨b2, 0, none⟩)), (6, sx), (7, iw (i : Int))] _ [own iTy sx (fil (l.take i) G3), rfA b2 l G3 k4 k4, blkA g1 #[ov, rv] 57]
  have hll := fil_len (l.take i) G3; rw [List.length_take] at hll
  refine k_seq <| k_seq <| k_reg ?_
  refine s_lt (t_pure (iw (i : Int))) ?_
  refine s_lt (t_pure (.pointer (some ⟨g1, 0, none⟩))) ?_
  refine s_lt (t_load 2 ov) ?_
  refine s_lt (t_len ObT_ok Tryz.underlying55 (.zn hg.obs)) ?_
  refine s_lt t_cmp ?_
  refine s_nil <| xs_then <| k_cond (decide ((i : Int) < (l.length : Int))) (fun c7 => ?_) (fun c7 => ?_)
  ·
    have p8 := of_decide_eq_true c7
    refine k_skip ?_
    refine xs_then <| k_seq <| k_block ?_
    refine k_seq <| k_reg ?_
    refine s_lt (t_pure (.pointer (some ⟨b2, 0, none⟩))) ?_
    refine s_lt (t_pure (.pointer (some ⟨b2, 0, none⟩))) ?_
    refine s_lt (t_pure (.pointer (some ⟨b2, 2, none⟩))) ?_
    refine s_mem3 (fun H h => rf_open (h.re [1] [])) (fun ov9 cv10 qv11 hw => ?_)
    have hml12 : (l.map fun o => clI G3 k4 o.id).length = l.length := List.length_map _
    refine s_lt (t_load 0 cv10) ?_
    refine s_lt (t_pure (iw (i : Int))) ?_
    refine s_lt (t_index iTy_ok Tryz.underlying23 (.own 2) (i : Int) i (by omega) (by (try simp only [List.length_nil, List.length_cons, List.length_append, List.length_take, List.length_drop, List.length_set, List.length_replicate, List.length_reverse]); omega) (by omega)) ?_
    obtain ⟨y13, hy14⟩ : ∃ y, l[i]? = some y := ⟨_, List.getElem?_eq_getElem (by (try simp only [List.length_nil, List.length_cons, List.length_append, List.length_take, List.length_drop, List.length_set, List.length_replicate, List.length_reverse]); omega)⟩
    have hk15 := hg.each y13 (List.mem_of_getElem? hy14)
    refine s_lt (t_loadE iTy_ok (.own 2) (show ((l.map fun o => clI G3 k4 o.id))[i]? = some (clI G3 k4 y13.id) by rw [List.getElem?_map, hy14]; rfl)) ?_
    refine s_lt t_cmp ?_
    refine s_nil <| xs_then <| k_cond (decide ((clI G3 k4 y13.id) = 2)) (fun c16 => ?_) (fun c16 => ?_)
    ·
      have p17 := of_decide_eq_true c16
      refine k_reg ?_
      refine s_lt (t_pure sx) ?_
      refine s_lt (t_pure (.pointer (some ⟨g1, 0, none⟩))) ?_
      refine s_lt (t_load 5 ov) ?_
      refine s_lt (t_pure (iw (i : Int))) ?_
      refine s_lt (t_index ObT_ok Tryz.underlying55 (.zn hg.obs) (i : Int) i (by omega) (by (try simp only [List.length_nil, List.length_cons, List.length_append, List.length_take, List.length_drop, List.length_set, List.length_replicate, List.length_reverse]); omega) (by omega)) ?_
      refine s_lt (t_pure (.pointer (some (elemAt ObT.size ov i)))) ?_
      refine s_lt (t_loadF 0 ObT_ok (.zn hg.obs) hy14) ?_
      refine s_buildSlice (e := 3) [(0, iw y13.id)] #[iw y13.id] (fun g18 => ?_) (hb := by kernel_rfl)
      refine s_append (L := (fil (l.take i) G3)) 5 iTy_ok Tryz.underlying23 (.lit 0 iTy_ok [y13.id]) (by show _ * 8 ≤ _; (try simp only [List.length_nil, List.length_cons, List.length_append, List.length_take, List.length_drop, List.length_set, List.length_replicate, List.length_reverse]); omega) (by (try simp only [List.length_nil, List.length_cons, List.length_append, List.length_take, List.length_drop, List.length_set, List.length_replicate, List.length_reverse]); omega) (fun v19 => ?_)
      refine s_fact (fun H h => ((Acc.own (T := iTy) (L := ((fil (l.take i) G3) ++ [y13.id])) 5 rfl) H h).form) (fun hf20 => ?_)
      refine s_lt (t_pure v19) ?_
      refine s_nil <| xs_block ?_
      refine xs_then <| k_reg ?_
      refine s_lt (t_pure (iw (i : Int))) ?_
      refine s_lt (t_add (i : Int) 1 (by (try simp only [List.length_nil, List.length_cons, List.length_append, List.length_take, List.length_drop, List.length_set, List.length_replicate, List.length_reverse]); omega)) ?_
      refine s_lt (t_pure (iw ((i : Int) + 1))) ?_
      refine s_nil <| xs_mem (fun _ h => rf_shut (l := l) (G := G3) (k := k4) (q := k4) rfl rfl (h.re [1, 1, 1, 1] [])) ?_
      rw [fil_yes hy14 ((clI_end hGe).1 p17)]
      exact xs_round (v19, i + 1) (by show l.length - (i + 1) < l.length - i; omega) (by show i + 1 ≤ l.length; omega) (sub_of rfl ⟨⟨rfl, rfl⟩, ⟨⟨rfl, rfl⟩, ⟨⟨rfl, rfl⟩, ⟨⟨rfl, rfl⟩, ⟨⟨rfl, rfl⟩, ⟨⟨rfl, rfl⟩, trivial⟩⟩⟩⟩⟩⟩) (fun _ h => h.re [2, 0, 1] [3])
    ·
      have p21 := of_decide_eq_false c16
      refine k_skip ?_
      refine xs_block ?_
      refine xs_then <| k_reg ?_
      refine s_lt (t_pure (iw (i : Int))) ?_
      refine s_lt (t_add (i : Int) 1 (by (try simp only [List.length_nil, List.length_cons, List.length_append, List.length_take, List.length_drop, List.length_set, List.length_replicate, List.length_reverse]); omega)) ?_
      refine s_lt (t_pure (iw ((i : Int) + 1))) ?_
      refine s_nil <| xs_mem (fun _ h => rf_shut (l := l) (G := G3) (k := k4) (q := k4) rfl rfl (h.re [0, 0, 0, 0] [])) ?_
      rw [fil_no hy14 (fun q => p21 ((clI_end hGe).2 q))]
      exact xs_round (sx, i + 1) (by show l.length - (i + 1) < l.length - i; omega) (by show i + 1 ≤ l.length; omega) (sub_of rfl ⟨⟨rfl, rfl⟩, ⟨⟨rfl, rfl⟩, ⟨⟨rfl, rfl⟩, ⟨⟨rfl, rfl⟩, ⟨⟨rfl, rfl⟩, ⟨⟨rfl, rfl⟩, trivial⟩⟩⟩⟩⟩⟩) (fun _ h => h.re [1, 0, 0] [])
  ·
    have p22 := of_decide_eq_false c7
    refine k_exit ?_
    refine xs_exit ?_
    refine xs_exit ?_
    refine xs_here ?_
    refine xs_then <| k_seq <| k_reg ?_
    refine s_lt (t_pure sx) ?_
    refine s_lt (t_pure sx) ?_
    refine s_lt (t_pure (iw 0)) ?_
    refine s_nil <| xs_then <| k_ret ?_
    exact xs_fin [sx, iw 0] [own iTy sx (fil l G3)] (SI.tmp 2 (SI.tmp 3 SI.nil)) (fun _ h => by rw [List.take_of_length_le (by omega)] at h; exact h.re [0] [1, 1]) ⟨sx, G3, k4, rfl, hB, hGe, rfl⟩
end Go.Proofs.YtmhpcebiamkciaaGreat
end
section
set_option linter.unusedSimpArgs false
set_option linter.unusedVariables false
namespace Go.S
open Go.Hp Go.J Go.RowKit
open Go.Mem (Ty KTy blk suf addr_add)
section
variable {P : Program} {w0 : World} {ops : Array Oper} {Q : Exit → Act → World → Prop} {n : Nat} {E : Env} {Z : Zone} {As : List Asr} {o : Oper} {rest : List Oper} {α : Type} {T : Ty α}
theorem s_appendZ {s x : Operand} {t tn : TypeId} {d : Nat} {q kq : IntKind} {y : Int} (k : Nat) (hT : T.Ok P) (ht : P.underlying t = some (.slice T.id)) (htn : P.underlying tn = some (.int kq)) (hy : y = (k : Int)) (h0 : 0 < k) (hb : k * T.bytes ≤ 140737488355328) (h63 : k ≤ 9223372036854775807) (h : ∀ v', SL P w0 ops Q n rest ((d, v') :: E) Z (own T v' (List.replicate k T.zero) :: As)) (ho : o.op = .call { callee := .builtin .append, args := #[s, x], argTypes := #[t, tn] } := by rfl) (hs : ev E s = .slice none 0 0 := by rfl) (hx : ev E x = .int q y := by rfl) (hd : o.dst = some d := by rfl) (hk : okOp ops n E o = true := by kernel_rfl) : SL P w0 ops Q n (o :: rest) E Z As := fun H hH => by
  subst hy
  refine l_run (R := fun v' H' => Ow H' T v' (List.replicate k T.zero) ∧ Chg (fun _ => False) H H' ∧ blk v' = some H.size) hk (fun w ha => ?_) (fun v' H' ⟨a1, a2, a3⟩ => ?_)
  · obtain ⟨i, hi, hsz, hby, hz⟩ := hT.info
    rw [← hby] at hb
    have hr := Go.Lib.run_append_nil_zeros (P := P) w t tn o.type T.id i _ q kq ht htn hi hz k h0 (by rw [hsz]; exact hT.pos) (by omega) (by omega)
    have hge := grownCap_ge w k 0 T.id
    have hcm := grownCap_le_maxLen w k 0 T.id (by simpa [maxLen] using h63)
    have hzs : (T.val T.zero).cells.size = T.size := by have := hT.len T.zero; simpa [Ty.enc] using this
    have hchg := Chg.of_mem ((Mem.Chg.refl (fun _ => False) w).drew.alloc (.cells (Builtin.zeroCells (T.val T.zero).cells k ++ Builtin.zeroCells (T.val T.zero).cells (grownCap w k 0 T.id - k)) T.id))
    refine ⟨.slice (some ⟨w.heap.size, 0, none⟩) k (grownCap w k 0 T.id), w.drew.alloc (.cells (Builtin.zeroCells (T.val T.zero).cells k ++ Builtin.zeroCells (T.val T.zero).cells (grownCap w k 0 T.id - k)) T.id), ?_, ⟨rfl, ha.os, ha.tape, ha.output⟩, .inr ⟨w.heap.size, _, _, by rw [List.length_replicate], heap_alloc_new w.drew _, by simpa using hge, hcm, ?_, ?_⟩, by rw [← ha.heap]; exact hchg, by rw [← ha.heap]; rfl⟩
    · unfold execOp
      simp only [ho, resolve, invoke, builtin, Sem.run_bind, Sem.run_pure, Result.andThen_ok, List.map_toArray, List.map_cons, List.map_nil, hs, hx, hr]
    · simp only [Array.size_append, size_zeroCells, hzs, ← Nat.add_mul]
      exact Nat.le_of_eq (by congr 1; omega)
    · have e : (Builtin.zeroCells (T.val T.zero).cells k).toList = T.flat (List.replicate k T.zero) := by
        rw [← Go.Mem.madeCells_flat hT, ← hzs]; rfl
      have hl := hT.flat_len (List.replicate k T.zero)
      rw [Array.toList_append, e, ← hl]
      exact List.take_left
  · rw [hd]
    exact h v' H' (hH.new (a2.mono fun k _ hk => hk.elim) (S' := fun k => blk v' = some k) ⟨a1, fun k => Iff.rfl⟩ fun k hk => by rw [a3] at hk; cases hk; omega)
end
end Go.S
end
