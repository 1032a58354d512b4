/-
  Layer 15: the weakness of tables, finalizers, closing methods. Each law says its conditions.
-/
import Derived.Test.YtplkkhpokodbmaaW8
import Derived.Test.YtplkkhpokodbmaaCt
import Derived.Test.YtplkkhpokodbmaaSY
import Derived.Lib.IndexAny
set_option linter.unusedSimpArgs false
set_option linter.unusedVariables false
set_option maxRecDepth 100000
set_option maxHeartbeats 2000000
namespace Go.Proofs.Ytplkkhpokodbmaa
open Go.Hp Go.J Go.S
open Go.Mem (Ty KTy blk elemAt pre suf blk_pre blk_suf aget aset strK aggDesc)
open Go.Mem (adel apos aget_aset aget_adel)
/-- The weakness of a table. -/
def wkn (st : Hst) (v : Vl) : Int := if v.kind = 4 ∧ (hdl st v ⟨#[95, 95, 109, 111, 100, 101]⟩).kind = 3 then (if hasB (hdl st v ⟨#[95, 95, 109, 111, 100, 101]⟩).str 107 then 1 else 0) + (if hasB (hdl st v ⟨#[95, 95, 109, 111, 100, 101]⟩).str 118 then 2 else 0) else 0
theorem hasB_list (s : ByteArray) (c : UInt8) : hasB s c = s.data.toList.contains c := (Lib.contains_iff_indexByte _ _).symm
theorem byte_list {s : ByteArray} {i : Nat} (hi : i < s.size) : s.data.toList[i]? = s[i]? := by
  rw [getElem?_pos s i hi]
  exact (List.getElem?_eq_getElem (by simpa using hi)).trans (congrArg some (by simp [ByteArray.getElem_eq_getElem_data]))
theorem hasB_in {s : ByteArray} {c : UInt8} {i : Nat} (h : s[i]? = some c) : hasB s c = true := by
  rw [hasB_list, List.contains_iff_mem]
  have hi : i < s.size := by
    by_cases hi : i < s.size
    · exact hi
    · rw [getElem?_neg s i hi] at h; cases h
  exact List.mem_of_getElem? ((byte_list hi).trans h)
theorem hasB_out {s : ByteArray} {c : UInt8} (h : ∀ j : Nat, j < s.size → s[j]? ≠ some c) : hasB s c = false := by
  rw [hasB_list, Bool.eq_false_iff, Ne, List.contains_iff_mem]
  intro hm
  obtain ⟨j, hj, e⟩ := List.getElem_of_mem hm
  have hj' : j < s.size := by simpa using hj
  exact h j hj' ((byte_list hj').symm.trans (by rw [List.getElem?_eq_getElem hj, e]))
theorem has_step {s : ByteArray} {c y : UInt8} {i : Nat} (h : ∀ j : Nat, j < i → s[j]? ≠ some c) (hy : s[i]? = some y) (hne : ¬ (y.toNat : Int) = (c.toNat : Int)) : ∀ j : Nat, j < i + 1 → s[j]? ≠ some c := fun j hj => by
  rcases Nat.lt_succ_iff_lt_or_eq.1 hj with hj | rfl
  · exact h j hj
  · rw [hy]; intro e; injection e with e; subst e; exact hne rfl
theorem tget_valid {T : Tb} (h : TInv T) (k : Vl) : validB (tget T k) = true := by
  unfold tget
  split
  · rfl
  split
  · cases hx : T.list[(whole k - 1).toNat]? with
    | none => rfl
    | some y => exact h.list y (List.mem_of_getElem? hx)
  · unfold oget
    split
    · rename_i s hs
      obtain ⟨i, _, hi⟩ := Option.bind_eq_some_iff.1 hs
      have hm := List.mem_of_getElem? hi
      by_cases hg : s.gone = true
      · rw [h.rest.zero s hm hg]; rfl
      · exact (h.rest.vals s hm (by simpa using hg)).1
    · rfl
theorem hget_valid {st : Hst} (h : HInv st) (t k : Vl) : validB (hgetV st t k) = true := by
  unfold hgetV
  split
  · rename_i T hT
    obtain ⟨o, _, hg, _, _, rfl⟩ := htab_some hT
    exact tget_valid (h.obs o (get_mem hg).1).tab k
  · rfl
theorem hdl_valid {st : Hst} (h : HInv st) (v : Vl) (ev : ByteArray) : validB (hdl st v ev) = true := by
  unfold hdl
  split
  · rfl
  · exact hget_valid h _ _
theorem valid_str {v : Vl} (h : validB v = true) (hk : v.kind = 3) : v.str.size ≤ 4096 := by
  simp [validB, hk] at h
  omega
theorem rhas_s {Z : Zone} (s : ByteArray) (c : UInt8) (hs : s.size ≤ 4096) : SF Try.prog 83 #[.string s, .int .u8 (c.toNat : Int)] Z [] fun r Bs => r = .bool (hasB s c) ∧ Bs = [] := by
 refine sf_enter Try.func83 17 [(0, .string s), (1, .int .u8 (c.toNat : Int))] (fun w0 => ?_)
 refine k_seq ?_
 refine k_reg ?_
 refine sp (.bool false) ?_
 refine s_nil ?_
 refine xs_then ?_
 refine k_seq ?_
 refine k_seq ?_
 refine k_reg ?_
 refine sp (.int .i64 0) ?_
 refine s_nil ?_
 refine xs_then ?_
 refine k_block ?_
 refine k_loop (ι := Nat) (fun i => i ≤ s.size ∧ ∀ j : Nat, j < i → s[j]? ≠ some c) (fun i => [(0, .string s), (1, .int .u8 (c.toNat : Int)), (5, .int .i64 (i : Int))]) (fun i => []) (fun i => s.size - i) 0 ⟨by omega, fun j hj => by omega⟩ (sub_of rfl ⟨⟨rfl, rfl⟩, ⟨⟨rfl, rfl⟩, ⟨⟨rfl, rfl⟩, trivial⟩⟩⟩) (fun _ h => h.re [] []) ?_
 rintro i hi1
 show SK _ _ _ _ _ [(0, .string s), (1, .int .u8 (c.toNat : Int)), (5, .int .i64 (i : Int))] _ []
 refine k_seq ?_
 refine k_seq ?_
 refine k_reg ?_
 refine sp (.int .i64 (i : Int)) ?_
 refine sp (.string s) ?_
 refine s_lt (t_kern (.int .i64 (s.size : Int))) ?_
 refine s_lt t_cmp ?_
 refine s_nil ?_
 refine xs_then ?_
 refine k_cond (decide ((i : Int) < (s.size : Int))) (fun c2 => ?_) (fun c2 => ?_)
 ·
  have p3 := of_decide_eq_true c2
  refine k_skip ?_
  refine xs_then ?_
  refine k_seq ?_
  refine k_block ?_
  refine k_seq ?_
  refine k_reg ?_
  refine sp (.string s) ?_
  refine sp (.int .i64 (i : Int)) ?_
  obtain ⟨y4, hy5⟩ : ∃ y, s[i]? = some y := ⟨_, getElem?_pos _ _ (by omega)⟩
  refine s_lt (t_idxS Try.underlying9 s (i : Int) y4 (by omega) (by rw [show ((i : Int)).toNat = i by omega]; exact hy5)) ?_
  refine sp (.int .u8 (c.toNat : Int)) ?_
  refine s_lt t_cmp ?_
  refine s_nil ?_
  refine xs_then ?_
  refine k_cond (decide ((y4.toNat : Int) = (c.toNat : Int))) (fun c6 => ?_) (fun c6 => ?_)
  ·
   have p7 := of_decide_eq_true c6
   refine k_seq ?_
   refine k_reg ?_
   refine sp (.bool true) ?_
   refine s_nil ?_
   refine xs_then ?_
   refine k_ret ?_
   refine xs_retBlock ?_
   refine xs_ret ?_
   refine xs_ret ?_
   refine xs_retBlock ?_
   refine xs_ret ?_
   refine xs_fin [.bool true] [] (SI.tmp 4 SI.nil) (fun _ h => h.re [] []) ⟨congrArg Value.bool ?_, rfl⟩
   have e := of_decide_eq_true c6
   have e2 : y4 = c := UInt8.toNat_inj.1 (by omega)
   subst e2; exact (hasB_in hy5).symm
  ·
   have p8 := of_decide_eq_false c6
   refine k_skip ?_
   refine xs_block ?_
   refine xs_then ?_
   refine k_reg ?_
   refine sp (.int .i64 (i : Int)) ?_
   refine s_lt (t_add (i : Int) 1 (by (try simp only [lnm]); omega)) ?_
   refine sp (.int .i64 ((i : Int) + 1)) ?_
   refine s_nil ?_
   exact xs_round (i + 1) (by omega) ⟨by omega, has_step hi1.2 hy5 (of_decide_eq_false c6)⟩ (sub_of rfl ⟨⟨rfl, rfl⟩, ⟨⟨rfl, rfl⟩, ⟨⟨rfl, rfl⟩, trivial⟩⟩⟩) (fun _ h => h.re [] [])
 ·
  have p9 := of_decide_eq_false c2
  refine k_exit ?_
  refine xs_exit ?_
  refine xs_exit ?_
  refine xs_here ?_
  refine xs_then ?_
  refine k_seq ?_
  refine k_reg ?_
  refine sp (.bool false) ?_
  refine s_nil ?_
  refine xs_then ?_
  refine k_ret ?_
  refine xs_fin [.bool false] [] (SI.tmp 4 SI.nil) (fun _ h => h.re [] []) ⟨congrArg Value.bool ?_, rfl⟩
  exact (hasB_out fun j hj => hi1.2 j (by omega)).symm
theorem wkn_s {Z : Zone} {F : List Asr} {b : Nat} {st : Hst} {n : Nat} (hsm : HSm n st) (hn : n ≤ 300) (v : Vl) : SF Try.prog 36 #[.pointer (some ⟨b, 0, none⟩), v.v] Z (hpA b st :: F) fun r Bs => r = .int .i64 (wkn st v) ∧ Bs = hpA b st :: F := by
 refine sf_enter Try.func36 29 [(0, pB b 0), (1, .agg #[.int .i64 v.kind, .int .i64 v.p, .int .i64 v.q, .string v.str, .int .i64 v.ref])] (fun w0 => ?_)
 have hlen0 := hsm.len
 refine k_seq ?_
 refine k_reg ?_
 refine s_box #[.int .i64 v.kind, .int .i64 v.p, .int .i64 v.q, .string v.str, .int .i64 v.ref] (fun g1 => ?_)
 refine sp (.int .i64 0) ?_
 refine s_nil ?_
 refine xs_then ?_
 refine k_seq ?_
 refine k_reg ?_
 refine sp (pB b 0) ?_
 refine s_lt (t_loadA 0 #[.int .i64 v.kind, .int .i64 v.p, .int .i64 v.q, .string v.str, .int .i64 v.ref]) ?_
 refine s_call [1] (hdl_s (st := st) hsm (by omega) v ⟨#[95, 95, 109, 111, 100, 101]⟩) ?_
 rintro _ _ ⟨rfl, rfl⟩
 refine s_alloc (.agg #[.int .i64 0, .int .i64 0, .int .i64 0, .string ByteArray.empty, .int .i64 0]) #[.int .i64 0, .int .i64 0, .int .i64 0, .string ByteArray.empty, .int .i64 0] (fun g2 => ?_)
 refine s_store 0 #[.int .i64 ((hdl st v ⟨#[95, 95, 109, 111, 100, 101]⟩).kind), .int .i64 ((hdl st v ⟨#[95, 95, 109, 111, 100, 101]⟩).p), .int .i64 ((hdl st v ⟨#[95, 95, 109, 111, 100, 101]⟩).q), .string ((hdl st v ⟨#[95, 95, 109, 111, 100, 101]⟩).str), .int .i64 ((hdl st v ⟨#[95, 95, 109, 111, 100, 101]⟩).ref)] ?_
 refine s_nil ?_
 refine xs_then ?_
 refine k_seq ?_
 refine k_seq ?_
 refine k_reg ?_
 refine sp (pB g1 0) ?_
 refine s_lt (t_load 2 (.int .i64 v.kind)) ?_
 refine s_lt t_cmp ?_
 refine sp (.bool (decide (v.kind ≠ 4))) ?_
 refine s_fork 13 (decide (v.kind ≠ 4)) (fun c3 => ?_) (fun c3 => ?_)
 ·
  have p4 := of_decide_eq_true c3
  refine s_skip ?_
  refine s_skip ?_
  refine s_skip ?_
  refine sp (.bool true) ?_
  refine s_nil ?_
  refine xs_then ?_
  refine k_true ?_
  refine k_seq ?_
  refine k_reg ?_
  refine sp (.int .i64 0) ?_
  refine s_nil ?_
  refine xs_then ?_
  refine k_ret ?_
  refine xs_ret ?_
  refine xs_fin [.int .i64 0] (hpA b st :: F) (SI.tmp 4 SI.nil) (fun _ h => h.re [1] [1, 1]) ⟨congrArg (Value.int .i64) ?_, rfl⟩
  unfold wkn; simp_all
 ·
  have p5 := Decidable.not_not.1 (of_decide_eq_false c3)
  refine sp (pB g2 0) ?_
  refine s_lt (t_load 0 (.int .i64 ((hdl st v ⟨#[95, 95, 109, 111, 100, 101]⟩).kind))) ?_
  refine s_lt t_cmp ?_
  refine sp (.bool (decide ((hdl st v ⟨#[95, 95, 109, 111, 100, 101]⟩).kind ≠ 3))) ?_
  refine s_nil ?_
  refine xs_then ?_
  refine k_cond (decide ((hdl st v ⟨#[95, 95, 109, 111, 100, 101]⟩).kind ≠ 3)) (fun c6 => ?_) (fun c6 => ?_)
  ·
   have p7 := of_decide_eq_true c6
   refine k_seq ?_
   refine k_reg ?_
   refine sp (.int .i64 0) ?_
   refine s_nil ?_
   refine xs_then ?_
   refine k_ret ?_
   refine xs_ret ?_
   refine xs_fin [.int .i64 0] (hpA b st :: F) (SI.tmp 4 SI.nil) (fun _ h => h.re [1] [1, 1]) ⟨congrArg (Value.int .i64) ?_, rfl⟩
   unfold wkn; simp_all
  ·
   have p8 := Decidable.not_not.1 (of_decide_eq_false c6)
   refine k_skip ?_
   refine xs_then ?_
   refine k_seq ?_
   refine k_reg ?_
   refine sp (.int .i64 0) ?_
   refine s_nil ?_
   refine xs_then ?_
   refine k_seq ?_
   refine k_seq ?_
   refine k_reg ?_
   refine sp (pB g2 3) ?_
   refine s_lt (t_load 0 (.string ((hdl st v ⟨#[95, 95, 109, 111, 100, 101]⟩).str))) ?_
   refine s_vcall (fun _ h => contains_s ((hdl st v ⟨#[95, 95, 109, 111, 100, 101]⟩).str) 107) ?_
   rintro _ rfl
   refine s_nil ?_
   refine xs_then ?_
   refine k_cond (hasB ((hdl st v ⟨#[95, 95, 109, 111, 100, 101]⟩).str) 107) (fun c9 => ?_) (fun c9 => ?_)
   ·
    refine k_reg ?_
    refine sp (.int .i64 0) ?_
    refine s_lt (Lt.to (v' := .int .i64 1) (t_or 0 1) (by kernel_rfl)) ?_
    refine sp (.int .i64 1) ?_
    refine s_nil ?_
    refine xs_then ?_
    refine k_seq ?_
    refine k_seq ?_
    refine k_reg ?_
    refine sp (pB g2 3) ?_
    refine s_lt (t_load 0 (.string ((hdl st v ⟨#[95, 95, 109, 111, 100, 101]⟩).str))) ?_
    refine s_vcall (fun _ h => contains_s ((hdl st v ⟨#[95, 95, 109, 111, 100, 101]⟩).str) 118) ?_
    rintro _ rfl
    refine s_nil ?_
    refine xs_then ?_
    refine k_cond (hasB ((hdl st v ⟨#[95, 95, 109, 111, 100, 101]⟩).str) 118) (fun c10 => ?_) (fun c10 => ?_)
    ·
     refine k_reg ?_
     refine sp (.int .i64 1) ?_
     refine s_lt (Lt.to (v' := .int .i64 3) (t_or 1 2) (by kernel_rfl)) ?_
     refine sp (.int .i64 3) ?_
     refine s_nil ?_
     refine xs_then ?_
     refine k_seq ?_
     refine k_reg ?_
     refine sp (.int .i64 3) ?_
     refine sp (.int .i64 3) ?_
     refine s_nil ?_
     refine xs_then ?_
     refine k_ret ?_
     refine xs_fin [.int .i64 3] (hpA b st :: F) (SI.tmp 4 SI.nil) (fun _ h => h.re [1] [1, 1]) ⟨congrArg (Value.int .i64) ?_, rfl⟩
     unfold wkn; simp_all
    ·
     refine k_skip ?_
     refine xs_then ?_
     refine k_seq ?_
     refine k_reg ?_
     refine sp (.int .i64 1) ?_
     refine sp (.int .i64 1) ?_
     refine s_nil ?_
     refine xs_then ?_
     refine k_ret ?_
     refine xs_fin [.int .i64 1] (hpA b st :: F) (SI.tmp 4 SI.nil) (fun _ h => h.re [1] [1, 1]) ⟨congrArg (Value.int .i64) ?_, rfl⟩
     unfold wkn; simp_all
   ·
    refine k_skip ?_
    refine xs_then ?_
    refine k_seq ?_
    refine k_seq ?_
    refine k_reg ?_
    refine sp (pB g2 3) ?_
    refine s_lt (t_load 0 (.string ((hdl st v ⟨#[95, 95, 109, 111, 100, 101]⟩).str))) ?_
    refine s_vcall (fun _ h => contains_s ((hdl st v ⟨#[95, 95, 109, 111, 100, 101]⟩).str) 118) ?_
    rintro _ rfl
    refine s_nil ?_
    refine xs_then ?_
    refine k_cond (hasB ((hdl st v ⟨#[95, 95, 109, 111, 100, 101]⟩).str) 118) (fun c11 => ?_) (fun c11 => ?_)
    ·
     refine k_reg ?_
     refine sp (.int .i64 0) ?_
     refine s_lt (Lt.to (v' := .int .i64 2) (t_or 0 2) (by kernel_rfl)) ?_
     refine sp (.int .i64 2) ?_
     refine s_nil ?_
     refine xs_then ?_
     refine k_seq ?_
     refine k_reg ?_
     refine sp (.int .i64 2) ?_
     refine sp (.int .i64 2) ?_
     refine s_nil ?_
     refine xs_then ?_
     refine k_ret ?_
     refine xs_fin [.int .i64 2] (hpA b st :: F) (SI.tmp 4 SI.nil) (fun _ h => h.re [1] [1, 1]) ⟨congrArg (Value.int .i64) ?_, rfl⟩
     unfold wkn; simp_all
    ·
     refine k_skip ?_
     refine xs_then ?_
     refine k_seq ?_
     refine k_reg ?_
     refine sp (.int .i64 0) ?_
     refine sp (.int .i64 0) ?_
     refine s_nil ?_
     refine xs_then ?_
     refine k_ret ?_
     refine xs_fin [.int .i64 0] (hpA b st :: F) (SI.tmp 4 SI.nil) (fun _ h => h.re [1] [1, 1]) ⟨congrArg (Value.int .i64) ?_, rfl⟩
     unfold wkn; simp_all
theorem rwkn_s {Z : Zone} {F : List Asr} {b : Nat} {st : Hst} {n : Nat} (hsm : HSm n st) (hn : n ≤ 300) (v : Vl) : SF Try.prog 37 #[.pointer (some ⟨b, 0, none⟩), v.v] Z (rhA b st :: F) fun r Bs => r = .int .i64 (wkn st v) ∧ Bs = rhA b st :: F := by
 refine sf_enter Try.func37 27 [(0, pB b 0), (1, .agg #[.int .i64 v.kind, .int .i64 v.p, .int .i64 v.q, .string v.str, .int .i64 v.ref])] (fun w0 => ?_)
 have hlen0 := hsm.len
 refine k_fact (fun H h => rh_inv (h.re [0] [])) (fun hi0 => ?_)
 refine k_seq ?_
 refine k_reg ?_
 refine s_box #[.int .i64 v.kind, .int .i64 v.p, .int .i64 v.q, .string v.str, .int .i64 v.ref] (fun g1 => ?_)
 refine sp (.int .i64 0) ?_
 refine s_nil ?_
 refine xs_then ?_
 refine k_seq ?_
 refine k_seq ?_
 refine k_reg ?_
 refine sp (pB g1 0) ?_
 refine s_lt (t_load 0 (.int .i64 v.kind)) ?_
 refine s_lt t_cmp ?_
 refine s_nil ?_
 refine xs_then ?_
 refine k_cond (decide (v.kind ≠ 4)) (fun c2 => ?_) (fun c2 => ?_)
 ·
  have p3 := of_decide_eq_true c2
  refine k_seq ?_
  refine k_reg ?_
  refine sp (.int .i64 0) ?_
  refine s_nil ?_
  refine xs_then ?_
  refine k_ret ?_
  refine xs_ret ?_
  refine xs_fin [.int .i64 0] (rhA b st :: F) (SI.tmp 4 SI.nil) (fun _ h => h.re [1] [1]) ⟨congrArg (Value.int .i64) ?_, rfl⟩
  unfold wkn; simp_all
 ·
  have p4 := Decidable.not_not.1 (of_decide_eq_false c2)
  refine k_skip ?_
  refine xs_then ?_
  refine k_seq ?_
  refine k_reg ?_
  refine sp (pB b 0) ?_
  refine s_lt (t_loadA 0 #[.int .i64 v.kind, .int .i64 v.p, .int .i64 v.q, .string v.str, .int .i64 v.ref]) ?_
  refine s_call [1] (rhdl_s (st := st) hsm (by omega) v ⟨#[95, 95, 109, 111, 100, 101]⟩) ?_
  rintro _ _ ⟨rfl, rfl⟩
  refine s_alloc (.agg #[.int .i64 0, .int .i64 0, .int .i64 0, .string ByteArray.empty, .int .i64 0]) #[.int .i64 0, .int .i64 0, .int .i64 0, .string ByteArray.empty, .int .i64 0] (fun g5 => ?_)
  refine s_store 0 #[.int .i64 ((hdl st v ⟨#[95, 95, 109, 111, 100, 101]⟩).kind), .int .i64 ((hdl st v ⟨#[95, 95, 109, 111, 100, 101]⟩).p), .int .i64 ((hdl st v ⟨#[95, 95, 109, 111, 100, 101]⟩).q), .string ((hdl st v ⟨#[95, 95, 109, 111, 100, 101]⟩).str), .int .i64 ((hdl st v ⟨#[95, 95, 109, 111, 100, 101]⟩).ref)] ?_
  refine s_nil ?_
  refine xs_then ?_
  refine k_seq ?_
  refine k_seq ?_
  refine k_reg ?_
  refine sp (pB g5 0) ?_
  refine s_lt (t_load 0 (.int .i64 ((hdl st v ⟨#[95, 95, 109, 111, 100, 101]⟩).kind))) ?_
  refine s_lt t_cmp ?_
  refine s_nil ?_
  refine xs_then ?_
  refine k_cond (decide ((hdl st v ⟨#[95, 95, 109, 111, 100, 101]⟩).kind ≠ 3)) (fun c6 => ?_) (fun c6 => ?_)
  ·
   have p7 := of_decide_eq_true c6
   refine k_seq ?_
   refine k_reg ?_
   refine sp (.int .i64 0) ?_
   refine s_nil ?_
   refine xs_then ?_
   refine k_ret ?_
   refine xs_ret ?_
   refine xs_fin [.int .i64 0] (rhA b st :: F) (SI.tmp 4 SI.nil) (fun _ h => h.re [1] [1, 1]) ⟨congrArg (Value.int .i64) ?_, rfl⟩
   unfold wkn; simp_all
  ·
   have p8 := Decidable.not_not.1 (of_decide_eq_false c6)
   refine k_skip ?_
   refine xs_then ?_
   refine k_seq ?_
   refine k_reg ?_
   refine sp (.int .i64 0) ?_
   refine s_nil ?_
   refine xs_then ?_
   refine k_seq ?_
   refine k_seq ?_
   refine k_reg ?_
   refine sp (pB g5 3) ?_
   refine s_lt (t_load 0 (.string ((hdl st v ⟨#[95, 95, 109, 111, 100, 101]⟩).str))) ?_
   refine s_vcall (fun _ h => rhas_s ((hdl st v ⟨#[95, 95, 109, 111, 100, 101]⟩).str) 107 (valid_str (hdl_valid hi0 _ _) (by omega))) ?_
   rintro _ rfl
   refine s_nil ?_
   refine xs_then ?_
   refine k_cond (hasB ((hdl st v ⟨#[95, 95, 109, 111, 100, 101]⟩).str) 107) (fun c9 => ?_) (fun c9 => ?_)
   ·
    refine k_reg ?_
    refine sp (.int .i64 0) ?_
    refine sp (.int .i64 1) ?_
    refine sp (.int .i64 1) ?_
    refine s_nil ?_
    refine xs_then ?_
    refine k_seq ?_
    refine k_seq ?_
    refine k_reg ?_
    refine sp (pB g5 3) ?_
    refine s_lt (t_load 0 (.string ((hdl st v ⟨#[95, 95, 109, 111, 100, 101]⟩).str))) ?_
    refine s_vcall (fun _ h => rhas_s ((hdl st v ⟨#[95, 95, 109, 111, 100, 101]⟩).str) 118 (valid_str (hdl_valid hi0 _ _) (by omega))) ?_
    rintro _ rfl
    refine s_nil ?_
    refine xs_then ?_
    refine k_cond (hasB ((hdl st v ⟨#[95, 95, 109, 111, 100, 101]⟩).str) 118) (fun c10 => ?_) (fun c10 => ?_)
    ·
     refine k_reg ?_
     refine sp (.int .i64 1) ?_
     refine sp (.int .i64 3) ?_
     refine sp (.int .i64 3) ?_
     refine s_nil ?_
     refine xs_then ?_
     refine k_seq ?_
     refine k_reg ?_
     refine sp (.int .i64 3) ?_
     refine sp (.int .i64 3) ?_
     refine s_nil ?_
     refine xs_then ?_
     refine k_ret ?_
     refine xs_fin [.int .i64 3] (rhA b st :: F) (SI.tmp 4 SI.nil) (fun _ h => h.re [1] [1, 1]) ⟨congrArg (Value.int .i64) ?_, rfl⟩
     unfold wkn; simp_all
    ·
     refine k_skip ?_
     refine xs_then ?_
     refine k_seq ?_
     refine k_reg ?_
     refine sp (.int .i64 1) ?_
     refine sp (.int .i64 1) ?_
     refine s_nil ?_
     refine xs_then ?_
     refine k_ret ?_
     refine xs_fin [.int .i64 1] (rhA b st :: F) (SI.tmp 4 SI.nil) (fun _ h => h.re [1] [1, 1]) ⟨congrArg (Value.int .i64) ?_, rfl⟩
     unfold wkn; simp_all
   ·
    refine k_skip ?_
    refine xs_then ?_
    refine k_seq ?_
    refine k_seq ?_
    refine k_reg ?_
    refine sp (pB g5 3) ?_
    refine s_lt (t_load 0 (.string ((hdl st v ⟨#[95, 95, 109, 111, 100, 101]⟩).str))) ?_
    refine s_vcall (fun _ h => rhas_s ((hdl st v ⟨#[95, 95, 109, 111, 100, 101]⟩).str) 118 (valid_str (hdl_valid hi0 _ _) (by omega))) ?_
    rintro _ rfl
    refine s_nil ?_
    refine xs_then ?_
    refine k_cond (hasB ((hdl st v ⟨#[95, 95, 109, 111, 100, 101]⟩).str) 118) (fun c11 => ?_) (fun c11 => ?_)
    ·
     refine k_reg ?_
     refine sp (.int .i64 0) ?_
     refine sp (.int .i64 2) ?_
     refine sp (.int .i64 2) ?_
     refine s_nil ?_
     refine xs_then ?_
     refine k_seq ?_
     refine k_reg ?_
     refine sp (.int .i64 2) ?_
     refine sp (.int .i64 2) ?_
     refine s_nil ?_
     refine xs_then ?_
     refine k_ret ?_
     refine xs_fin [.int .i64 2] (rhA b st :: F) (SI.tmp 4 SI.nil) (fun _ h => h.re [1] [1, 1]) ⟨congrArg (Value.int .i64) ?_, rfl⟩
     unfold wkn; simp_all
    ·
     refine k_skip ?_
     refine xs_then ?_
     refine k_seq ?_
     refine k_reg ?_
     refine sp (.int .i64 0) ?_
     refine sp (.int .i64 0) ?_
     refine s_nil ?_
     refine xs_then ?_
     refine k_ret ?_
     refine xs_fin [.int .i64 0] (rhA b st :: F) (SI.tmp 4 SI.nil) (fun _ h => h.re [1] [1, 1]) ⟨congrArg (Value.int .i64) ?_, rfl⟩
     unfold wkn; simp_all
theorem special_s {Z : Zone} {F : List Asr} {b : Nat} {st : Hst} {n : Nat} (hsm : HSm n st) (hn : n ≤ 300) (v : Vl) (ev : ByteArray) : SF Try.prog 81 #[.pointer (some ⟨b, 0, none⟩), v.v, .string ev] Z (hpA b st :: F) fun r Bs => r = .tuple #[(hdl st v ev).v, .bool (decide ((hdl st v ev).kind ≠ 0))] ∧ Bs = hpA b st :: F := by
 refine sf_enter Try.func81 17 [(0, pB b 0), (1, .agg #[.int .i64 v.kind, .int .i64 v.p, .int .i64 v.q, .string v.str, .int .i64 v.ref]), (2, .string ev)] (fun w0 => ?_)
 have hlen0 := hsm.len
 refine k_seq ?_
 refine k_reg ?_
 refine s_box #[.int .i64 v.kind, .int .i64 v.p, .int .i64 v.q, .string v.str, .int .i64 v.ref] (fun g1 => ?_)
 refine s_alloc (.agg #[.int .i64 0, .int .i64 0, .int .i64 0, .string ByteArray.empty, .int .i64 0]) #[.int .i64 0, .int .i64 0, .int .i64 0, .string ByteArray.empty, .int .i64 0] (fun g2 => ?_)
 refine sp (.bool false) ?_
 refine s_nil ?_
 refine xs_then ?_
 refine k_seq ?_
 refine k_reg ?_
 refine sp (pB b 0) ?_
 refine s_lt (t_loadA 1 #[.int .i64 v.kind, .int .i64 v.p, .int .i64 v.q, .string v.str, .int .i64 v.ref]) ?_
 refine sp (.string ev) ?_
 refine s_call [2] (hdl_s (st := st) hsm (by omega) v ev) ?_
 rintro _ _ ⟨rfl, rfl⟩
 refine s_alloc (.agg #[.int .i64 0, .int .i64 0, .int .i64 0, .string ByteArray.empty, .int .i64 0]) #[.int .i64 0, .int .i64 0, .int .i64 0, .string ByteArray.empty, .int .i64 0] (fun g3 => ?_)
 refine s_store 0 #[.int .i64 ((hdl st v ev).kind), .int .i64 ((hdl st v ev).p), .int .i64 ((hdl st v ev).q), .string ((hdl st v ev).str), .int .i64 ((hdl st v ev).ref)] ?_
 refine s_nil ?_
 refine xs_then ?_
 refine k_seq ?_
 refine k_held [blkA g3 #[.int .i64 ((hdl st v ev).kind), .int .i64 ((hdl st v ev).p), .int .i64 ((hdl st v ev).q), .string ((hdl st v ev).str), .int .i64 ((hdl st v ev).ref)] 26, blkA g1 #[.int .i64 v.kind, .int .i64 v.p, .int .i64 v.q, .string v.str, .int .i64 v.ref] 26] ?_
 refine h_l 0 rfl [0, 2] (fun _ => (t_loadA 0 #[.int .i64 ((hdl st v ev).kind), .int .i64 ((hdl st v ev).p), .int .i64 ((hdl st v ev).q), .string ((hdl st v ev).str), .int .i64 ((hdl st v ev).ref)])) ?_
 refine hp_ 1 [0, 2] (pB g3 0) ?_
 refine h_l 2 rfl [0, 2] (fun _ => (t_load 0 (.int .i64 ((hdl st v ev).kind)))) ?_
 refine h_l 3 rfl [0, 2] (fun _ => t_cmp) ?_
 refine h_stepS 4 ?_
 refine s_store 2 #[.int .i64 ((hdl st v ev).kind), .int .i64 ((hdl st v ev).p), .int .i64 ((hdl st v ev).q), .string ((hdl st v ev).str), .int .i64 ((hdl st v ev).ref)] ?_
 refine s_nil (xs_held [0, 2] ?_)
 refine hp_ 5 [0, 2] (.bool (decide ((hdl st v ev).kind ≠ 0))) ?_
 refine h_doneS ?_
 refine xs_then ?_
 refine k_ret ?_
 exact xs_fin [.agg #[.int .i64 ((hdl st v ev).kind), .int .i64 ((hdl st v ev).p), .int .i64 ((hdl st v ev).q), .string ((hdl st v ev).str), .int .i64 ((hdl st v ev).ref)], .bool (decide ((hdl st v ev).kind ≠ 0))] (hpA b st :: F) (SI.agg 6 26 2 (SI.tmp 7 SI.nil)) (fun _ h => h.re [1] [1, 1, 1]) ⟨rfl, rfl⟩
theorem fin_s {Z : Zone} {F : List Asr} {b : Nat} {st : Hst} {n : Nat} (hsm : HSm n st) (hn : n ≤ 300) (v : Vl) : SF Try.prog 32 #[.pointer (some ⟨b, 0, none⟩), v.v] Z (hpA b st :: F) fun r Bs => r = .tuple #[(hdl st v ⟨#[95, 95, 103, 99]⟩).v, .bool (decide ((hdl st v ⟨#[95, 95, 103, 99]⟩).kind ≠ 0))] ∧ Bs = hpA b st :: F := by
 refine sf_enter Try.func32 11 [(0, pB b 0), (1, .agg #[.int .i64 v.kind, .int .i64 v.p, .int .i64 v.q, .string v.str, .int .i64 v.ref])] (fun w0 => ?_)
 have hlen0 := hsm.len
 refine k_seq ?_
 refine k_reg ?_
 refine s_box #[.int .i64 v.kind, .int .i64 v.p, .int .i64 v.q, .string v.str, .int .i64 v.ref] (fun g1 => ?_)
 refine s_alloc (.agg #[.int .i64 0, .int .i64 0, .int .i64 0, .string ByteArray.empty, .int .i64 0]) #[.int .i64 0, .int .i64 0, .int .i64 0, .string ByteArray.empty, .int .i64 0] (fun g2 => ?_)
 refine sp (.bool false) ?_
 refine s_nil ?_
 refine xs_then ?_
 refine k_seq ?_
 refine k_reg ?_
 refine sp (pB b 0) ?_
 refine s_lt (t_loadA 1 #[.int .i64 v.kind, .int .i64 v.p, .int .i64 v.q, .string v.str, .int .i64 v.ref]) ?_
 refine s_call [2] (special_s (st := st) hsm (by omega) v ⟨#[95, 95, 103, 99]⟩) ?_
 rintro _ _ ⟨rfl, rfl⟩
 refine sp (.agg #[.int .i64 ((hdl st v ⟨#[95, 95, 103, 99]⟩).kind), .int .i64 ((hdl st v ⟨#[95, 95, 103, 99]⟩).p), .int .i64 ((hdl st v ⟨#[95, 95, 103, 99]⟩).q), .string ((hdl st v ⟨#[95, 95, 103, 99]⟩).str), .int .i64 ((hdl st v ⟨#[95, 95, 103, 99]⟩).ref)]) ?_
 refine sp (.bool (decide ((hdl st v ⟨#[95, 95, 103, 99]⟩).kind ≠ 0))) ?_
 refine s_store 1 #[.int .i64 ((hdl st v ⟨#[95, 95, 103, 99]⟩).kind), .int .i64 ((hdl st v ⟨#[95, 95, 103, 99]⟩).p), .int .i64 ((hdl st v ⟨#[95, 95, 103, 99]⟩).q), .string ((hdl st v ⟨#[95, 95, 103, 99]⟩).str), .int .i64 ((hdl st v ⟨#[95, 95, 103, 99]⟩).ref)] ?_
 refine sp (.bool (decide ((hdl st v ⟨#[95, 95, 103, 99]⟩).kind ≠ 0))) ?_
 refine s_nil ?_
 refine xs_then ?_
 refine k_ret ?_
 exact xs_fin [.agg #[.int .i64 ((hdl st v ⟨#[95, 95, 103, 99]⟩).kind), .int .i64 ((hdl st v ⟨#[95, 95, 103, 99]⟩).p), .int .i64 ((hdl st v ⟨#[95, 95, 103, 99]⟩).q), .string ((hdl st v ⟨#[95, 95, 103, 99]⟩).str), .int .i64 ((hdl st v ⟨#[95, 95, 103, 99]⟩).ref)], .bool (decide ((hdl st v ⟨#[95, 95, 103, 99]⟩).kind ≠ 0))] (hpA b st :: F) (SI.agg 4 26 1 (SI.tmp 5 SI.nil)) (fun _ h => h.re [0] [1, 1]) ⟨rfl, rfl⟩
theorem clo_s {Z : Zone} {F : List Asr} {b : Nat} {st : Hst} {n : Nat} (hsm : HSm n st) (hn : n ≤ 300) (v : Vl) : SF Try.prog 34 #[.pointer (some ⟨b, 0, none⟩), v.v] Z (hpA b st :: F) fun r Bs => r = .tuple #[(hdl st v ⟨#[95, 95, 99, 108, 111, 115, 101]⟩).v, .bool (decide ((hdl st v ⟨#[95, 95, 99, 108, 111, 115, 101]⟩).kind ≠ 0))] ∧ Bs = hpA b st :: F := by
 refine sf_enter Try.func34 11 [(0, pB b 0), (1, .agg #[.int .i64 v.kind, .int .i64 v.p, .int .i64 v.q, .string v.str, .int .i64 v.ref])] (fun w0 => ?_)
 have hlen0 := hsm.len
 refine k_seq ?_
 refine k_reg ?_
 refine s_box #[.int .i64 v.kind, .int .i64 v.p, .int .i64 v.q, .string v.str, .int .i64 v.ref] (fun g1 => ?_)
 refine s_alloc (.agg #[.int .i64 0, .int .i64 0, .int .i64 0, .string ByteArray.empty, .int .i64 0]) #[.int .i64 0, .int .i64 0, .int .i64 0, .string ByteArray.empty, .int .i64 0] (fun g2 => ?_)
 refine sp (.bool false) ?_
 refine s_nil ?_
 refine xs_then ?_
 refine k_seq ?_
 refine k_reg ?_
 refine sp (pB b 0) ?_
 refine s_lt (t_loadA 1 #[.int .i64 v.kind, .int .i64 v.p, .int .i64 v.q, .string v.str, .int .i64 v.ref]) ?_
 refine s_call [2] (special_s (st := st) hsm (by omega) v ⟨#[95, 95, 99, 108, 111, 115, 101]⟩) ?_
 rintro _ _ ⟨rfl, rfl⟩
 refine sp (.agg #[.int .i64 ((hdl st v ⟨#[95, 95, 99, 108, 111, 115, 101]⟩).kind), .int .i64 ((hdl st v ⟨#[95, 95, 99, 108, 111, 115, 101]⟩).p), .int .i64 ((hdl st v ⟨#[95, 95, 99, 108, 111, 115, 101]⟩).q), .string ((hdl st v ⟨#[95, 95, 99, 108, 111, 115, 101]⟩).str), .int .i64 ((hdl st v ⟨#[95, 95, 99, 108, 111, 115, 101]⟩).ref)]) ?_
 refine sp (.bool (decide ((hdl st v ⟨#[95, 95, 99, 108, 111, 115, 101]⟩).kind ≠ 0))) ?_
 refine s_store 1 #[.int .i64 ((hdl st v ⟨#[95, 95, 99, 108, 111, 115, 101]⟩).kind), .int .i64 ((hdl st v ⟨#[95, 95, 99, 108, 111, 115, 101]⟩).p), .int .i64 ((hdl st v ⟨#[95, 95, 99, 108, 111, 115, 101]⟩).q), .string ((hdl st v ⟨#[95, 95, 99, 108, 111, 115, 101]⟩).str), .int .i64 ((hdl st v ⟨#[95, 95, 99, 108, 111, 115, 101]⟩).ref)] ?_
 refine sp (.bool (decide ((hdl st v ⟨#[95, 95, 99, 108, 111, 115, 101]⟩).kind ≠ 0))) ?_
 refine s_nil ?_
 refine xs_then ?_
 refine k_ret ?_
 exact xs_fin [.agg #[.int .i64 ((hdl st v ⟨#[95, 95, 99, 108, 111, 115, 101]⟩).kind), .int .i64 ((hdl st v ⟨#[95, 95, 99, 108, 111, 115, 101]⟩).p), .int .i64 ((hdl st v ⟨#[95, 95, 99, 108, 111, 115, 101]⟩).q), .string ((hdl st v ⟨#[95, 95, 99, 108, 111, 115, 101]⟩).str), .int .i64 ((hdl st v ⟨#[95, 95, 99, 108, 111, 115, 101]⟩).ref)], .bool (decide ((hdl st v ⟨#[95, 95, 99, 108, 111, 115, 101]⟩).kind ≠ 0))] (hpA b st :: F) (SI.agg 4 26 1 (SI.tmp 5 SI.nil)) (fun _ h => h.re [0] [1, 1]) ⟨rfl, rfl⟩
theorem rfin_s {Z : Zone} {F : List Asr} {b : Nat} {st : Hst} {n : Nat} (hsm : HSm n st) (hn : n ≤ 300) (v : Vl) : SF Try.prog 33 #[.pointer (some ⟨b, 0, none⟩), v.v] Z (rhA b st :: F) fun r Bs => r = .tuple #[(hdl st v ⟨#[95, 95, 103, 99]⟩).v, .bool (decide ((hdl st v ⟨#[95, 95, 103, 99]⟩).kind ≠ 0))] ∧ Bs = rhA b st :: F := by
 refine sf_enter Try.func33 14 [(0, pB b 0), (1, .agg #[.int .i64 v.kind, .int .i64 v.p, .int .i64 v.q, .string v.str, .int .i64 v.ref])] (fun w0 => ?_)
 have hlen0 := hsm.len
 refine k_fact (fun H h => rh_inv (h.re [0] [])) (fun hi0 => ?_)
 refine k_seq ?_
 refine k_reg ?_
 refine s_box #[.int .i64 v.kind, .int .i64 v.p, .int .i64 v.q, .string v.str, .int .i64 v.ref] (fun g1 => ?_)
 refine s_alloc (.agg #[.int .i64 0, .int .i64 0, .int .i64 0, .string ByteArray.empty, .int .i64 0]) #[.int .i64 0, .int .i64 0, .int .i64 0, .string ByteArray.empty, .int .i64 0] (fun g2 => ?_)
 refine sp (.bool false) ?_
 refine s_nil ?_
 refine xs_then ?_
 refine k_seq ?_
 refine k_reg ?_
 refine sp (pB b 0) ?_
 refine s_lt (t_loadA 1 #[.int .i64 v.kind, .int .i64 v.p, .int .i64 v.q, .string v.str, .int .i64 v.ref]) ?_
 refine s_call [2] (rhdl_s (st := st) hsm (by omega) v ⟨#[95, 95, 103, 99]⟩) ?_
 rintro _ _ ⟨rfl, rfl⟩
 refine s_alloc (.agg #[.int .i64 0, .int .i64 0, .int .i64 0, .string ByteArray.empty, .int .i64 0]) #[.int .i64 0, .int .i64 0, .int .i64 0, .string ByteArray.empty, .int .i64 0] (fun g3 => ?_)
 refine s_store 0 #[.int .i64 ((hdl st v ⟨#[95, 95, 103, 99]⟩).kind), .int .i64 ((hdl st v ⟨#[95, 95, 103, 99]⟩).p), .int .i64 ((hdl st v ⟨#[95, 95, 103, 99]⟩).q), .string ((hdl st v ⟨#[95, 95, 103, 99]⟩).str), .int .i64 ((hdl st v ⟨#[95, 95, 103, 99]⟩).ref)] ?_
 refine s_nil ?_
 refine xs_then ?_
 refine k_seq ?_
 refine k_held [blkA g3 #[.int .i64 ((hdl st v ⟨#[95, 95, 103, 99]⟩).kind), .int .i64 ((hdl st v ⟨#[95, 95, 103, 99]⟩).p), .int .i64 ((hdl st v ⟨#[95, 95, 103, 99]⟩).q), .string ((hdl st v ⟨#[95, 95, 103, 99]⟩).str), .int .i64 ((hdl st v ⟨#[95, 95, 103, 99]⟩).ref)] 26, blkA g1 #[.int .i64 v.kind, .int .i64 v.p, .int .i64 v.q, .string v.str, .int .i64 v.ref] 26] ?_
 refine h_l 0 rfl [0, 2] (fun _ => (t_loadA 0 #[.int .i64 ((hdl st v ⟨#[95, 95, 103, 99]⟩).kind), .int .i64 ((hdl st v ⟨#[95, 95, 103, 99]⟩).p), .int .i64 ((hdl st v ⟨#[95, 95, 103, 99]⟩).q), .string ((hdl st v ⟨#[95, 95, 103, 99]⟩).str), .int .i64 ((hdl st v ⟨#[95, 95, 103, 99]⟩).ref)])) ?_
 refine hp_ 1 [0, 2] (pB g3 0) ?_
 refine h_l 2 rfl [0, 2] (fun _ => (t_load 0 (.int .i64 ((hdl st v ⟨#[95, 95, 103, 99]⟩).kind)))) ?_
 refine h_l 3 rfl [0, 2] (fun _ => t_cmp) ?_
 refine h_stepS 4 ?_
 refine s_store 2 #[.int .i64 ((hdl st v ⟨#[95, 95, 103, 99]⟩).kind), .int .i64 ((hdl st v ⟨#[95, 95, 103, 99]⟩).p), .int .i64 ((hdl st v ⟨#[95, 95, 103, 99]⟩).q), .string ((hdl st v ⟨#[95, 95, 103, 99]⟩).str), .int .i64 ((hdl st v ⟨#[95, 95, 103, 99]⟩).ref)] ?_
 refine s_nil (xs_held [0, 2] ?_)
 refine hp_ 5 [0, 2] (.bool (decide ((hdl st v ⟨#[95, 95, 103, 99]⟩).kind ≠ 0))) ?_
 refine h_doneS ?_
 refine xs_then ?_
 refine k_ret ?_
 exact xs_fin [.agg #[.int .i64 ((hdl st v ⟨#[95, 95, 103, 99]⟩).kind), .int .i64 ((hdl st v ⟨#[95, 95, 103, 99]⟩).p), .int .i64 ((hdl st v ⟨#[95, 95, 103, 99]⟩).q), .string ((hdl st v ⟨#[95, 95, 103, 99]⟩).str), .int .i64 ((hdl st v ⟨#[95, 95, 103, 99]⟩).ref)], .bool (decide ((hdl st v ⟨#[95, 95, 103, 99]⟩).kind ≠ 0))] (rhA b st :: F) (SI.agg 4 26 2 (SI.tmp 5 SI.nil)) (fun _ h => h.re [1] [1, 1, 1]) ⟨rfl, rfl⟩
theorem rclo_s {Z : Zone} {F : List Asr} {b : Nat} {st : Hst} {n : Nat} (hsm : HSm n st) (hn : n ≤ 300) (v : Vl) : SF Try.prog 35 #[.pointer (some ⟨b, 0, none⟩), v.v] Z (rhA b st :: F) fun r Bs => r = .tuple #[(hdl st v ⟨#[95, 95, 99, 108, 111, 115, 101]⟩).v, .bool (decide ((hdl st v ⟨#[95, 95, 99, 108, 111, 115, 101]⟩).kind ≠ 0))] ∧ Bs = rhA b st :: F := by
 refine sf_enter Try.func35 14 [(0, pB b 0), (1, .agg #[.int .i64 v.kind, .int .i64 v.p, .int .i64 v.q, .string v.str, .int .i64 v.ref])] (fun w0 => ?_)
 have hlen0 := hsm.len
 refine k_fact (fun H h => rh_inv (h.re [0] [])) (fun hi0 => ?_)
 refine k_seq ?_
 refine k_reg ?_
 refine s_box #[.int .i64 v.kind, .int .i64 v.p, .int .i64 v.q, .string v.str, .int .i64 v.ref] (fun g1 => ?_)
 refine s_alloc (.agg #[.int .i64 0, .int .i64 0, .int .i64 0, .string ByteArray.empty, .int .i64 0]) #[.int .i64 0, .int .i64 0, .int .i64 0, .string ByteArray.empty, .int .i64 0] (fun g2 => ?_)
 refine sp (.bool false) ?_
 refine s_nil ?_
 refine xs_then ?_
 refine k_seq ?_
 refine k_reg ?_
 refine sp (pB b 0) ?_
 refine s_lt (t_loadA 1 #[.int .i64 v.kind, .int .i64 v.p, .int .i64 v.q, .string v.str, .int .i64 v.ref]) ?_
 refine s_call [2] (rhdl_s (st := st) hsm (by omega) v ⟨#[95, 95, 99, 108, 111, 115, 101]⟩) ?_
 rintro _ _ ⟨rfl, rfl⟩
 refine s_alloc (.agg #[.int .i64 0, .int .i64 0, .int .i64 0, .string ByteArray.empty, .int .i64 0]) #[.int .i64 0, .int .i64 0, .int .i64 0, .string ByteArray.empty, .int .i64 0] (fun g3 => ?_)
 refine s_store 0 #[.int .i64 ((hdl st v ⟨#[95, 95, 99, 108, 111, 115, 101]⟩).kind), .int .i64 ((hdl st v ⟨#[95, 95, 99, 108, 111, 115, 101]⟩).p), .int .i64 ((hdl st v ⟨#[95, 95, 99, 108, 111, 115, 101]⟩).q), .string ((hdl st v ⟨#[95, 95, 99, 108, 111, 115, 101]⟩).str), .int .i64 ((hdl st v ⟨#[95, 95, 99, 108, 111, 115, 101]⟩).ref)] ?_
 refine s_nil ?_
 refine xs_then ?_
 refine k_seq ?_
 refine k_held [blkA g3 #[.int .i64 ((hdl st v ⟨#[95, 95, 99, 108, 111, 115, 101]⟩).kind), .int .i64 ((hdl st v ⟨#[95, 95, 99, 108, 111, 115, 101]⟩).p), .int .i64 ((hdl st v ⟨#[95, 95, 99, 108, 111, 115, 101]⟩).q), .string ((hdl st v ⟨#[95, 95, 99, 108, 111, 115, 101]⟩).str), .int .i64 ((hdl st v ⟨#[95, 95, 99, 108, 111, 115, 101]⟩).ref)] 26, blkA g1 #[.int .i64 v.kind, .int .i64 v.p, .int .i64 v.q, .string v.str, .int .i64 v.ref] 26] ?_
 refine h_l 0 rfl [0, 2] (fun _ => (t_loadA 0 #[.int .i64 ((hdl st v ⟨#[95, 95, 99, 108, 111, 115, 101]⟩).kind), .int .i64 ((hdl st v ⟨#[95, 95, 99, 108, 111, 115, 101]⟩).p), .int .i64 ((hdl st v ⟨#[95, 95, 99, 108, 111, 115, 101]⟩).q), .string ((hdl st v ⟨#[95, 95, 99, 108, 111, 115, 101]⟩).str), .int .i64 ((hdl st v ⟨#[95, 95, 99, 108, 111, 115, 101]⟩).ref)])) ?_
 refine hp_ 1 [0, 2] (pB g3 0) ?_
 refine h_l 2 rfl [0, 2] (fun _ => (t_load 0 (.int .i64 ((hdl st v ⟨#[95, 95, 99, 108, 111, 115, 101]⟩).kind)))) ?_
 refine h_l 3 rfl [0, 2] (fun _ => t_cmp) ?_
 refine h_stepS 4 ?_
 refine s_store 2 #[.int .i64 ((hdl st v ⟨#[95, 95, 99, 108, 111, 115, 101]⟩).kind), .int .i64 ((hdl st v ⟨#[95, 95, 99, 108, 111, 115, 101]⟩).p), .int .i64 ((hdl st v ⟨#[95, 95, 99, 108, 111, 115, 101]⟩).q), .string ((hdl st v ⟨#[95, 95, 99, 108, 111, 115, 101]⟩).str), .int .i64 ((hdl st v ⟨#[95, 95, 99, 108, 111, 115, 101]⟩).ref)] ?_
 refine s_nil (xs_held [0, 2] ?_)
 refine hp_ 5 [0, 2] (.bool (decide ((hdl st v ⟨#[95, 95, 99, 108, 111, 115, 101]⟩).kind ≠ 0))) ?_
 refine h_doneS ?_
 refine xs_then ?_
 refine k_ret ?_
 exact xs_fin [.agg #[.int .i64 ((hdl st v ⟨#[95, 95, 99, 108, 111, 115, 101]⟩).kind), .int .i64 ((hdl st v ⟨#[95, 95, 99, 108, 111, 115, 101]⟩).p), .int .i64 ((hdl st v ⟨#[95, 95, 99, 108, 111, 115, 101]⟩).q), .string ((hdl st v ⟨#[95, 95, 99, 108, 111, 115, 101]⟩).str), .int .i64 ((hdl st v ⟨#[95, 95, 99, 108, 111, 115, 101]⟩).ref)], .bool (decide ((hdl st v ⟨#[95, 95, 99, 108, 111, 115, 101]⟩).kind ≠ 0))] (rhA b st :: F) (SI.agg 4 26 2 (SI.tmp 5 SI.nil)) (fun _ h => h.re [1] [1, 1, 1]) ⟨rfl, rfl⟩
theorem modes_w {Z : Zone} {lv : Value} {l : List Opc} (hl0 : Kn Z OpT lv l) (v : Spc) : SF Try.prog 9 #[lv, v.w] Z [] fun r Bs => r = .bool true ∧ Bs = [] := by
 refine sf_enter Try.func9 92 [(0, lv), (1, .agg #[.int .i64 v.v.kind, .int .i64 v.v.p, .int .i64 v.v.q, .string v.v.str, .int .i64 v.v.ref, .int .i64 v.obj])] (fun w0 => ?_)
 refine k_seq ?_
 refine k_reg ?_
 refine s_box #[.int .i64 v.v.kind, .int .i64 v.v.p, .int .i64 v.v.q, .string v.v.str, .int .i64 v.v.ref, .int .i64 v.obj] (fun g1 => ?_)
 refine sp (.bool false) ?_
 refine s_nil ?_
 refine xs_then ?_
 refine k_seq ?_
 refine k_seq ?_
 refine k_reg ?_
 refine sp lv ?_
 refine s_lt (t_loadA 0 #[.int .i64 v.v.kind, .int .i64 v.v.p, .int .i64 v.v.q, .string v.v.str, .int .i64 v.v.ref, .int .i64 v.obj]) ?_
 refine s_buildSlice (e := 28) [(0, .agg #[.int .i64 v.v.kind, .int .i64 v.v.p, .int .i64 v.v.q, .string v.v.str, .int .i64 v.v.ref, .int .i64 v.obj])] #[.int .i64 v.v.kind, .int .i64 v.v.p, .int .i64 v.v.q, .string v.v.str, .int .i64 v.v.ref, .int .i64 v.obj] (fun g2 => ?_) (hb := by kernel_rfl)
 refine s_mem (fun _ h => Holds.slice 0 h SpT_ok [v]) ?_
 refine s_call [0] (large_s (M := [v]) hl0 (by (try simp only [lnm]); omega)) ?_
 rintro _ _ ⟨lg3, rfl, hlg4, rfl⟩
 refine s_nil ?_
 refine xs_then ?_
 refine k_cond lg3 (fun c5 => ?_) (fun c5 => ?_)
 ·
  refine k_seq ?_
  refine k_reg ?_
  refine s_vcall (fun _ h => lives_s) ?_
  rintro _ rfl
  refine sp (.bool true) ?_
  refine s_nil ?_
  refine xs_then ?_
  refine k_ret ?_
  refine xs_ret ?_
  exact xs_fin [.bool true] [] (SI.tmp 4 SI.nil) (fun _ h => h.re [] [0]) ⟨rfl, rfl⟩
 ·
  refine k_skip ?_
  refine xs_then ?_
  refine k_seq ?_
  refine k_reg ?_
  refine sp lv ?_
  refine s_call [] (made_s hl0) ?_
  rintro _ _ ⟨hb6, gb7, lx8, rfl, rfl⟩
  refine s_fact (fun H h => ((Acc.own (T := VlT) (L := (made l).2) 2 rfl) H h).form) (fun hf9 => ?_)
  obtain ⟨hinv, hsm, hll⟩ := made_good l
  refine sp (.tuple #[.agg #[pB hb6 0, pB gb7 0, lx8], .bool true]) ?_
  refine sp (.agg #[pB hb6 0, pB gb7 0, lx8]) ?_
  refine sp (.bool true) ?_
  refine s_alloc (.agg #[.pointer none, .pointer none, (.slice none 0 0)]) #[.pointer none, .pointer none, (.slice none 0 0)] (fun g10 => ?_)
  refine s_store (u := .agg #[pB hb6 0, pB gb7 0, lx8]) (m := 3) 0 #[pB hb6 0, pB gb7 0, lx8] ?_ (hm := by (obtain ⟨_, _, e⟩ := hf9; rw [e]; rfl)) (h1 := by (obtain ⟨_, _, e⟩ := hf9; rw [e]; rfl)) (ha' := by (obtain ⟨_, _, e⟩ := hf9; rw [e]; rfl))
  refine sp (.bool true) ?_
  refine s_nil ?_
  refine xs_then ?_
  refine k_seq ?_
  refine k_reg ?_
  refine s_lt (t_loadA 0 #[pB hb6 0, pB gb7 0, lx8]) ?_
  refine s_lt (t_loadA 4 #[.int .i64 v.v.kind, .int .i64 v.v.p, .int .i64 v.v.q, .string v.v.str, .int .i64 v.v.ref, .int .i64 v.obj]) ?_
  refine s_call [3] (of_s (L := (made l).2) (by (try simp only [lnm]); omega) v) ?_
  rintro _ _ ⟨rfl, rfl⟩
  refine s_alloc (.agg #[.int .i64 0, .int .i64 0, .int .i64 0, .string ByteArray.empty, .int .i64 0]) #[.int .i64 0, .int .i64 0, .int .i64 0, .string ByteArray.empty, .int .i64 0] (fun g11 => ?_)
  refine s_store 0 #[.int .i64 ((ofS ((made l).2) v).kind), .int .i64 ((ofS ((made l).2) v).p), .int .i64 ((ofS ((made l).2) v).q), .string ((ofS ((made l).2) v).str), .int .i64 ((ofS ((made l).2) v).ref)] ?_
  refine s_nil ?_
  refine xs_then ?_
  refine k_seq ?_
  refine k_reg ?_
  refine sp (pB g10 0) ?_
  refine s_lt (t_load 2 (pB hb6 0)) ?_
  refine s_lt (t_loadA 0 #[.int .i64 ((ofS ((made l).2) v).kind), .int .i64 ((ofS ((made l).2) v).p), .int .i64 ((ofS ((made l).2) v).q), .string ((ofS ((made l).2) v).str), .int .i64 ((ofS ((made l).2) v).ref)]) ?_
  refine s_call [3] (fin_s (st := (made l).1) hsm (by omega) (ofS ((made l).2) v)) ?_
  rintro _ _ ⟨rfl, rfl⟩
  refine sp (.tuple #[.agg #[.int .i64 ((hdl ((made l).1) (ofS ((made l).2) v) ⟨#[95, 95, 103, 99]⟩).kind), .int .i64 ((hdl ((made l).1) (ofS ((made l).2) v) ⟨#[95, 95, 103, 99]⟩).p), .int .i64 ((hdl ((made l).1) (ofS ((made l).2) v) ⟨#[95, 95, 103, 99]⟩).q), .string ((hdl ((made l).1) (ofS ((made l).2) v) ⟨#[95, 95, 103, 99]⟩).str), .int .i64 ((hdl ((made l).1) (ofS ((made l).2) v) ⟨#[95, 95, 103, 99]⟩).ref)], .bool (decide ((hdl ((made l).1) (ofS ((made l).2) v) ⟨#[95, 95, 103, 99]⟩).kind ≠ 0))]) ?_
  refine sp (.agg #[.int .i64 ((hdl ((made l).1) (ofS ((made l).2) v) ⟨#[95, 95, 103, 99]⟩).kind), .int .i64 ((hdl ((made l).1) (ofS ((made l).2) v) ⟨#[95, 95, 103, 99]⟩).p), .int .i64 ((hdl ((made l).1) (ofS ((made l).2) v) ⟨#[95, 95, 103, 99]⟩).q), .string ((hdl ((made l).1) (ofS ((made l).2) v) ⟨#[95, 95, 103, 99]⟩).str), .int .i64 ((hdl ((made l).1) (ofS ((made l).2) v) ⟨#[95, 95, 103, 99]⟩).ref)]) ?_
  refine sp (.bool (decide ((hdl ((made l).1) (ofS ((made l).2) v) ⟨#[95, 95, 103, 99]⟩).kind ≠ 0))) ?_
  refine s_alloc (.agg #[.int .i64 0, .int .i64 0, .int .i64 0, .string ByteArray.empty, .int .i64 0]) #[.int .i64 0, .int .i64 0, .int .i64 0, .string ByteArray.empty, .int .i64 0] (fun g12 => ?_)
  refine s_store 0 #[.int .i64 ((hdl ((made l).1) (ofS ((made l).2) v) ⟨#[95, 95, 103, 99]⟩).kind), .int .i64 ((hdl ((made l).1) (ofS ((made l).2) v) ⟨#[95, 95, 103, 99]⟩).p), .int .i64 ((hdl ((made l).1) (ofS ((made l).2) v) ⟨#[95, 95, 103, 99]⟩).q), .string ((hdl ((made l).1) (ofS ((made l).2) v) ⟨#[95, 95, 103, 99]⟩).str), .int .i64 ((hdl ((made l).1) (ofS ((made l).2) v) ⟨#[95, 95, 103, 99]⟩).ref)] ?_
  refine sp (.bool (decide ((hdl ((made l).1) (ofS ((made l).2) v) ⟨#[95, 95, 103, 99]⟩).kind ≠ 0))) ?_
  refine s_nil ?_
  refine xs_then ?_
  refine k_seq ?_
  refine k_reg ?_
  refine sp (pB g10 1) ?_
  refine s_lt (t_load 4 (pB gb7 0)) ?_
  refine s_lt (t_loadA 2 #[.int .i64 ((ofS ((made l).2) v).kind), .int .i64 ((ofS ((made l).2) v).p), .int .i64 ((ofS ((made l).2) v).q), .string ((ofS ((made l).2) v).str), .int .i64 ((ofS ((made l).2) v).ref)]) ?_
  refine s_call [5] (rfin_s (st := (made l).1) hsm (by omega) (ofS ((made l).2) v)) ?_
  rintro _ _ ⟨rfl, rfl⟩
  refine sp (.tuple #[.agg #[.int .i64 ((hdl ((made l).1) (ofS ((made l).2) v) ⟨#[95, 95, 103, 99]⟩).kind), .int .i64 ((hdl ((made l).1) (ofS ((made l).2) v) ⟨#[95, 95, 103, 99]⟩).p), .int .i64 ((hdl ((made l).1) (ofS ((made l).2) v) ⟨#[95, 95, 103, 99]⟩).q), .string ((hdl ((made l).1) (ofS ((made l).2) v) ⟨#[95, 95, 103, 99]⟩).str), .int .i64 ((hdl ((made l).1) (ofS ((made l).2) v) ⟨#[95, 95, 103, 99]⟩).ref)], .bool (decide ((hdl ((made l).1) (ofS ((made l).2) v) ⟨#[95, 95, 103, 99]⟩).kind ≠ 0))]) ?_
  refine sp (.agg #[.int .i64 ((hdl ((made l).1) (ofS ((made l).2) v) ⟨#[95, 95, 103, 99]⟩).kind), .int .i64 ((hdl ((made l).1) (ofS ((made l).2) v) ⟨#[95, 95, 103, 99]⟩).p), .int .i64 ((hdl ((made l).1) (ofS ((made l).2) v) ⟨#[95, 95, 103, 99]⟩).q), .string ((hdl ((made l).1) (ofS ((made l).2) v) ⟨#[95, 95, 103, 99]⟩).str), .int .i64 ((hdl ((made l).1) (ofS ((made l).2) v) ⟨#[95, 95, 103, 99]⟩).ref)]) ?_
  refine sp (.bool (decide ((hdl ((made l).1) (ofS ((made l).2) v) ⟨#[95, 95, 103, 99]⟩).kind ≠ 0))) ?_
  refine s_alloc (.agg #[.int .i64 0, .int .i64 0, .int .i64 0, .string ByteArray.empty, .int .i64 0]) #[.int .i64 0, .int .i64 0, .int .i64 0, .string ByteArray.empty, .int .i64 0] (fun g13 => ?_)
  refine s_store 0 #[.int .i64 ((hdl ((made l).1) (ofS ((made l).2) v) ⟨#[95, 95, 103, 99]⟩).kind), .int .i64 ((hdl ((made l).1) (ofS ((made l).2) v) ⟨#[95, 95, 103, 99]⟩).p), .int .i64 ((hdl ((made l).1) (ofS ((made l).2) v) ⟨#[95, 95, 103, 99]⟩).q), .string ((hdl ((made l).1) (ofS ((made l).2) v) ⟨#[95, 95, 103, 99]⟩).str), .int .i64 ((hdl ((made l).1) (ofS ((made l).2) v) ⟨#[95, 95, 103, 99]⟩).ref)] ?_
  refine sp (.bool (decide ((hdl ((made l).1) (ofS ((made l).2) v) ⟨#[95, 95, 103, 99]⟩).kind ≠ 0))) ?_
  refine s_nil ?_
  refine xs_then ?_
  refine k_seq ?_
  refine k_reg ?_
  refine sp (pB g10 0) ?_
  refine s_lt (t_load 6 (pB hb6 0)) ?_
  refine s_lt (t_loadA 4 #[.int .i64 ((ofS ((made l).2) v).kind), .int .i64 ((ofS ((made l).2) v).p), .int .i64 ((ofS ((made l).2) v).q), .string ((ofS ((made l).2) v).str), .int .i64 ((ofS ((made l).2) v).ref)]) ?_
  refine s_call [3] (clo_s (st := (made l).1) hsm (by omega) (ofS ((made l).2) v)) ?_
  rintro _ _ ⟨rfl, rfl⟩
  refine sp (.tuple #[.agg #[.int .i64 ((hdl ((made l).1) (ofS ((made l).2) v) ⟨#[95, 95, 99, 108, 111, 115, 101]⟩).kind), .int .i64 ((hdl ((made l).1) (ofS ((made l).2) v) ⟨#[95, 95, 99, 108, 111, 115, 101]⟩).p), .int .i64 ((hdl ((made l).1) (ofS ((made l).2) v) ⟨#[95, 95, 99, 108, 111, 115, 101]⟩).q), .string ((hdl ((made l).1) (ofS ((made l).2) v) ⟨#[95, 95, 99, 108, 111, 115, 101]⟩).str), .int .i64 ((hdl ((made l).1) (ofS ((made l).2) v) ⟨#[95, 95, 99, 108, 111, 115, 101]⟩).ref)], .bool (decide ((hdl ((made l).1) (ofS ((made l).2) v) ⟨#[95, 95, 99, 108, 111, 115, 101]⟩).kind ≠ 0))]) ?_
  refine sp (.agg #[.int .i64 ((hdl ((made l).1) (ofS ((made l).2) v) ⟨#[95, 95, 99, 108, 111, 115, 101]⟩).kind), .int .i64 ((hdl ((made l).1) (ofS ((made l).2) v) ⟨#[95, 95, 99, 108, 111, 115, 101]⟩).p), .int .i64 ((hdl ((made l).1) (ofS ((made l).2) v) ⟨#[95, 95, 99, 108, 111, 115, 101]⟩).q), .string ((hdl ((made l).1) (ofS ((made l).2) v) ⟨#[95, 95, 99, 108, 111, 115, 101]⟩).str), .int .i64 ((hdl ((made l).1) (ofS ((made l).2) v) ⟨#[95, 95, 99, 108, 111, 115, 101]⟩).ref)]) ?_
  refine sp (.bool (decide ((hdl ((made l).1) (ofS ((made l).2) v) ⟨#[95, 95, 99, 108, 111, 115, 101]⟩).kind ≠ 0))) ?_
  refine s_alloc (.agg #[.int .i64 0, .int .i64 0, .int .i64 0, .string ByteArray.empty, .int .i64 0]) #[.int .i64 0, .int .i64 0, .int .i64 0, .string ByteArray.empty, .int .i64 0] (fun g14 => ?_)
  refine s_store 0 #[.int .i64 ((hdl ((made l).1) (ofS ((made l).2) v) ⟨#[95, 95, 99, 108, 111, 115, 101]⟩).kind), .int .i64 ((hdl ((made l).1) (ofS ((made l).2) v) ⟨#[95, 95, 99, 108, 111, 115, 101]⟩).p), .int .i64 ((hdl ((made l).1) (ofS ((made l).2) v) ⟨#[95, 95, 99, 108, 111, 115, 101]⟩).q), .string ((hdl ((made l).1) (ofS ((made l).2) v) ⟨#[95, 95, 99, 108, 111, 115, 101]⟩).str), .int .i64 ((hdl ((made l).1) (ofS ((made l).2) v) ⟨#[95, 95, 99, 108, 111, 115, 101]⟩).ref)] ?_
  refine sp (.bool (decide ((hdl ((made l).1) (ofS ((made l).2) v) ⟨#[95, 95, 99, 108, 111, 115, 101]⟩).kind ≠ 0))) ?_
  refine s_nil ?_
  refine xs_then ?_
  refine k_seq ?_
  refine k_reg ?_
  refine sp (pB g10 1) ?_
  refine s_lt (t_load 7 (pB gb7 0)) ?_
  refine s_lt (t_loadA 5 #[.int .i64 ((ofS ((made l).2) v).kind), .int .i64 ((ofS ((made l).2) v).p), .int .i64 ((ofS ((made l).2) v).q), .string ((ofS ((made l).2) v).str), .int .i64 ((ofS ((made l).2) v).ref)]) ?_
  refine s_call [3] (rclo_s (st := (made l).1) hsm (by omega) (ofS ((made l).2) v)) ?_
  rintro _ _ ⟨rfl, rfl⟩
  refine sp (.tuple #[.agg #[.int .i64 ((hdl ((made l).1) (ofS ((made l).2) v) ⟨#[95, 95, 99, 108, 111, 115, 101]⟩).kind), .int .i64 ((hdl ((made l).1) (ofS ((made l).2) v) ⟨#[95, 95, 99, 108, 111, 115, 101]⟩).p), .int .i64 ((hdl ((made l).1) (ofS ((made l).2) v) ⟨#[95, 95, 99, 108, 111, 115, 101]⟩).q), .string ((hdl ((made l).1) (ofS ((made l).2) v) ⟨#[95, 95, 99, 108, 111, 115, 101]⟩).str), .int .i64 ((hdl ((made l).1) (ofS ((made l).2) v) ⟨#[95, 95, 99, 108, 111, 115, 101]⟩).ref)], .bool (decide ((hdl ((made l).1) (ofS ((made l).2) v) ⟨#[95, 95, 99, 108, 111, 115, 101]⟩).kind ≠ 0))]) ?_
  refine sp (.agg #[.int .i64 ((hdl ((made l).1) (ofS ((made l).2) v) ⟨#[95, 95, 99, 108, 111, 115, 101]⟩).kind), .int .i64 ((hdl ((made l).1) (ofS ((made l).2) v) ⟨#[95, 95, 99, 108, 111, 115, 101]⟩).p), .int .i64 ((hdl ((made l).1) (ofS ((made l).2) v) ⟨#[95, 95, 99, 108, 111, 115, 101]⟩).q), .string ((hdl ((made l).1) (ofS ((made l).2) v) ⟨#[95, 95, 99, 108, 111, 115, 101]⟩).str), .int .i64 ((hdl ((made l).1) (ofS ((made l).2) v) ⟨#[95, 95, 99, 108, 111, 115, 101]⟩).ref)]) ?_
  refine sp (.bool (decide ((hdl ((made l).1) (ofS ((made l).2) v) ⟨#[95, 95, 99, 108, 111, 115, 101]⟩).kind ≠ 0))) ?_
  refine s_alloc (.agg #[.int .i64 0, .int .i64 0, .int .i64 0, .string ByteArray.empty, .int .i64 0]) #[.int .i64 0, .int .i64 0, .int .i64 0, .string ByteArray.empty, .int .i64 0] (fun g15 => ?_)
  refine s_store 0 #[.int .i64 ((hdl ((made l).1) (ofS ((made l).2) v) ⟨#[95, 95, 99, 108, 111, 115, 101]⟩).kind), .int .i64 ((hdl ((made l).1) (ofS ((made l).2) v) ⟨#[95, 95, 99, 108, 111, 115, 101]⟩).p), .int .i64 ((hdl ((made l).1) (ofS ((made l).2) v) ⟨#[95, 95, 99, 108, 111, 115, 101]⟩).q), .string ((hdl ((made l).1) (ofS ((made l).2) v) ⟨#[95, 95, 99, 108, 111, 115, 101]⟩).str), .int .i64 ((hdl ((made l).1) (ofS ((made l).2) v) ⟨#[95, 95, 99, 108, 111, 115, 101]⟩).ref)] ?_
  refine sp (.bool (decide ((hdl ((made l).1) (ofS ((made l).2) v) ⟨#[95, 95, 99, 108, 111, 115, 101]⟩).kind ≠ 0))) ?_
  refine s_nil ?_
  refine xs_then ?_
  refine k_seq ?_
  refine k_held [blkA g15 #[.int .i64 ((hdl ((made l).1) (ofS ((made l).2) v) ⟨#[95, 95, 99, 108, 111, 115, 101]⟩).kind), .int .i64 ((hdl ((made l).1) (ofS ((made l).2) v) ⟨#[95, 95, 99, 108, 111, 115, 101]⟩).p), .int .i64 ((hdl ((made l).1) (ofS ((made l).2) v) ⟨#[95, 95, 99, 108, 111, 115, 101]⟩).q), .string ((hdl ((made l).1) (ofS ((made l).2) v) ⟨#[95, 95, 99, 108, 111, 115, 101]⟩).str), .int .i64 ((hdl ((made l).1) (ofS ((made l).2) v) ⟨#[95, 95, 99, 108, 111, 115, 101]⟩).ref)] 26, blkA g14 #[.int .i64 ((hdl ((made l).1) (ofS ((made l).2) v) ⟨#[95, 95, 99, 108, 111, 115, 101]⟩).kind), .int .i64 ((hdl ((made l).1) (ofS ((made l).2) v) ⟨#[95, 95, 99, 108, 111, 115, 101]⟩).p), .int .i64 ((hdl ((made l).1) (ofS ((made l).2) v) ⟨#[95, 95, 99, 108, 111, 115, 101]⟩).q), .string ((hdl ((made l).1) (ofS ((made l).2) v) ⟨#[95, 95, 99, 108, 111, 115, 101]⟩).str), .int .i64 ((hdl ((made l).1) (ofS ((made l).2) v) ⟨#[95, 95, 99, 108, 111, 115, 101]⟩).ref)] 26, blkA g13 #[.int .i64 ((hdl ((made l).1) (ofS ((made l).2) v) ⟨#[95, 95, 103, 99]⟩).kind), .int .i64 ((hdl ((made l).1) (ofS ((made l).2) v) ⟨#[95, 95, 103, 99]⟩).p), .int .i64 ((hdl ((made l).1) (ofS ((made l).2) v) ⟨#[95, 95, 103, 99]⟩).q), .string ((hdl ((made l).1) (ofS ((made l).2) v) ⟨#[95, 95, 103, 99]⟩).str), .int .i64 ((hdl ((made l).1) (ofS ((made l).2) v) ⟨#[95, 95, 103, 99]⟩).ref)] 26, blkA g12 #[.int .i64 ((hdl ((made l).1) (ofS ((made l).2) v) ⟨#[95, 95, 103, 99]⟩).kind), .int .i64 ((hdl ((made l).1) (ofS ((made l).2) v) ⟨#[95, 95, 103, 99]⟩).p), .int .i64 ((hdl ((made l).1) (ofS ((made l).2) v) ⟨#[95, 95, 103, 99]⟩).q), .string ((hdl ((made l).1) (ofS ((made l).2) v) ⟨#[95, 95, 103, 99]⟩).str), .int .i64 ((hdl ((made l).1) (ofS ((made l).2) v) ⟨#[95, 95, 103, 99]⟩).ref)] 26, blkA g11 #[.int .i64 ((ofS ((made l).2) v).kind), .int .i64 ((ofS ((made l).2) v).p), .int .i64 ((ofS ((made l).2) v).q), .string ((ofS ((made l).2) v).str), .int .i64 ((ofS ((made l).2) v).ref)] 26, own VlT lx8 ((made l).2), blkA g10 #[pB hb6 0, pB gb7 0, lx8] 35, blkA g1 #[.int .i64 v.v.kind, .int .i64 v.v.p, .int .i64 v.v.q, .string v.v.str, .int .i64 v.v.ref, .int .i64 v.obj] 28] ?_
  refine hp_ 0 [0, 1, 2, 2, 2, 2, 2, 2] (.bool true) ?_
  refine hp_ 1 [0, 1, 2, 2, 2, 2, 2, 2] (.bool true) ?_
  refine hp_ 2 [0, 1, 2, 2, 2, 2, 2, 2] (pB g10 0) ?_
  refine h_l 3 rfl [0, 1, 2, 2, 2, 2, 2, 2] (fun _ => (t_load 6 (pB hb6 0))) ?_
  refine h_l 4 rfl [0, 1, 2, 2, 2, 2, 2, 2] (fun _ => (t_loadA 4 #[.int .i64 ((ofS ((made l).2) v).kind), .int .i64 ((ofS ((made l).2) v).p), .int .i64 ((ofS ((made l).2) v).q), .string ((ofS ((made l).2) v).str), .int .i64 ((ofS ((made l).2) v).ref)])) ?_
  refine hp_ 6 [0, 1, 2, 2, 2, 2, 2, 2] (pB g10 1) ?_
  refine h_l 7 rfl [0, 1, 2, 2, 2, 2, 2, 2] (fun _ => (t_load 6 (pB gb7 0))) ?_
  refine h_l 8 rfl [0, 1, 2, 2, 2, 2, 2, 2] (fun _ => (t_loadA 4 #[.int .i64 ((ofS ((made l).2) v).kind), .int .i64 ((ofS ((made l).2) v).p), .int .i64 ((ofS ((made l).2) v).q), .string ((ofS ((made l).2) v).str), .int .i64 ((ofS ((made l).2) v).ref)])) ?_
  refine h_stepS 5 ?_
  refine s_call [3] (wkn_s (st := (made l).1) hsm (by omega) (ofS ((made l).2) v)) ?_
  rintro _ _ ⟨rfl, rfl⟩
  refine s_nil (xs_held [1, 2, 2, 2, 2, 2, 2, 2] ?_)
  refine h_stepS 9 ?_
  refine s_call [2] (rwkn_s (st := (made l).1) hsm (by omega) (ofS ((made l).2) v)) ?_
  rintro _ _ ⟨rfl, rfl⟩
  refine s_nil (xs_held [2, 2, 2, 2, 2, 2, 2, 2] ?_)
  refine h_l 10 rfl [2, 2, 2, 2, 2, 2, 2, 2] (fun _ => (Lt.to t_cmp (congrArg Value.bool (decide_eq_true rfl : (decide ((wkn ((made l).1) (ofS ((made l).2) v)) = (wkn ((made l).1) (ofS ((made l).2) v)))) = true)))) ?_
  refine hp_ 11 [2, 2, 2, 2, 2, 2, 2, 2] (.bool true) ?_
  refine hp_ 12 [2, 2, 2, 2, 2, 2, 2, 2] (.bool true) ?_
  refine h_l 13 rfl [2, 2, 2, 2, 2, 2, 2, 2] (fun _ => (t_loadA 3 #[.int .i64 ((hdl ((made l).1) (ofS ((made l).2) v) ⟨#[95, 95, 103, 99]⟩).kind), .int .i64 ((hdl ((made l).1) (ofS ((made l).2) v) ⟨#[95, 95, 103, 99]⟩).p), .int .i64 ((hdl ((made l).1) (ofS ((made l).2) v) ⟨#[95, 95, 103, 99]⟩).q), .string ((hdl ((made l).1) (ofS ((made l).2) v) ⟨#[95, 95, 103, 99]⟩).str), .int .i64 ((hdl ((made l).1) (ofS ((made l).2) v) ⟨#[95, 95, 103, 99]⟩).ref)])) ?_
  refine h_l 14 rfl [2, 2, 2, 2, 2, 2, 2, 2] (fun _ => (t_loadA 2 #[.int .i64 ((hdl ((made l).1) (ofS ((made l).2) v) ⟨#[95, 95, 103, 99]⟩).kind), .int .i64 ((hdl ((made l).1) (ofS ((made l).2) v) ⟨#[95, 95, 103, 99]⟩).p), .int .i64 ((hdl ((made l).1) (ofS ((made l).2) v) ⟨#[95, 95, 103, 99]⟩).q), .string ((hdl ((made l).1) (ofS ((made l).2) v) ⟨#[95, 95, 103, 99]⟩).str), .int .i64 ((hdl ((made l).1) (ofS ((made l).2) v) ⟨#[95, 95, 103, 99]⟩).ref)])) ?_
  refine h_l 15 rfl [2, 2, 2, 2, 2, 2, 2, 2] (fun _ => (Lt.to (t_eqS (fun w => (eqVlT (hdl ((made l).1) (ofS ((made l).2) v) ⟨#[95, 95, 103, 99]⟩) (hdl ((made l).1) (ofS ((made l).2) v) ⟨#[95, 95, 103, 99]⟩) w).1)) (congrArg Value.bool (decide_eq_true rfl : (decide ((hdl ((made l).1) (ofS ((made l).2) v) ⟨#[95, 95, 103, 99]⟩) = (hdl ((made l).1) (ofS ((made l).2) v) ⟨#[95, 95, 103, 99]⟩))) = true)))) ?_
  refine hp_ 16 [2, 2, 2, 2, 2, 2, 2, 2] (.bool true) ?_
  refine hp_ 17 [2, 2, 2, 2, 2, 2, 2, 2] (.bool true) ?_
  refine hp_ 18 [2, 2, 2, 2, 2, 2, 2, 2] (.bool (decide ((hdl ((made l).1) (ofS ((made l).2) v) ⟨#[95, 95, 103, 99]⟩).kind ≠ 0))) ?_
  refine hp_ 19 [2, 2, 2, 2, 2, 2, 2, 2] (.bool (decide ((hdl ((made l).1) (ofS ((made l).2) v) ⟨#[95, 95, 103, 99]⟩).kind ≠ 0))) ?_
  refine h_l 20 rfl [2, 2, 2, 2, 2, 2, 2, 2] (fun _ => (Lt.to (t_pure (.bool ((decide ((hdl ((made l).1) (ofS ((made l).2) v) ⟨#[95, 95, 103, 99]⟩).kind ≠ 0)) == (decide ((hdl ((made l).1) (ofS ((made l).2) v) ⟨#[95, 95, 103, 99]⟩).kind ≠ 0))))) (congrArg Value.bool ((beq_self_eq_true _) : ((decide ((hdl ((made l).1) (ofS ((made l).2) v) ⟨#[95, 95, 103, 99]⟩).kind ≠ 0)) == (decide ((hdl ((made l).1) (ofS ((made l).2) v) ⟨#[95, 95, 103, 99]⟩).kind ≠ 0))) = true)))) ?_
  refine hp_ 21 [2, 2, 2, 2, 2, 2, 2, 2] (.bool true) ?_
  refine hp_ 22 [2, 2, 2, 2, 2, 2, 2, 2] (.bool true) ?_
  refine h_l 23 rfl [2, 2, 2, 2, 2, 2, 2, 2] (fun _ => (t_loadA 1 #[.int .i64 ((hdl ((made l).1) (ofS ((made l).2) v) ⟨#[95, 95, 99, 108, 111, 115, 101]⟩).kind), .int .i64 ((hdl ((made l).1) (ofS ((made l).2) v) ⟨#[95, 95, 99, 108, 111, 115, 101]⟩).p), .int .i64 ((hdl ((made l).1) (ofS ((made l).2) v) ⟨#[95, 95, 99, 108, 111, 115, 101]⟩).q), .string ((hdl ((made l).1) (ofS ((made l).2) v) ⟨#[95, 95, 99, 108, 111, 115, 101]⟩).str), .int .i64 ((hdl ((made l).1) (ofS ((made l).2) v) ⟨#[95, 95, 99, 108, 111, 115, 101]⟩).ref)])) ?_
  refine h_l 24 rfl [2, 2, 2, 2, 2, 2, 2, 2] (fun _ => (t_loadA 0 #[.int .i64 ((hdl ((made l).1) (ofS ((made l).2) v) ⟨#[95, 95, 99, 108, 111, 115, 101]⟩).kind), .int .i64 ((hdl ((made l).1) (ofS ((made l).2) v) ⟨#[95, 95, 99, 108, 111, 115, 101]⟩).p), .int .i64 ((hdl ((made l).1) (ofS ((made l).2) v) ⟨#[95, 95, 99, 108, 111, 115, 101]⟩).q), .string ((hdl ((made l).1) (ofS ((made l).2) v) ⟨#[95, 95, 99, 108, 111, 115, 101]⟩).str), .int .i64 ((hdl ((made l).1) (ofS ((made l).2) v) ⟨#[95, 95, 99, 108, 111, 115, 101]⟩).ref)])) ?_
  refine h_l 25 rfl [2, 2, 2, 2, 2, 2, 2, 2] (fun _ => (Lt.to (t_eqS (fun w => (eqVlT (hdl ((made l).1) (ofS ((made l).2) v) ⟨#[95, 95, 99, 108, 111, 115, 101]⟩) (hdl ((made l).1) (ofS ((made l).2) v) ⟨#[95, 95, 99, 108, 111, 115, 101]⟩) w).1)) (congrArg Value.bool (decide_eq_true rfl : (decide ((hdl ((made l).1) (ofS ((made l).2) v) ⟨#[95, 95, 99, 108, 111, 115, 101]⟩) = (hdl ((made l).1) (ofS ((made l).2) v) ⟨#[95, 95, 99, 108, 111, 115, 101]⟩))) = true)))) ?_
  refine hp_ 26 [2, 2, 2, 2, 2, 2, 2, 2] (.bool true) ?_
  refine hp_ 27 [2, 2, 2, 2, 2, 2, 2, 2] (.bool true) ?_
  refine hp_ 28 [2, 2, 2, 2, 2, 2, 2, 2] (.bool (decide ((hdl ((made l).1) (ofS ((made l).2) v) ⟨#[95, 95, 99, 108, 111, 115, 101]⟩).kind ≠ 0))) ?_
  refine hp_ 29 [2, 2, 2, 2, 2, 2, 2, 2] (.bool (decide ((hdl ((made l).1) (ofS ((made l).2) v) ⟨#[95, 95, 99, 108, 111, 115, 101]⟩).kind ≠ 0))) ?_
  refine h_l 30 rfl [2, 2, 2, 2, 2, 2, 2, 2] (fun _ => (Lt.to (t_pure (.bool ((decide ((hdl ((made l).1) (ofS ((made l).2) v) ⟨#[95, 95, 99, 108, 111, 115, 101]⟩).kind ≠ 0)) == (decide ((hdl ((made l).1) (ofS ((made l).2) v) ⟨#[95, 95, 99, 108, 111, 115, 101]⟩).kind ≠ 0))))) (congrArg Value.bool ((beq_self_eq_true _) : ((decide ((hdl ((made l).1) (ofS ((made l).2) v) ⟨#[95, 95, 99, 108, 111, 115, 101]⟩).kind ≠ 0)) == (decide ((hdl ((made l).1) (ofS ((made l).2) v) ⟨#[95, 95, 99, 108, 111, 115, 101]⟩).kind ≠ 0))) = true)))) ?_
  refine hp_ 31 [2, 2, 2, 2, 2, 2, 2, 2] (.bool true) ?_
  refine hp_ 32 [2, 2, 2, 2, 2, 2, 2, 2] (.bool true) ?_
  refine h_stepS 33 ?_
  refine s_vcall (fun _ h => lives_s) ?_
  rintro _ rfl
  refine s_nil (xs_held [2, 2, 2, 2, 2, 2, 2, 2] ?_)
  refine hp_ 34 [2, 2, 2, 2, 2, 2, 2, 2] (.bool true) ?_
  refine hp_ 35 [2, 2, 2, 2, 2, 2, 2, 2] (.bool true) ?_
  refine h_doneS ?_
  refine xs_then ?_
  refine k_ret ?_
  exact xs_fin [.bool true] [] (SI.tmp 4 SI.nil) (fun _ h => h.re [] [0, 0, 0, 0, 0, 0, 0, 0, 0, 0]) ⟨rfl, rfl⟩
end Go.Proofs.Ytplkkhpokodbmaa
