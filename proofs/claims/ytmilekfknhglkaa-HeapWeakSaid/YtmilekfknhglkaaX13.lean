/-
  Layer 14: HeapWeak. Each law says its conditions.
-/
import Derived.Test.YtmilekfknhglkaaG5
set_option linter.unusedSimpArgs false
set_option linter.unusedVariables false
set_option maxRecDepth 100000
set_option maxHeartbeats 2000000
namespace Go.Proofs.Ytmilekfknhglkaa
open Go.Hp Go.J Go.S
open Go.Mem (Ty KTy blk elemAt pre suf blk_pre blk_suf aget aset strK aggDesc)
open Go.Mem (adel apos aget_aset aget_adel)
theorem lref_s {Z : Zone} (v : Vl) : SF Try.prog 27 #[v.v] Z [] fun r Bs => r = .bool (isRef v.kind) ∧ Bs = [] := by
 refine sf_enter Try.func27 21 [(0, .agg #[.int .i64 v.kind, .int .i64 v.p, .int .i64 v.q, .string v.str, .int .i64 v.ref])] (fun w0 => ?_)
 refine k_sr ?_
 refine s_box #[.int .i64 v.kind, .int .i64 v.p, .int .i64 v.q, .string v.str, .int .i64 v.ref] (fun g1 => ?_)
 refine sp (.bool false) ?_
 refine s_nr ?_
 refine sp (pB g1 0) ?_
 refine s_lt (t_load 0 (.int .i64 v.kind)) ?_
 refine s_lt t_cmp ?_
 refine sp (.bool (decide (v.kind = 4))) ?_
 refine s_fork 6 (decide (v.kind = 4)) (fun c2 => ?_) (fun c2 => ?_)
 ·
  have p3 := of_decide_eq_true c2
  refine s_skip ?_
  refine s_skip ?_
  refine s_skip ?_
  refine sp (.bool true) ?_
  refine sp (.bool true) ?_
  refine s_skip ?_
  refine s_skip ?_
  refine s_skip ?_
  refine sp (.bool true) ?_
  refine sp (.bool true) ?_
  refine s_skip ?_
  refine s_skip ?_
  refine s_skip ?_
  refine sp (.bool true) ?_
  refine sp (.bool true) ?_
  refine s_nt ?_
  refine k_ret ?_
  refine xs_fin [.bool true] [] (SI.tmp 2 SI.nil) (fun _ h => h.re [] [0]) ⟨congrArg Value.bool ?_, rfl⟩
  unfold isRef; simp_all
 ·
  have p4 := of_decide_eq_false c2
  refine sp (pB g1 0) ?_
  refine s_lt (t_load 0 (.int .i64 v.kind)) ?_
  refine s_lt t_cmp ?_
  refine sp (.bool (decide (v.kind = 5))) ?_
  refine sp (.bool (decide (v.kind = 5))) ?_
  refine s_fork 11 (decide (v.kind = 5)) (fun c5 => ?_) (fun c5 => ?_)
  ·
   have p6 := of_decide_eq_true c5
   refine s_skip ?_
   refine s_skip ?_
   refine s_skip ?_
   refine sp (.bool true) ?_
   refine sp (.bool true) ?_
   refine s_skip ?_
   refine s_skip ?_
   refine s_skip ?_
   refine sp (.bool true) ?_
   refine sp (.bool true) ?_
   refine s_nt ?_
   refine k_ret ?_
   refine xs_fin [.bool true] [] (SI.tmp 2 SI.nil) (fun _ h => h.re [] [0]) ⟨congrArg Value.bool ?_, rfl⟩
   unfold isRef; simp_all
  ·
   have p7 := of_decide_eq_false c5
   refine sp (pB g1 0) ?_
   refine s_lt (t_load 0 (.int .i64 v.kind)) ?_
   refine s_lt t_cmp ?_
   refine sp (.bool (decide (v.kind = 7))) ?_
   refine sp (.bool (decide (v.kind = 7))) ?_
   refine s_fork 16 (decide (v.kind = 7)) (fun c8 => ?_) (fun c8 => ?_)
   ·
    have p9 := of_decide_eq_true c8
    refine s_skip ?_
    refine s_skip ?_
    refine s_skip ?_
    refine sp (.bool true) ?_
    refine sp (.bool true) ?_
    refine s_nt ?_
    refine k_ret ?_
    refine xs_fin [.bool true] [] (SI.tmp 2 SI.nil) (fun _ h => h.re [] [0]) ⟨congrArg Value.bool ?_, rfl⟩
    unfold isRef; simp_all
   ·
    have p10 := of_decide_eq_false c8
    refine sp (pB g1 0) ?_
    refine s_lt (t_load 0 (.int .i64 v.kind)) ?_
    refine s_lt t_cmp ?_
    refine sp (.bool (decide (v.kind = 8))) ?_
    refine sp (.bool (decide (v.kind = 8))) ?_
    refine s_nt ?_
    refine k_ret ?_
    refine xs_fin [.bool (decide (v.kind = 8))] [] (SI.tmp 2 SI.nil) (fun _ h => h.re [] [0]) ⟨congrArg Value.bool ?_, rfl⟩
    unfold isRef; simp_all
theorem ints_step {A B : List Int} {i : Nat} {x y : Int} (h : A.take i = B.take i) (hx : A[i]? = some x) (hy : B[i]? = some y) (e : x = y) : A.take (i + 1) = B.take (i + 1) := by
  rw [List.take_add_one, List.take_add_one, h, hx, hy, e]
theorem ints_s {Z : Zone} {av bv : Value} {A B : List Int} (hA : Kn Z iTy av A) (hB : Kn Z iTy bv B) : SF Try.prog 29 #[av, bv] Z [] fun r Bs => r = .bool (decide (A = B)) ∧ Bs = [] := by
 refine sf_enter Try.func29 26 [(0, av), (1, bv)] (fun w0 => ?_)
 refine k_fact (fun H h => (hA.get h).len_le) (fun lA => ?_)
 refine k_fact (fun H h => (hB.get h).len_le) (fun lB => ?_)
 refine k_sr ?_
 refine sp (.bool false) ?_
 refine s_nt ?_
 refine k_seq ?_
 refine k_sr ?_
 refine sp av ?_
 refine s_lt (t_len iTy_ok Try.underlying54 (.zn hA)) ?_
 refine sp bv ?_
 refine s_lt (t_len iTy_ok Try.underlying54 (.zn hB)) ?_
 refine s_lt t_cmp ?_
 refine s_nt ?_
 refine k_cond (decide ((A.length : Int) ≠ (B.length : Int))) (fun c1 => ?_) (fun c1 => ?_)
 ·
  have p2 := of_decide_eq_true c1
  refine k_sr ?_
  refine sp (.bool false) ?_
  refine s_nt ?_
  refine k_ret ?_
  refine xs_ret ?_
  refine xs_fin [.bool false] [] (SI.tmp 4 SI.nil) (fun _ h => h.re [] []) ⟨congrArg Value.bool ?_, rfl⟩
  refine (decide_eq_false fun hq => ?_).symm; subst hq; omega
 ·
  have p3 := Decidable.not_not.1 (of_decide_eq_false c1)
  refine k_st ?_
  refine k_seq ?_
  refine k_sr ?_
  refine sp av ?_
  refine s_lt (t_len iTy_ok Try.underlying54 (.zn hA)) ?_
  refine sp (.int .i64 0) ?_
  refine s_nt ?_
  refine k_block ?_
  refine k_loop (ι := Nat) (fun i => i ≤ A.length ∧ A.take i = B.take i) (fun i => [(0, av), (1, bv), (12, .int .i64 (A.length : Int)), (13, .int .i64 (i : Int))]) (fun i => []) (fun i => A.length - i) 0 ⟨Nat.zero_le _, rfl⟩ (sub_of rfl ⟨⟨rfl, rfl⟩, ⟨⟨rfl, rfl⟩, ⟨⟨rfl, rfl⟩, ⟨⟨rfl, rfl⟩, trivial⟩⟩⟩⟩) (fun _ h => h.re [] []) ?_
  rintro i hi4
  show SK _ _ _ _ _ [(0, av), (1, bv), (12, .int .i64 (A.length : Int)), (13, .int .i64 (i : Int))] _ []
  refine k_sr ?_
  refine s_lt t_cmp ?_
  refine s_nt ?_
  refine k_seq ?_
  refine k_cond (decide ((i : Int) < (A.length : Int))) (fun c5 => ?_) (fun c5 => ?_)
  ·
   have p6 := of_decide_eq_true c5
   refine k_st ?_
   refine k_seq ?_
   refine k_block ?_
   refine k_sr ?_
   refine sp (.int .i64 (i : Int)) ?_
   refine sp (.int .i64 (i : Int)) ?_
   refine s_nt ?_
   refine k_seq ?_
   refine k_draw ?_
   refine sp av ?_
   refine sp (.int .i64 (i : Int)) ?_
   refine s_lt (t_index iTy_ok Try.underlying54 (.zn hA) (i : Int) i (by omega) (by (try simp only [lnm]); omega) (by omega)) ?_
   obtain ⟨y7, hy8⟩ : ∃ y, A[i]? = some y := ⟨_, List.getElem?_eq_getElem (by (try simp only [lnm]); omega)⟩
   refine s_lt (t_loadE iTy_ok (.zn hA) hy8) ?_
   refine sp bv ?_
   refine sp (.int .i64 (i : Int)) ?_
   refine s_lt (t_index iTy_ok Try.underlying54 (.zn hB) (i : Int) i (by omega) (by (try simp only [lnm]); omega) (by omega)) ?_
   obtain ⟨y9, hy10⟩ : ∃ y, B[i]? = some y := ⟨_, List.getElem?_eq_getElem (by (try simp only [lnm]); omega)⟩
   refine s_lt (t_loadE iTy_ok (.zn hB) hy10) ?_
   refine s_lt t_cmp ?_
   refine s_nil ?_
   refine x_dynS (fun _ h => by kernel_rfl) ?_
   refine xs_then ?_
   refine k_cond (decide (y7 ≠ y9)) (fun c11 => ?_) (fun c11 => ?_)
   ·
    have p12 := of_decide_eq_true c11
    refine k_sr ?_
    refine sp (.bool false) ?_
    refine s_nt ?_
    refine k_ret ?_
    refine xs_retBlock ?_
    refine xs_ret ?_
    refine xs_ret ?_
    refine xs_retBlock ?_
    refine xs_ret ?_
    refine xs_fin [.bool false] [] (SI.tmp 4 SI.nil) (fun _ h => h.re [] []) ⟨congrArg Value.bool ?_, rfl⟩
    refine (decide_eq_false fun hq => ?_).symm; subst hq; rw [hy8] at hy10; cases hy10; omega
   ·
    have p13 := Decidable.not_not.1 (of_decide_eq_false c11)
    refine k_skip ?_
    refine xs_block ?_
    refine xs_then ?_
    refine k_reg ?_
    refine s_lt (t_add (i : Int) 1 (by (try simp only [lnm]); omega)) ?_
    refine sp (.int .i64 ((i : Int) + 1)) ?_
    refine s_nil ?_
    exact xs_round (i + 1) (by omega) ⟨by omega, ints_step hi4.2 hy8 hy10 (by omega)⟩ (sub_of rfl ⟨⟨rfl, rfl⟩, ⟨⟨rfl, rfl⟩, ⟨⟨rfl, rfl⟩, ⟨⟨rfl, rfl⟩, trivial⟩⟩⟩⟩) (fun _ h => h.re [] [])
  ·
   have p14 := of_decide_eq_false c5
   refine k_exit ?_
   refine xs_exit ?_
   refine xs_exit ?_
   refine xs_here ?_
   refine xs_then ?_
   refine k_sr ?_
   refine sp (.bool true) ?_
   refine s_nt ?_
   refine k_ret ?_
   refine xs_fin [.bool true] [] (SI.tmp 4 SI.nil) (fun _ h => h.re [] []) ⟨congrArg Value.bool ?_, rfl⟩
   have hq := hi4.2; rw [List.take_of_length_le (by omega), List.take_of_length_le (by omega)] at hq; exact (decide_eq_true hq).symm
theorem weak_w {Z : Zone} {lv : Value} {l : List Vl} (hL : Kn Z VlT lv l) (weak : Int) : SF Try.prog 4 #[lv, .int .i64 weak] Z [] fun r Bs => r = .bool true ∧ Bs = [] := by
 refine sf_enter Try.func4 186 [(0, lv), (1, .int .i64 weak)] (fun w0 => ?_)
 refine k_fact (fun H h => (hL.get h).len_le) (fun lA => ?_)
 refine k_sr ?_
 refine sp (.bool false) ?_
 refine s_nt ?_
 refine k_seq ?_
 refine k_sr ?_
 refine sp lv ?_
 refine s_lt (t_len VlT_ok Try.underlying22 (.zn hL)) ?_
 refine s_lt t_cmp ?_
 refine s_nt ?_
 refine k_cond (decide ((20 : Int) < (l.length : Int))) (fun c1 => ?_) (fun c1 => ?_)
 ·
  have p2 := of_decide_eq_true c1
  refine k_sr ?_
  refine s_vcall (fun _ h => awake_s) ?_
  rintro _ rfl
  refine sp (.bool true) ?_
  refine s_nt ?_
  refine k_ret ?_
  refine xs_ret ?_
  exact xs_fin [.bool true] [] (SI.tmp 4 SI.nil) (fun _ h => h.re [] []) ⟨rfl, rfl⟩
 ·
  have p3 := of_decide_eq_false c1
  refine k_st ?_
  refine k_sr ?_
  refine s_pcall (fun _ h => hnew_s) ?_
  rintro _ _ ⟨hb4, rfl, rfl⟩
  refine sp (pB hb4 0) ?_
  refine s_nr ?_
  refine sp (pB hb4 0) ?_
  refine s_call [0] (hnewtable_s (st := hp0) (by have := HSm.nil.len; omega)) ?_
  rintro _ _ ⟨rfl, rfl⟩
  have hi5 := hmake_inv (o := (newO 4 0 ByteArray.empty [])) HInv.nil (newO_inv _ _ _ (by decide))
  have hs6 := hmake_sm (o := (newO 4 0 ByteArray.empty [])) HSm.nil rfl (by decide)
  have hw7 := HW.make (o := (newO 4 0 ByteArray.empty [])) HW.nil (newO_w _ _ _ (fun _ hv => (by cases hv)) (fun h8 => by cases h8))
  refine sp (.tuple #[.agg #[.int .i64 ((hmakeV hp0 4).kind), .int .i64 ((hmakeV hp0 4).p), .int .i64 ((hmakeV hp0 4).q), .string ((hmakeV hp0 4).str), .int .i64 ((hmakeV hp0 4).ref)], .int .i64 (hmakeE hp0)]) ?_
  refine sp (.agg #[.int .i64 ((hmakeV hp0 4).kind), .int .i64 ((hmakeV hp0 4).p), .int .i64 ((hmakeV hp0 4).q), .string ((hmakeV hp0 4).str), .int .i64 ((hmakeV hp0 4).ref)]) ?_
  refine sp (.int .i64 (hmakeE hp0)) ?_
  refine s_alloc (.agg #[.int .i64 0, .int .i64 0, .int .i64 0, .string ByteArray.empty, .int .i64 0]) #[.int .i64 0, .int .i64 0, .int .i64 0, .string ByteArray.empty, .int .i64 0] (fun g8 => ?_)
  refine s_store 0 #[.int .i64 ((hmakeV hp0 4).kind), .int .i64 ((hmakeV hp0 4).p), .int .i64 ((hmakeV hp0 4).q), .string ((hmakeV hp0 4).str), .int .i64 ((hmakeV hp0 4).ref)] ?_
  refine sp (.int .i64 (hmakeE hp0)) ?_
  refine s_nr ?_
  refine sp (pB hb4 0) ?_
  refine s_call [1] (hnewtable_s (st := (hmake hp0 (newO 4 0 ByteArray.empty []))) (by have := hs6.len; omega)) ?_
  rintro _ _ ⟨rfl, rfl⟩
  have hi9 := hmake_inv (o := (newO 4 0 ByteArray.empty [])) hi5 (newO_inv _ _ _ (by decide))
  have hs10 := hmake_sm (o := (newO 4 0 ByteArray.empty [])) hs6 rfl (by decide)
  have hw11 := HW.make (o := (newO 4 0 ByteArray.empty [])) hw7 (newO_w _ _ _ (fun _ hv => (by cases hv)) (fun h8 => by cases h8))
  refine sp (.tuple #[.agg #[.int .i64 ((hmakeV (hmake hp0 (newO 4 0 ByteArray.empty [])) 4).kind), .int .i64 ((hmakeV (hmake hp0 (newO 4 0 ByteArray.empty [])) 4).p), .int .i64 ((hmakeV (hmake hp0 (newO 4 0 ByteArray.empty [])) 4).q), .string ((hmakeV (hmake hp0 (newO 4 0 ByteArray.empty [])) 4).str), .int .i64 ((hmakeV (hmake hp0 (newO 4 0 ByteArray.empty [])) 4).ref)], .int .i64 (hmakeE (hmake hp0 (newO 4 0 ByteArray.empty [])))]) ?_
  refine sp (.agg #[.int .i64 ((hmakeV (hmake hp0 (newO 4 0 ByteArray.empty [])) 4).kind), .int .i64 ((hmakeV (hmake hp0 (newO 4 0 ByteArray.empty [])) 4).p), .int .i64 ((hmakeV (hmake hp0 (newO 4 0 ByteArray.empty [])) 4).q), .string ((hmakeV (hmake hp0 (newO 4 0 ByteArray.empty [])) 4).str), .int .i64 ((hmakeV (hmake hp0 (newO 4 0 ByteArray.empty [])) 4).ref)]) ?_
  refine sp (.int .i64 (hmakeE (hmake hp0 (newO 4 0 ByteArray.empty [])))) ?_
  refine s_alloc (.agg #[.int .i64 0, .int .i64 0, .int .i64 0, .string ByteArray.empty, .int .i64 0]) #[.int .i64 0, .int .i64 0, .int .i64 0, .string ByteArray.empty, .int .i64 0] (fun g12 => ?_)
  refine s_store 0 #[.int .i64 ((hmakeV (hmake hp0 (newO 4 0 ByteArray.empty [])) 4).kind), .int .i64 ((hmakeV (hmake hp0 (newO 4 0 ByteArray.empty [])) 4).p), .int .i64 ((hmakeV (hmake hp0 (newO 4 0 ByteArray.empty [])) 4).q), .string ((hmakeV (hmake hp0 (newO 4 0 ByteArray.empty [])) 4).str), .int .i64 ((hmakeV (hmake hp0 (newO 4 0 ByteArray.empty [])) 4).ref)] ?_
  refine sp (.int .i64 (hmakeE (hmake hp0 (newO 4 0 ByteArray.empty [])))) ?_
  refine s_nr ?_
  refine sp (pB hb4 0) ?_
  refine s_call [1] (hnewdata_s (st := (hmake (hmake hp0 (newO 4 0 ByteArray.empty [])) (newO 4 0 ByteArray.empty []))) (by have := hs10.len; omega) ⟨#[100]⟩) ?_
  rintro _ _ ⟨rfl, rfl⟩
  have hi13 := hdata_inv' hi9 ⟨#[100]⟩
  have hs14 := hdata_sm' hs10 ⟨#[100]⟩
  have hw15 := hdata_w hw11 ⟨#[100]⟩
  refine sp (.tuple #[.agg #[.int .i64 ((hdataV (hmake (hmake hp0 (newO 4 0 ByteArray.empty [])) (newO 4 0 ByteArray.empty [])) ⟨#[100]⟩).kind), .int .i64 ((hdataV (hmake (hmake hp0 (newO 4 0 ByteArray.empty [])) (newO 4 0 ByteArray.empty [])) ⟨#[100]⟩).p), .int .i64 ((hdataV (hmake (hmake hp0 (newO 4 0 ByteArray.empty [])) (newO 4 0 ByteArray.empty [])) ⟨#[100]⟩).q), .string ((hdataV (hmake (hmake hp0 (newO 4 0 ByteArray.empty [])) (newO 4 0 ByteArray.empty [])) ⟨#[100]⟩).str), .int .i64 ((hdataV (hmake (hmake hp0 (newO 4 0 ByteArray.empty [])) (newO 4 0 ByteArray.empty [])) ⟨#[100]⟩).ref)], .int .i64 (hdataE (hmake (hmake hp0 (newO 4 0 ByteArray.empty [])) (newO 4 0 ByteArray.empty [])) ⟨#[100]⟩)]) ?_
  refine sp (.agg #[.int .i64 ((hdataV (hmake (hmake hp0 (newO 4 0 ByteArray.empty [])) (newO 4 0 ByteArray.empty [])) ⟨#[100]⟩).kind), .int .i64 ((hdataV (hmake (hmake hp0 (newO 4 0 ByteArray.empty [])) (newO 4 0 ByteArray.empty [])) ⟨#[100]⟩).p), .int .i64 ((hdataV (hmake (hmake hp0 (newO 4 0 ByteArray.empty [])) (newO 4 0 ByteArray.empty [])) ⟨#[100]⟩).q), .string ((hdataV (hmake (hmake hp0 (newO 4 0 ByteArray.empty [])) (newO 4 0 ByteArray.empty [])) ⟨#[100]⟩).str), .int .i64 ((hdataV (hmake (hmake hp0 (newO 4 0 ByteArray.empty [])) (newO 4 0 ByteArray.empty [])) ⟨#[100]⟩).ref)]) ?_
  refine sp (.int .i64 (hdataE (hmake (hmake hp0 (newO 4 0 ByteArray.empty [])) (newO 4 0 ByteArray.empty [])) ⟨#[100]⟩)) ?_
  refine s_alloc (.agg #[.int .i64 0, .int .i64 0, .int .i64 0, .string ByteArray.empty, .int .i64 0]) #[.int .i64 0, .int .i64 0, .int .i64 0, .string ByteArray.empty, .int .i64 0] (fun g16 => ?_)
  refine s_store 0 #[.int .i64 ((hdataV (hmake (hmake hp0 (newO 4 0 ByteArray.empty [])) (newO 4 0 ByteArray.empty [])) ⟨#[100]⟩).kind), .int .i64 ((hdataV (hmake (hmake hp0 (newO 4 0 ByteArray.empty [])) (newO 4 0 ByteArray.empty [])) ⟨#[100]⟩).p), .int .i64 ((hdataV (hmake (hmake hp0 (newO 4 0 ByteArray.empty [])) (newO 4 0 ByteArray.empty [])) ⟨#[100]⟩).q), .string ((hdataV (hmake (hmake hp0 (newO 4 0 ByteArray.empty [])) (newO 4 0 ByteArray.empty [])) ⟨#[100]⟩).str), .int .i64 ((hdataV (hmake (hmake hp0 (newO 4 0 ByteArray.empty [])) (newO 4 0 ByteArray.empty [])) ⟨#[100]⟩).ref)] ?_
  refine sp (.int .i64 (hdataE (hmake (hmake hp0 (newO 4 0 ByteArray.empty [])) (newO 4 0 ByteArray.empty [])) ⟨#[100]⟩)) ?_
  refine s_nt ?_
  refine k_seq ?_
  refine k_sr ?_
  refine sp (.int .i64 (hmakeE hp0)) ?_
  refine s_lt (Lt.to t_cmp (congrArg Value.bool ((by kernel_rfl) : (decide ((hmakeE hp0) ≠ 0)) = false))) ?_
  refine sp (.bool false) ?_
  refine sp (.int .i64 (hmakeE (hmake hp0 (newO 4 0 ByteArray.empty [])))) ?_
  refine s_lt (Lt.to t_cmp (congrArg Value.bool ((by kernel_rfl) : (decide ((hmakeE (hmake hp0 (newO 4 0 ByteArray.empty []))) ≠ 0)) = false))) ?_
  refine sp (.bool false) ?_
  refine sp (.bool false) ?_
  refine sp (.int .i64 (hdataE (hmake (hmake hp0 (newO 4 0 ByteArray.empty [])) (newO 4 0 ByteArray.empty [])) ⟨#[100]⟩)) ?_
  refine s_lt (Lt.to t_cmp (congrArg Value.bool ((by kernel_rfl) : (decide ((hdataE (hmake (hmake hp0 (newO 4 0 ByteArray.empty [])) (newO 4 0 ByteArray.empty [])) ⟨#[100]⟩) ≠ 0)) = false))) ?_
  refine sp (.bool false) ?_
  refine sp (.bool false) ?_
  refine sp (pB hb4 0) ?_
  refine s_lt (t_loadA 3 #[.int .i64 ((hmakeV hp0 4).kind), .int .i64 ((hmakeV hp0 4).p), .int .i64 ((hmakeV hp0 4).q), .string ((hmakeV hp0 4).str), .int .i64 ((hmakeV hp0 4).ref)]) ?_
  refine s_lt (t_loadA 2 #[.int .i64 ((hmakeV (hmake hp0 (newO 4 0 ByteArray.empty [])) 4).kind), .int .i64 ((hmakeV (hmake hp0 (newO 4 0 ByteArray.empty [])) 4).p), .int .i64 ((hmakeV (hmake hp0 (newO 4 0 ByteArray.empty [])) 4).q), .string ((hmakeV (hmake hp0 (newO 4 0 ByteArray.empty [])) 4).str), .int .i64 ((hmakeV (hmake hp0 (newO 4 0 ByteArray.empty [])) 4).ref)]) ?_
  refine s_call [1] (hsetmeta_s (st := (hdata (hmake (hmake hp0 (newO 4 0 ByteArray.empty [])) (newO 4 0 ByteArray.empty [])) ⟨#[100]⟩)) (hmakeV hp0 4) (hmakeV (hmake hp0 (newO 4 0 ByteArray.empty [])) 4)) ?_
  rintro _ _ ⟨rfl, rfl⟩
  have hi17 := hsetMeta_inv hi13 (hmakeV hp0 4) (hmakeV (hmake hp0 (newO 4 0 ByteArray.empty [])) 4)
  have hs18 := hsetMeta_sm hs14 (hmakeV hp0 4) (hmakeV (hmake hp0 (newO 4 0 ByteArray.empty [])) 4)
  have hw19 := setMeta_w hw15 (hmakeV hp0 4) (hmakeV (hmake hp0 (newO 4 0 ByteArray.empty [])) 4)
  refine s_lt (Lt.to t_cmp (congrArg Value.bool ((by kernel_rfl) : (decide ((hsetMetaE (hdata (hmake (hmake hp0 (newO 4 0 ByteArray.empty [])) (newO 4 0 ByteArray.empty [])) ⟨#[100]⟩) (hmakeV hp0 4) (hmakeV (hmake hp0 (newO 4 0 ByteArray.empty [])) 4)) ≠ 0)) = false))) ?_
  refine sp (.bool false) ?_
  refine sp (.bool false) ?_
  refine sp (pB hb4 0) ?_
  refine s_lt (t_loadA 1 #[.int .i64 ((hdataV (hmake (hmake hp0 (newO 4 0 ByteArray.empty [])) (newO 4 0 ByteArray.empty [])) ⟨#[100]⟩).kind), .int .i64 ((hdataV (hmake (hmake hp0 (newO 4 0 ByteArray.empty [])) (newO 4 0 ByteArray.empty [])) ⟨#[100]⟩).p), .int .i64 ((hdataV (hmake (hmake hp0 (newO 4 0 ByteArray.empty [])) (newO 4 0 ByteArray.empty [])) ⟨#[100]⟩).q), .string ((hdataV (hmake (hmake hp0 (newO 4 0 ByteArray.empty [])) (newO 4 0 ByteArray.empty [])) ⟨#[100]⟩).str), .int .i64 ((hdataV (hmake (hmake hp0 (newO 4 0 ByteArray.empty [])) (newO 4 0 ByteArray.empty [])) ⟨#[100]⟩).ref)]) ?_
  refine s_lt (t_loadA 3 #[.int .i64 ((hmakeV hp0 4).kind), .int .i64 ((hmakeV hp0 4).p), .int .i64 ((hmakeV hp0 4).q), .string ((hmakeV hp0 4).str), .int .i64 ((hmakeV hp0 4).ref)]) ?_
  refine s_call [0] (hsetslot_s (st := (hsetMeta (hdata (hmake (hmake hp0 (newO 4 0 ByteArray.empty [])) (newO 4 0 ByteArray.empty [])) ⟨#[100]⟩) (hmakeV hp0 4) (hmakeV (hmake hp0 (newO 4 0 ByteArray.empty [])) 4))) hw19 (hdataV (hmake (hmake hp0 (newO 4 0 ByteArray.empty [])) (newO 4 0 ByteArray.empty [])) ⟨#[100]⟩) 1 (hmakeV hp0 4)) ?_
  rintro _ _ ⟨rfl, rfl⟩
  have hi20 := setSlot_inv hi17 (hdataV (hmake (hmake hp0 (newO 4 0 ByteArray.empty [])) (newO 4 0 ByteArray.empty [])) ⟨#[100]⟩) 1 (hmakeV hp0 4)
  have hs21 := setSlot_sm hs18 (hdataV (hmake (hmake hp0 (newO 4 0 ByteArray.empty [])) (newO 4 0 ByteArray.empty [])) ⟨#[100]⟩) 1 (hmakeV hp0 4)
  have hw22 := setSlot_w hw19 (hdataV (hmake (hmake hp0 (newO 4 0 ByteArray.empty [])) (newO 4 0 ByteArray.empty [])) ⟨#[100]⟩) 1 (hmakeV hp0 4)
  refine s_lt (Lt.to t_cmp (congrArg Value.bool ((by kernel_rfl) : (decide ((hsetSlotE (hsetMeta (hdata (hmake (hmake hp0 (newO 4 0 ByteArray.empty [])) (newO 4 0 ByteArray.empty [])) ⟨#[100]⟩) (hmakeV hp0 4) (hmakeV (hmake hp0 (newO 4 0 ByteArray.empty [])) 4)) (hdataV (hmake (hmake hp0 (newO 4 0 ByteArray.empty [])) (newO 4 0 ByteArray.empty [])) ⟨#[100]⟩) 1 (hmakeV hp0 4)) ≠ 0)) = false))) ?_
  refine sp (.bool false) ?_
  refine sp (.bool false) ?_
  refine sp (pB hb4 0) ?_
  refine s_lt (t_loadA 1 #[.int .i64 ((hdataV (hmake (hmake hp0 (newO 4 0 ByteArray.empty [])) (newO 4 0 ByteArray.empty [])) ⟨#[100]⟩).kind), .int .i64 ((hdataV (hmake (hmake hp0 (newO 4 0 ByteArray.empty [])) (newO 4 0 ByteArray.empty [])) ⟨#[100]⟩).p), .int .i64 ((hdataV (hmake (hmake hp0 (newO 4 0 ByteArray.empty [])) (newO 4 0 ByteArray.empty [])) ⟨#[100]⟩).q), .string ((hdataV (hmake (hmake hp0 (newO 4 0 ByteArray.empty [])) (newO 4 0 ByteArray.empty [])) ⟨#[100]⟩).str), .int .i64 ((hdataV (hmake (hmake hp0 (newO 4 0 ByteArray.empty [])) (newO 4 0 ByteArray.empty [])) ⟨#[100]⟩).ref)]) ?_
  refine s_lt (t_loadA 2 #[.int .i64 ((hmakeV (hmake hp0 (newO 4 0 ByteArray.empty [])) 4).kind), .int .i64 ((hmakeV (hmake hp0 (newO 4 0 ByteArray.empty [])) 4).p), .int .i64 ((hmakeV (hmake hp0 (newO 4 0 ByteArray.empty [])) 4).q), .string ((hmakeV (hmake hp0 (newO 4 0 ByteArray.empty [])) 4).str), .int .i64 ((hmakeV (hmake hp0 (newO 4 0 ByteArray.empty [])) 4).ref)]) ?_
  refine s_call [0] (hsetmeta_s (st := (hsetSlot (hsetMeta (hdata (hmake (hmake hp0 (newO 4 0 ByteArray.empty [])) (newO 4 0 ByteArray.empty [])) ⟨#[100]⟩) (hmakeV hp0 4) (hmakeV (hmake hp0 (newO 4 0 ByteArray.empty [])) 4)) (hdataV (hmake (hmake hp0 (newO 4 0 ByteArray.empty [])) (newO 4 0 ByteArray.empty [])) ⟨#[100]⟩) 1 (hmakeV hp0 4))) (hdataV (hmake (hmake hp0 (newO 4 0 ByteArray.empty [])) (newO 4 0 ByteArray.empty [])) ⟨#[100]⟩) (hmakeV (hmake hp0 (newO 4 0 ByteArray.empty [])) 4)) ?_
  rintro _ _ ⟨rfl, rfl⟩
  have hi23 := hsetMeta_inv hi20 (hdataV (hmake (hmake hp0 (newO 4 0 ByteArray.empty [])) (newO 4 0 ByteArray.empty [])) ⟨#[100]⟩) (hmakeV (hmake hp0 (newO 4 0 ByteArray.empty [])) 4)
  have hs24 := hsetMeta_sm hs21 (hdataV (hmake (hmake hp0 (newO 4 0 ByteArray.empty [])) (newO 4 0 ByteArray.empty [])) ⟨#[100]⟩) (hmakeV (hmake hp0 (newO 4 0 ByteArray.empty [])) 4)
  have hw25 := setMeta_w hw22 (hdataV (hmake (hmake hp0 (newO 4 0 ByteArray.empty [])) (newO 4 0 ByteArray.empty [])) ⟨#[100]⟩) (hmakeV (hmake hp0 (newO 4 0 ByteArray.empty [])) 4)
  refine s_lt (Lt.to t_cmp (congrArg Value.bool ((by kernel_rfl) : (decide ((hsetMetaE (hsetSlot (hsetMeta (hdata (hmake (hmake hp0 (newO 4 0 ByteArray.empty [])) (newO 4 0 ByteArray.empty [])) ⟨#[100]⟩) (hmakeV hp0 4) (hmakeV (hmake hp0 (newO 4 0 ByteArray.empty [])) 4)) (hdataV (hmake (hmake hp0 (newO 4 0 ByteArray.empty [])) (newO 4 0 ByteArray.empty [])) ⟨#[100]⟩) 1 (hmakeV hp0 4)) (hdataV (hmake (hmake hp0 (newO 4 0 ByteArray.empty [])) (newO 4 0 ByteArray.empty [])) ⟨#[100]⟩) (hmakeV (hmake hp0 (newO 4 0 ByteArray.empty [])) 4)) ≠ 0)) = false))) ?_
  refine sp (.bool false) ?_
  refine s_nt ?_
  refine k_false ?_
  refine k_st ?_
  refine k_sr ?_
  refine sp (.int .i64 0) ?_
  refine s_nt ?_
  refine k_seq ?_
  refine k_sr ?_
  refine sp lv ?_
  refine s_lt (t_len VlT_ok Try.underlying22 (.zn hL)) ?_
  refine sp (.int .i64 0) ?_
  refine s_nt ?_
  refine k_block ?_
  have hwk := wk_inv hi23 hs24 hw25 l
  refine k_mem (Bs := [hpA hb4 (wkH l 0), blkA g16 #[.int .i64 ((hdataV (hmake (hmake hp0 (newO 4 0 ByteArray.empty [])) (newO 4 0 ByteArray.empty [])) ⟨#[100]⟩).kind), .int .i64 ((hdataV (hmake (hmake hp0 (newO 4 0 ByteArray.empty [])) (newO 4 0 ByteArray.empty [])) ⟨#[100]⟩).p), .int .i64 ((hdataV (hmake (hmake hp0 (newO 4 0 ByteArray.empty [])) (newO 4 0 ByteArray.empty [])) ⟨#[100]⟩).q), .string ((hdataV (hmake (hmake hp0 (newO 4 0 ByteArray.empty [])) (newO 4 0 ByteArray.empty [])) ⟨#[100]⟩).str), .int .i64 ((hdataV (hmake (hmake hp0 (newO 4 0 ByteArray.empty [])) (newO 4 0 ByteArray.empty [])) ⟨#[100]⟩).ref)] 26, blkA g12 #[.int .i64 ((hmakeV (hmake hp0 (newO 4 0 ByteArray.empty [])) 4).kind), .int .i64 ((hmakeV (hmake hp0 (newO 4 0 ByteArray.empty [])) 4).p), .int .i64 ((hmakeV (hmake hp0 (newO 4 0 ByteArray.empty [])) 4).q), .string ((hmakeV (hmake hp0 (newO 4 0 ByteArray.empty [])) 4).str), .int .i64 ((hmakeV (hmake hp0 (newO 4 0 ByteArray.empty [])) 4).ref)] 26, blkA g8 #[.int .i64 ((hmakeV hp0 4).kind), .int .i64 ((hmakeV hp0 4).p), .int .i64 ((hmakeV hp0 4).q), .string ((hmakeV hp0 4).str), .int .i64 ((hmakeV hp0 4).ref)] 26]) (fun _ h => h) ?_
  refine k_loop (ι := Nat) (fun i => i ≤ l.length) (fun i => [(0, lv), (1, .int .i64 weak), (5, pB hb4 0), (6, pB g8 0), (8, pB g12 0), (10, pB g16 0), (12, .int .i64 ((entsOf (wkT l i)).length : Int)), (71, .int .i64 (l.length : Int)), (72, .int .i64 (i : Int))]) (fun i => [hpA hb4 (wkH l i), blkA g16 #[.int .i64 ((hdataV (hmake (hmake hp0 (newO 4 0 ByteArray.empty [])) (newO 4 0 ByteArray.empty [])) ⟨#[100]⟩).kind), .int .i64 ((hdataV (hmake (hmake hp0 (newO 4 0 ByteArray.empty [])) (newO 4 0 ByteArray.empty [])) ⟨#[100]⟩).p), .int .i64 ((hdataV (hmake (hmake hp0 (newO 4 0 ByteArray.empty [])) (newO 4 0 ByteArray.empty [])) ⟨#[100]⟩).q), .string ((hdataV (hmake (hmake hp0 (newO 4 0 ByteArray.empty [])) (newO 4 0 ByteArray.empty [])) ⟨#[100]⟩).str), .int .i64 ((hdataV (hmake (hmake hp0 (newO 4 0 ByteArray.empty [])) (newO 4 0 ByteArray.empty [])) ⟨#[100]⟩).ref)] 26, blkA g12 #[.int .i64 ((hmakeV (hmake hp0 (newO 4 0 ByteArray.empty [])) 4).kind), .int .i64 ((hmakeV (hmake hp0 (newO 4 0 ByteArray.empty [])) 4).p), .int .i64 ((hmakeV (hmake hp0 (newO 4 0 ByteArray.empty [])) 4).q), .string ((hmakeV (hmake hp0 (newO 4 0 ByteArray.empty [])) 4).str), .int .i64 ((hmakeV (hmake hp0 (newO 4 0 ByteArray.empty [])) 4).ref)] 26, blkA g8 #[.int .i64 ((hmakeV hp0 4).kind), .int .i64 ((hmakeV hp0 4).p), .int .i64 ((hmakeV hp0 4).q), .string ((hmakeV hp0 4).str), .int .i64 ((hmakeV hp0 4).ref)] 26]) (fun i => l.length - i) 0 (Nat.zero_le _) (sub_of rfl ⟨⟨rfl, rfl⟩, ⟨⟨rfl, rfl⟩, ⟨⟨rfl, rfl⟩, ⟨⟨rfl, rfl⟩, ⟨⟨rfl, rfl⟩, ⟨⟨rfl, rfl⟩, ⟨⟨rfl, rfl⟩, ⟨⟨rfl, rfl⟩, ⟨⟨rfl, rfl⟩, trivial⟩⟩⟩⟩⟩⟩⟩⟩⟩) (fun _ h => h.re [0, 0, 0, 0] []) ?_
  rintro i hi26
  show SK _ _ _ _ _ [(0, lv), (1, .int .i64 weak), (5, .pointer (some ⟨hb4, 0, none⟩)), (6, .pointer (some ⟨g8, 0, none⟩)), (8, .pointer (some ⟨g12, 0, none⟩)), (10, .pointer (some ⟨g16, 0, none⟩)), (12, .int .i64 ((entsOf (wkT l i)).length : Int)), (71, .int .i64 (l.length : Int)), (72, .int .i64 (i : Int))] _ [hpA hb4 (wkH l i), blkA g16 #[.int .i64 ((hdataV (hmake (hmake hp0 (newO 4 0 ByteArray.empty [])) (newO 4 0 ByteArray.empty [])) ⟨#[100]⟩).kind), .int .i64 ((hdataV (hmake (hmake hp0 (newO 4 0 ByteArray.empty [])) (newO 4 0 ByteArray.empty [])) ⟨#[100]⟩).p), .int .i64 ((hdataV (hmake (hmake hp0 (newO 4 0 ByteArray.empty [])) (newO 4 0 ByteArray.empty [])) ⟨#[100]⟩).q), .string ((hdataV (hmake (hmake hp0 (newO 4 0 ByteArray.empty [])) (newO 4 0 ByteArray.empty [])) ⟨#[100]⟩).str), .int .i64 ((hdataV (hmake (hmake hp0 (newO 4 0 ByteArray.empty [])) (newO 4 0 ByteArray.empty [])) ⟨#[100]⟩).ref)] 26, blkA g12 #[.int .i64 ((hmakeV (hmake hp0 (newO 4 0 ByteArray.empty [])) 4).kind), .int .i64 ((hmakeV (hmake hp0 (newO 4 0 ByteArray.empty [])) 4).p), .int .i64 ((hmakeV (hmake hp0 (newO 4 0 ByteArray.empty [])) 4).q), .string ((hmakeV (hmake hp0 (newO 4 0 ByteArray.empty [])) 4).str), .int .i64 ((hmakeV (hmake hp0 (newO 4 0 ByteArray.empty [])) 4).ref)] 26, blkA g8 #[.int .i64 ((hmakeV hp0 4).kind), .int .i64 ((hmakeV hp0 4).p), .int .i64 ((hmakeV hp0 4).q), .string ((hmakeV hp0 4).str), .int .i64 ((hmakeV hp0 4).ref)] 26]
  obtain ⟨hi, hsm, hw, ki⟩ := hwk i
  have hen0 := wk_entlen l i (by omega) (by omega)
  refine k_sr ?_
  refine s_lt t_cmp ?_
  refine s_nt ?_
  refine k_seq ?_
  refine k_cond (decide ((i : Int) < (l.length : Int))) (fun c27 => ?_) (fun c27 => ?_)
  ·
   have p28 := of_decide_eq_true c27
   refine k_st ?_
   refine k_seq ?_
   refine k_block ?_
   refine k_sr ?_
   refine sp (.int .i64 (i : Int)) ?_
   refine sp (.int .i64 (i : Int)) ?_
   refine s_nt ?_
   obtain ⟨y29, hy30⟩ : ∃ y, l[i]? = some y := ⟨_, List.getElem?_eq_getElem (by (try simp only [lnm]); omega)⟩
   have hen := wk_ents l (by omega) hy30
   have hsu := wk_succ hy30
   rcases hv : validB y29 with _ | _
   ·
    rw [if_neg (fun q => by first | exact absurd (q.1.symm.trans hv) (by decide) | exact absurd (q.2.symm.trans hr) (by decide))] at hen
    have hel : ((entsOf (wkT l (i + 1))).length : Int) = ((entsOf (wkT l i)).length : Int) := by rw [hen]
    refine k_seq ?_
    refine k_held [blkA g16 #[.int .i64 ((hdataV (hmake (hmake hp0 (newO 4 0 ByteArray.empty [])) (newO 4 0 ByteArray.empty [])) ⟨#[100]⟩).kind), .int .i64 ((hdataV (hmake (hmake hp0 (newO 4 0 ByteArray.empty [])) (newO 4 0 ByteArray.empty [])) ⟨#[100]⟩).p), .int .i64 ((hdataV (hmake (hmake hp0 (newO 4 0 ByteArray.empty [])) (newO 4 0 ByteArray.empty [])) ⟨#[100]⟩).q), .string ((hdataV (hmake (hmake hp0 (newO 4 0 ByteArray.empty [])) (newO 4 0 ByteArray.empty [])) ⟨#[100]⟩).str), .int .i64 ((hdataV (hmake (hmake hp0 (newO 4 0 ByteArray.empty [])) (newO 4 0 ByteArray.empty [])) ⟨#[100]⟩).ref)] 26, blkA g12 #[.int .i64 ((hmakeV (hmake hp0 (newO 4 0 ByteArray.empty [])) 4).kind), .int .i64 ((hmakeV (hmake hp0 (newO 4 0 ByteArray.empty [])) 4).p), .int .i64 ((hmakeV (hmake hp0 (newO 4 0 ByteArray.empty [])) 4).q), .string ((hmakeV (hmake hp0 (newO 4 0 ByteArray.empty [])) 4).str), .int .i64 ((hmakeV (hmake hp0 (newO 4 0 ByteArray.empty [])) 4).ref)] 26, blkA g8 #[.int .i64 ((hmakeV hp0 4).kind), .int .i64 ((hmakeV hp0 4).p), .int .i64 ((hmakeV hp0 4).q), .string ((hmakeV hp0 4).str), .int .i64 ((hmakeV hp0 4).ref)] 26] ?_
    refine hp_ 0 [1, 1, 1] (pB hb4 0) ?_
    refine h_l 1 rfl [1, 1, 1] (fun _ => (t_loadA 2 #[.int .i64 ((hmakeV hp0 4).kind), .int .i64 ((hmakeV hp0 4).p), .int .i64 ((hmakeV hp0 4).q), .string ((hmakeV hp0 4).str), .int .i64 ((hmakeV hp0 4).ref)])) ?_
    refine hp_ 2 [1, 1, 1] (.int .i64 (i : Int)) ?_
    refine h_l 3 rfl [1, 1, 1] (fun _ => (t_add (i : Int) 1 (by (try simp only [lnm]); omega))) ?_
    refine hp_ 5 [1, 1, 1] lv ?_
    refine hp_ 6 [1, 1, 1] (.int .i64 (i : Int)) ?_
    refine h_l 7 rfl [1, 1, 1] (fun _ => (t_index VlT_ok Try.underlying22 (.zn hL) (i : Int) i (by omega) (by (try simp only [lnm]); omega) (by omega))) ?_
    refine h_l 8 rfl [1, 1, 1] (fun _ => (t_loadE VlT_ok (.zn hL) hy30)) ?_
    refine h_stepS 4 ?_
    refine s_vcall (fun _ h => lnum_s ((i : Int) + 1)) ?_
    rintro _ rfl
    refine s_nil (xs_held [1, 1, 1] ?_)
    refine h_stepS 9 ?_
    refine s_call [0] (hset_s (st := (wkH l i)) hsm (by omega) (hmakeV hp0 4) (numV ((i : Int) + 1)) y29) ?_
    rintro _ _ ⟨rfl, rfl⟩
    refine s_nil (xs_held [1, 1, 1] ?_)
    refine h_l 10 rfl [1, 1, 1] (fun _ => (Lt.to t_cmp (congrArg Value.bool (decide_eq_false (fun h => by rw [(ki.setE (by omega) y29).1 h] at hv; cases hv) : (decide ((hsetE (wkH l i) (hmakeV hp0 4) (numV ((i : Int) + 1)) y29) = 0)) = false)))) ?_
    refine hp_ 11 [1, 1, 1] (.bool false) ?_
    refine h_sk 12 [1, 1, 1] ?_
    refine h_sk 13 [1, 1, 1] ?_
    refine h_sk 14 [1, 1, 1] ?_
    refine h_sk 15 [1, 1, 1] ?_
    refine h_stepS 16 ?_
    refine s_skip ?_
    refine s_nil (xs_held [1, 1, 1] ?_)
    refine hp_ 17 [1, 1, 1] (.bool false) ?_
    refine h_doneS ?_
    refine xs_then ?_
    refine k_false ?_
    refine k_skip ?_
    refine xs_block ?_
    refine xs_then ?_
    refine k_reg ?_
    refine s_lt (t_add (i : Int) 1 (by (try simp only [lnm]); omega)) ?_
    refine sp (.int .i64 ((i : Int) + 1)) ?_
    refine s_nil ?_
    refine xs_mem (Bs := [hpA hb4 (wkH l (i + 1)), blkA g16 #[.int .i64 ((hdataV (hmake (hmake hp0 (newO 4 0 ByteArray.empty [])) (newO 4 0 ByteArray.empty [])) ⟨#[100]⟩).kind), .int .i64 ((hdataV (hmake (hmake hp0 (newO 4 0 ByteArray.empty [])) (newO 4 0 ByteArray.empty [])) ⟨#[100]⟩).p), .int .i64 ((hdataV (hmake (hmake hp0 (newO 4 0 ByteArray.empty [])) (newO 4 0 ByteArray.empty [])) ⟨#[100]⟩).q), .string ((hdataV (hmake (hmake hp0 (newO 4 0 ByteArray.empty [])) (newO 4 0 ByteArray.empty [])) ⟨#[100]⟩).str), .int .i64 ((hdataV (hmake (hmake hp0 (newO 4 0 ByteArray.empty [])) (newO 4 0 ByteArray.empty [])) ⟨#[100]⟩).ref)] 26, blkA g12 #[.int .i64 ((hmakeV (hmake hp0 (newO 4 0 ByteArray.empty [])) 4).kind), .int .i64 ((hmakeV (hmake hp0 (newO 4 0 ByteArray.empty [])) 4).p), .int .i64 ((hmakeV (hmake hp0 (newO 4 0 ByteArray.empty [])) 4).q), .string ((hmakeV (hmake hp0 (newO 4 0 ByteArray.empty [])) 4).str), .int .i64 ((hmakeV (hmake hp0 (newO 4 0 ByteArray.empty [])) 4).ref)] 26, blkA g8 #[.int .i64 ((hmakeV hp0 4).kind), .int .i64 ((hmakeV hp0 4).p), .int .i64 ((hmakeV hp0 4).q), .string ((hmakeV hp0 4).str), .int .i64 ((hmakeV hp0 4).ref)] 26]) (fun _ h => by rw [hsu]; exact h) ?_
    exact xs_round (i + 1) (by omega) (by omega) (sub_of rfl ⟨⟨rfl, rfl⟩, ⟨⟨rfl, rfl⟩, ⟨⟨rfl, rfl⟩, ⟨⟨rfl, rfl⟩, ⟨⟨rfl, rfl⟩, ⟨⟨rfl, rfl⟩, ⟨⟨rfl, congrArg (Value.int .i64) hel.symm⟩, ⟨⟨rfl, rfl⟩, ⟨⟨rfl, rfl⟩, trivial⟩⟩⟩⟩⟩⟩⟩⟩⟩) (fun _ h => h.re [0, 0, 0, 0] [])
   ·
    rcases hr : isRef y29.kind with _ | _
    ·
     rw [if_neg (fun q => by first | exact absurd (q.1.symm.trans hv) (by decide) | exact absurd (q.2.symm.trans hr) (by decide))] at hen
     have hel : ((entsOf (wkT l (i + 1))).length : Int) = ((entsOf (wkT l i)).length : Int) := by rw [hen]
     refine k_seq ?_
     refine k_held [blkA g16 #[.int .i64 ((hdataV (hmake (hmake hp0 (newO 4 0 ByteArray.empty [])) (newO 4 0 ByteArray.empty [])) ⟨#[100]⟩).kind), .int .i64 ((hdataV (hmake (hmake hp0 (newO 4 0 ByteArray.empty [])) (newO 4 0 ByteArray.empty [])) ⟨#[100]⟩).p), .int .i64 ((hdataV (hmake (hmake hp0 (newO 4 0 ByteArray.empty [])) (newO 4 0 ByteArray.empty [])) ⟨#[100]⟩).q), .string ((hdataV (hmake (hmake hp0 (newO 4 0 ByteArray.empty [])) (newO 4 0 ByteArray.empty [])) ⟨#[100]⟩).str), .int .i64 ((hdataV (hmake (hmake hp0 (newO 4 0 ByteArray.empty [])) (newO 4 0 ByteArray.empty [])) ⟨#[100]⟩).ref)] 26, blkA g12 #[.int .i64 ((hmakeV (hmake hp0 (newO 4 0 ByteArray.empty [])) 4).kind), .int .i64 ((hmakeV (hmake hp0 (newO 4 0 ByteArray.empty [])) 4).p), .int .i64 ((hmakeV (hmake hp0 (newO 4 0 ByteArray.empty [])) 4).q), .string ((hmakeV (hmake hp0 (newO 4 0 ByteArray.empty [])) 4).str), .int .i64 ((hmakeV (hmake hp0 (newO 4 0 ByteArray.empty [])) 4).ref)] 26, blkA g8 #[.int .i64 ((hmakeV hp0 4).kind), .int .i64 ((hmakeV hp0 4).p), .int .i64 ((hmakeV hp0 4).q), .string ((hmakeV hp0 4).str), .int .i64 ((hmakeV hp0 4).ref)] 26] ?_
     refine hp_ 0 [1, 1, 1] (pB hb4 0) ?_
     refine h_l 1 rfl [1, 1, 1] (fun _ => (t_loadA 2 #[.int .i64 ((hmakeV hp0 4).kind), .int .i64 ((hmakeV hp0 4).p), .int .i64 ((hmakeV hp0 4).q), .string ((hmakeV hp0 4).str), .int .i64 ((hmakeV hp0 4).ref)])) ?_
     refine hp_ 2 [1, 1, 1] (.int .i64 (i : Int)) ?_
     refine h_l 3 rfl [1, 1, 1] (fun _ => (t_add (i : Int) 1 (by (try simp only [lnm]); omega))) ?_
     refine hp_ 5 [1, 1, 1] lv ?_
     refine hp_ 6 [1, 1, 1] (.int .i64 (i : Int)) ?_
     refine h_l 7 rfl [1, 1, 1] (fun _ => (t_index VlT_ok Try.underlying22 (.zn hL) (i : Int) i (by omega) (by (try simp only [lnm]); omega) (by omega))) ?_
     refine h_l 8 rfl [1, 1, 1] (fun _ => (t_loadE VlT_ok (.zn hL) hy30)) ?_
     refine h_stepS 4 ?_
     refine s_vcall (fun _ h => lnum_s ((i : Int) + 1)) ?_
     rintro _ rfl
     refine s_nil (xs_held [1, 1, 1] ?_)
     refine h_stepS 9 ?_
     refine s_call [0] (hset_s (st := (wkH l i)) hsm (by omega) (hmakeV hp0 4) (numV ((i : Int) + 1)) y29) ?_
     rintro _ _ ⟨rfl, rfl⟩
     refine s_nil (xs_held [1, 1, 1] ?_)
     refine h_l 10 rfl [1, 1, 1] (fun _ => (Lt.to t_cmp (congrArg Value.bool (decide_eq_true ((ki.setE (by omega) y29).2 hv) : (decide ((hsetE (wkH l i) (hmakeV hp0 4) (numV ((i : Int) + 1)) y29) = 0)) = true)))) ?_
     refine hp_ 11 [1, 1, 1] (.bool true) ?_
     refine hp_ 12 [1, 1, 1] lv ?_
     refine hp_ 13 [1, 1, 1] (.int .i64 (i : Int)) ?_
     refine h_l 14 rfl [1, 1, 1] (fun _ => (t_index VlT_ok Try.underlying22 (.zn hL) (i : Int) i (by omega) (by (try simp only [lnm]); omega) (by omega))) ?_
     refine h_l 15 rfl [1, 1, 1] (fun _ => (t_loadE VlT_ok (.zn hL) hy30)) ?_
     refine h_stepS 16 ?_
     refine s_vcall (fun _ h => lref_s y29) ?_
     rintro u32 e31
     obtain rfl : u32 = .bool false := e31.trans (congrArg Value.bool (hr))
     refine s_nil (xs_held [1, 1, 1] ?_)
     refine hp_ 17 [1, 1, 1] (.bool false) ?_
     refine h_doneS ?_
     refine xs_then ?_
     refine k_false ?_
     refine k_skip ?_
     refine xs_block ?_
     refine xs_then ?_
     refine k_reg ?_
     refine s_lt (t_add (i : Int) 1 (by (try simp only [lnm]); omega)) ?_
     refine sp (.int .i64 ((i : Int) + 1)) ?_
     refine s_nil ?_
     refine xs_mem (Bs := [hpA hb4 (wkH l (i + 1)), blkA g16 #[.int .i64 ((hdataV (hmake (hmake hp0 (newO 4 0 ByteArray.empty [])) (newO 4 0 ByteArray.empty [])) ⟨#[100]⟩).kind), .int .i64 ((hdataV (hmake (hmake hp0 (newO 4 0 ByteArray.empty [])) (newO 4 0 ByteArray.empty [])) ⟨#[100]⟩).p), .int .i64 ((hdataV (hmake (hmake hp0 (newO 4 0 ByteArray.empty [])) (newO 4 0 ByteArray.empty [])) ⟨#[100]⟩).q), .string ((hdataV (hmake (hmake hp0 (newO 4 0 ByteArray.empty [])) (newO 4 0 ByteArray.empty [])) ⟨#[100]⟩).str), .int .i64 ((hdataV (hmake (hmake hp0 (newO 4 0 ByteArray.empty [])) (newO 4 0 ByteArray.empty [])) ⟨#[100]⟩).ref)] 26, blkA g12 #[.int .i64 ((hmakeV (hmake hp0 (newO 4 0 ByteArray.empty [])) 4).kind), .int .i64 ((hmakeV (hmake hp0 (newO 4 0 ByteArray.empty [])) 4).p), .int .i64 ((hmakeV (hmake hp0 (newO 4 0 ByteArray.empty [])) 4).q), .string ((hmakeV (hmake hp0 (newO 4 0 ByteArray.empty [])) 4).str), .int .i64 ((hmakeV (hmake hp0 (newO 4 0 ByteArray.empty [])) 4).ref)] 26, blkA g8 #[.int .i64 ((hmakeV hp0 4).kind), .int .i64 ((hmakeV hp0 4).p), .int .i64 ((hmakeV hp0 4).q), .string ((hmakeV hp0 4).str), .int .i64 ((hmakeV hp0 4).ref)] 26]) (fun _ h => by rw [hsu]; exact h) ?_
     exact xs_round (i + 1) (by omega) (by omega) (sub_of rfl ⟨⟨rfl, rfl⟩, ⟨⟨rfl, rfl⟩, ⟨⟨rfl, rfl⟩, ⟨⟨rfl, rfl⟩, ⟨⟨rfl, rfl⟩, ⟨⟨rfl, rfl⟩, ⟨⟨rfl, congrArg (Value.int .i64) hel.symm⟩, ⟨⟨rfl, rfl⟩, ⟨⟨rfl, rfl⟩, trivial⟩⟩⟩⟩⟩⟩⟩⟩⟩) (fun _ h => h.re [0, 0, 0, 0] [])
    ·
     rw [if_pos ⟨hv, hr⟩] at hen
     have hel : ((entsOf (wkT l (i + 1))).length : Int) = ((entsOf (wkT l i)).length : Int) + 1 := by rw [hen]; rw [List.length_append]; rfl
     refine k_seq ?_
     refine k_held [blkA g16 #[.int .i64 ((hdataV (hmake (hmake hp0 (newO 4 0 ByteArray.empty [])) (newO 4 0 ByteArray.empty [])) ⟨#[100]⟩).kind), .int .i64 ((hdataV (hmake (hmake hp0 (newO 4 0 ByteArray.empty [])) (newO 4 0 ByteArray.empty [])) ⟨#[100]⟩).p), .int .i64 ((hdataV (hmake (hmake hp0 (newO 4 0 ByteArray.empty [])) (newO 4 0 ByteArray.empty [])) ⟨#[100]⟩).q), .string ((hdataV (hmake (hmake hp0 (newO 4 0 ByteArray.empty [])) (newO 4 0 ByteArray.empty [])) ⟨#[100]⟩).str), .int .i64 ((hdataV (hmake (hmake hp0 (newO 4 0 ByteArray.empty [])) (newO 4 0 ByteArray.empty [])) ⟨#[100]⟩).ref)] 26, blkA g12 #[.int .i64 ((hmakeV (hmake hp0 (newO 4 0 ByteArray.empty [])) 4).kind), .int .i64 ((hmakeV (hmake hp0 (newO 4 0 ByteArray.empty [])) 4).p), .int .i64 ((hmakeV (hmake hp0 (newO 4 0 ByteArray.empty [])) 4).q), .string ((hmakeV (hmake hp0 (newO 4 0 ByteArray.empty [])) 4).str), .int .i64 ((hmakeV (hmake hp0 (newO 4 0 ByteArray.empty [])) 4).ref)] 26, blkA g8 #[.int .i64 ((hmakeV hp0 4).kind), .int .i64 ((hmakeV hp0 4).p), .int .i64 ((hmakeV hp0 4).q), .string ((hmakeV hp0 4).str), .int .i64 ((hmakeV hp0 4).ref)] 26] ?_
     refine hp_ 0 [1, 1, 1] (pB hb4 0) ?_
     refine h_l 1 rfl [1, 1, 1] (fun _ => (t_loadA 2 #[.int .i64 ((hmakeV hp0 4).kind), .int .i64 ((hmakeV hp0 4).p), .int .i64 ((hmakeV hp0 4).q), .string ((hmakeV hp0 4).str), .int .i64 ((hmakeV hp0 4).ref)])) ?_
     refine hp_ 2 [1, 1, 1] (.int .i64 (i : Int)) ?_
     refine h_l 3 rfl [1, 1, 1] (fun _ => (t_add (i : Int) 1 (by (try simp only [lnm]); omega))) ?_
     refine hp_ 5 [1, 1, 1] lv ?_
     refine hp_ 6 [1, 1, 1] (.int .i64 (i : Int)) ?_
     refine h_l 7 rfl [1, 1, 1] (fun _ => (t_index VlT_ok Try.underlying22 (.zn hL) (i : Int) i (by omega) (by (try simp only [lnm]); omega) (by omega))) ?_
     refine h_l 8 rfl [1, 1, 1] (fun _ => (t_loadE VlT_ok (.zn hL) hy30)) ?_
     refine h_stepS 4 ?_
     refine s_vcall (fun _ h => lnum_s ((i : Int) + 1)) ?_
     rintro _ rfl
     refine s_nil (xs_held [1, 1, 1] ?_)
     refine h_stepS 9 ?_
     refine s_call [0] (hset_s (st := (wkH l i)) hsm (by omega) (hmakeV hp0 4) (numV ((i : Int) + 1)) y29) ?_
     rintro _ _ ⟨rfl, rfl⟩
     refine s_nil (xs_held [1, 1, 1] ?_)
     refine h_l 10 rfl [1, 1, 1] (fun _ => (Lt.to t_cmp (congrArg Value.bool (decide_eq_true ((ki.setE (by omega) y29).2 hv) : (decide ((hsetE (wkH l i) (hmakeV hp0 4) (numV ((i : Int) + 1)) y29) = 0)) = true)))) ?_
     refine hp_ 11 [1, 1, 1] (.bool true) ?_
     refine hp_ 12 [1, 1, 1] lv ?_
     refine hp_ 13 [1, 1, 1] (.int .i64 (i : Int)) ?_
     refine h_l 14 rfl [1, 1, 1] (fun _ => (t_index VlT_ok Try.underlying22 (.zn hL) (i : Int) i (by omega) (by (try simp only [lnm]); omega) (by omega))) ?_
     refine h_l 15 rfl [1, 1, 1] (fun _ => (t_loadE VlT_ok (.zn hL) hy30)) ?_
     refine h_stepS 16 ?_
     refine s_vcall (fun _ h => lref_s y29) ?_
     rintro u34 e33
     obtain rfl : u34 = .bool true := e33.trans (congrArg Value.bool (hr))
     refine s_nil (xs_held [1, 1, 1] ?_)
     refine hp_ 17 [1, 1, 1] (.bool true) ?_
     refine h_doneS ?_
     refine xs_then ?_
     refine k_true ?_
     refine k_reg ?_
     refine sp (.int .i64 ((entsOf (wkT l i)).length : Int)) ?_
     refine s_lt (t_add ((entsOf (wkT l i)).length : Int) 1 (by (try simp only [lnm]); omega)) ?_
     refine sp (.int .i64 (((entsOf (wkT l i)).length : Int) + 1)) ?_
     refine s_nil ?_
     refine xs_block ?_
     refine xs_then ?_
     refine k_reg ?_
     refine s_lt (t_add (i : Int) 1 (by (try simp only [lnm]); omega)) ?_
     refine sp (.int .i64 ((i : Int) + 1)) ?_
     refine s_nil ?_
     refine xs_mem (Bs := [hpA hb4 (wkH l (i + 1)), blkA g16 #[.int .i64 ((hdataV (hmake (hmake hp0 (newO 4 0 ByteArray.empty [])) (newO 4 0 ByteArray.empty [])) ⟨#[100]⟩).kind), .int .i64 ((hdataV (hmake (hmake hp0 (newO 4 0 ByteArray.empty [])) (newO 4 0 ByteArray.empty [])) ⟨#[100]⟩).p), .int .i64 ((hdataV (hmake (hmake hp0 (newO 4 0 ByteArray.empty [])) (newO 4 0 ByteArray.empty [])) ⟨#[100]⟩).q), .string ((hdataV (hmake (hmake hp0 (newO 4 0 ByteArray.empty [])) (newO 4 0 ByteArray.empty [])) ⟨#[100]⟩).str), .int .i64 ((hdataV (hmake (hmake hp0 (newO 4 0 ByteArray.empty [])) (newO 4 0 ByteArray.empty [])) ⟨#[100]⟩).ref)] 26, blkA g12 #[.int .i64 ((hmakeV (hmake hp0 (newO 4 0 ByteArray.empty [])) 4).kind), .int .i64 ((hmakeV (hmake hp0 (newO 4 0 ByteArray.empty [])) 4).p), .int .i64 ((hmakeV (hmake hp0 (newO 4 0 ByteArray.empty [])) 4).q), .string ((hmakeV (hmake hp0 (newO 4 0 ByteArray.empty [])) 4).str), .int .i64 ((hmakeV (hmake hp0 (newO 4 0 ByteArray.empty [])) 4).ref)] 26, blkA g8 #[.int .i64 ((hmakeV hp0 4).kind), .int .i64 ((hmakeV hp0 4).p), .int .i64 ((hmakeV hp0 4).q), .string ((hmakeV hp0 4).str), .int .i64 ((hmakeV hp0 4).ref)] 26]) (fun _ h => by rw [hsu]; exact h) ?_
     exact xs_round (i + 1) (by omega) (by omega) (sub_of rfl ⟨⟨rfl, rfl⟩, ⟨⟨rfl, rfl⟩, ⟨⟨rfl, rfl⟩, ⟨⟨rfl, rfl⟩, ⟨⟨rfl, rfl⟩, ⟨⟨rfl, rfl⟩, ⟨⟨rfl, congrArg (Value.int .i64) hel.symm⟩, ⟨⟨rfl, rfl⟩, ⟨⟨rfl, rfl⟩, trivial⟩⟩⟩⟩⟩⟩⟩⟩⟩) (fun _ h => h.re [0, 0, 0, 0] [])
  ·
   have p35 := of_decide_eq_false c27
   refine k_exit ?_
   refine xs_exit ?_
   refine xs_exit ?_
   refine xs_here ?_
   refine xs_then ?_
   obtain ⟨sh1, sh2, sh3, sh4⟩ := ki.shows weak
   obtain ⟨sd1, sd2, sd3⟩ := ki.showsD weak
   have hel : ((hents (wkH l i) ((hmakeV hp0 4).ref)).length : Int) = ((entsOf (wkT l i)).length : Int) := by rw [sh2]
   refine k_sr ?_
   refine sp (pB hb4 0) ?_
   refine sp (pB g8 4) ?_
   refine s_lt (t_load 3 (.int .i64 ((hmakeV hp0 4).ref))) ?_
   refine sp (.int .i64 weak) ?_
   refine s_call [0] (hobject_s (st := (wkH l i)) hsm (by omega) hw ((hmakeV hp0 4).ref) weak) ?_
   rintro _ _ ⟨rv36, ev37, rfl, rfl⟩
   refine s_fact (fun H h => ((Acc.own (T := iTy) (L := (hrefs (wkH l i) ((hmakeV hp0 4).ref))) 0 rfl) H h).form) (fun hf38 => ?_)
   refine s_fact (fun H h => ((Acc.own (T := EntT) (L := (hents (wkH l i) ((hmakeV hp0 4).ref))) 1 rfl) H h).form) (fun hf39 => ?_)
   refine sp (.tuple #[.agg #[.int .i64 (hoId (wkH l i) ((hmakeV hp0 4).ref)), .int .i64 (hoSz (wkH l i) ((hmakeV hp0 4).ref)), .int .i64 (hoWk (wkH l i) ((hmakeV hp0 4).ref) weak), rv36, ev37], .bool (halive (wkH l i) ((hmakeV hp0 4).ref))]) ?_
   refine sp (.agg #[.int .i64 (hoId (wkH l i) ((hmakeV hp0 4).ref)), .int .i64 (hoSz (wkH l i) ((hmakeV hp0 4).ref)), .int .i64 (hoWk (wkH l i) ((hmakeV hp0 4).ref) weak), rv36, ev37]) ?_
   refine sp (.bool (halive (wkH l i) ((hmakeV hp0 4).ref))) ?_
   refine s_alloc (.agg #[.int .i64 0, .int .i64 0, .int .i64 0, (.slice none 0 0), (.slice none 0 0)]) #[.int .i64 0, .int .i64 0, .int .i64 0, (.slice none 0 0), (.slice none 0 0)] (fun g40 => ?_)
   refine s_store (u := .agg #[.int .i64 (hoId (wkH l i) ((hmakeV hp0 4).ref)), .int .i64 (hoSz (wkH l i) ((hmakeV hp0 4).ref)), .int .i64 (hoWk (wkH l i) ((hmakeV hp0 4).ref) weak), rv36, ev37]) (m := 5) 0 #[.int .i64 (hoId (wkH l i) ((hmakeV hp0 4).ref)), .int .i64 (hoSz (wkH l i) ((hmakeV hp0 4).ref)), .int .i64 (hoWk (wkH l i) ((hmakeV hp0 4).ref) weak), rv36, ev37] ?_ (hm := by (obtain ⟨_, _, e⟩ := hf38; rw [e]; obtain ⟨_, _, e⟩ := hf39; rw [e]; rfl)) (h1 := by (obtain ⟨_, _, e⟩ := hf38; rw [e]; obtain ⟨_, _, e⟩ := hf39; rw [e]; rfl)) (ha' := by (obtain ⟨_, _, e⟩ := hf38; rw [e]; obtain ⟨_, _, e⟩ := hf39; rw [e]; rfl))
   refine s_lt (Lt.to (t_pure (.bool (halive (wkH l i) ((hmakeV hp0 4).ref)))) (congrArg Value.bool (sh1 : (halive (wkH l i) ((hmakeV hp0 4).ref)) = true))) ?_
   refine s_nr ?_
   refine sp (pB hb4 0) ?_
   refine sp (pB g16 4) ?_
   refine s_lt (t_load 4 (.int .i64 ((hdataV (hmake (hmake hp0 (newO 4 0 ByteArray.empty [])) (newO 4 0 ByteArray.empty [])) ⟨#[100]⟩).ref))) ?_
   refine sp (.int .i64 weak) ?_
   refine s_call [3] (hobject_s (st := (wkH l i)) hsm (by omega) hw ((hdataV (hmake (hmake hp0 (newO 4 0 ByteArray.empty [])) (newO 4 0 ByteArray.empty [])) ⟨#[100]⟩).ref) weak) ?_
   rintro _ _ ⟨rv41, ev42, rfl, rfl⟩
   refine s_fact (fun H h => ((Acc.own (T := iTy) (L := (hrefs (wkH l i) ((hdataV (hmake (hmake hp0 (newO 4 0 ByteArray.empty [])) (newO 4 0 ByteArray.empty [])) ⟨#[100]⟩).ref))) 0 rfl) H h).form) (fun hf43 => ?_)
   refine s_fact (fun H h => ((Acc.own (T := EntT) (L := (hents (wkH l i) ((hdataV (hmake (hmake hp0 (newO 4 0 ByteArray.empty [])) (newO 4 0 ByteArray.empty [])) ⟨#[100]⟩).ref))) 1 rfl) H h).form) (fun hf44 => ?_)
   refine sp (.tuple #[.agg #[.int .i64 (hoId (wkH l i) ((hdataV (hmake (hmake hp0 (newO 4 0 ByteArray.empty [])) (newO 4 0 ByteArray.empty [])) ⟨#[100]⟩).ref)), .int .i64 (hoSz (wkH l i) ((hdataV (hmake (hmake hp0 (newO 4 0 ByteArray.empty [])) (newO 4 0 ByteArray.empty [])) ⟨#[100]⟩).ref)), .int .i64 (hoWk (wkH l i) ((hdataV (hmake (hmake hp0 (newO 4 0 ByteArray.empty [])) (newO 4 0 ByteArray.empty [])) ⟨#[100]⟩).ref) weak), rv41, ev42], .bool (halive (wkH l i) ((hdataV (hmake (hmake hp0 (newO 4 0 ByteArray.empty [])) (newO 4 0 ByteArray.empty [])) ⟨#[100]⟩).ref))]) ?_
   refine sp (.agg #[.int .i64 (hoId (wkH l i) ((hdataV (hmake (hmake hp0 (newO 4 0 ByteArray.empty [])) (newO 4 0 ByteArray.empty [])) ⟨#[100]⟩).ref)), .int .i64 (hoSz (wkH l i) ((hdataV (hmake (hmake hp0 (newO 4 0 ByteArray.empty [])) (newO 4 0 ByteArray.empty [])) ⟨#[100]⟩).ref)), .int .i64 (hoWk (wkH l i) ((hdataV (hmake (hmake hp0 (newO 4 0 ByteArray.empty [])) (newO 4 0 ByteArray.empty [])) ⟨#[100]⟩).ref) weak), rv41, ev42]) ?_
   refine sp (.bool (halive (wkH l i) ((hdataV (hmake (hmake hp0 (newO 4 0 ByteArray.empty [])) (newO 4 0 ByteArray.empty [])) ⟨#[100]⟩).ref))) ?_
   refine s_alloc (.agg #[.int .i64 0, .int .i64 0, .int .i64 0, (.slice none 0 0), (.slice none 0 0)]) #[.int .i64 0, .int .i64 0, .int .i64 0, (.slice none 0 0), (.slice none 0 0)] (fun g45 => ?_)
   refine s_store (u := .agg #[.int .i64 (hoId (wkH l i) ((hdataV (hmake (hmake hp0 (newO 4 0 ByteArray.empty [])) (newO 4 0 ByteArray.empty [])) ⟨#[100]⟩).ref)), .int .i64 (hoSz (wkH l i) ((hdataV (hmake (hmake hp0 (newO 4 0 ByteArray.empty [])) (newO 4 0 ByteArray.empty [])) ⟨#[100]⟩).ref)), .int .i64 (hoWk (wkH l i) ((hdataV (hmake (hmake hp0 (newO 4 0 ByteArray.empty [])) (newO 4 0 ByteArray.empty [])) ⟨#[100]⟩).ref) weak), rv41, ev42]) (m := 5) 0 #[.int .i64 (hoId (wkH l i) ((hdataV (hmake (hmake hp0 (newO 4 0 ByteArray.empty [])) (newO 4 0 ByteArray.empty [])) ⟨#[100]⟩).ref)), .int .i64 (hoSz (wkH l i) ((hdataV (hmake (hmake hp0 (newO 4 0 ByteArray.empty [])) (newO 4 0 ByteArray.empty [])) ⟨#[100]⟩).ref)), .int .i64 (hoWk (wkH l i) ((hdataV (hmake (hmake hp0 (newO 4 0 ByteArray.empty [])) (newO 4 0 ByteArray.empty [])) ⟨#[100]⟩).ref) weak), rv41, ev42] ?_ (hm := by (obtain ⟨_, _, e⟩ := hf43; rw [e]; obtain ⟨_, _, e⟩ := hf44; rw [e]; rfl)) (h1 := by (obtain ⟨_, _, e⟩ := hf43; rw [e]; obtain ⟨_, _, e⟩ := hf44; rw [e]; rfl)) (ha' := by (obtain ⟨_, _, e⟩ := hf43; rw [e]; obtain ⟨_, _, e⟩ := hf44; rw [e]; rfl))
   refine s_lt (Lt.to (t_pure (.bool (halive (wkH l i) ((hdataV (hmake (hmake hp0 (newO 4 0 ByteArray.empty [])) (newO 4 0 ByteArray.empty [])) ⟨#[100]⟩).ref)))) (congrArg Value.bool (sd1 : (halive (wkH l i) ((hdataV (hmake (hmake hp0 (newO 4 0 ByteArray.empty [])) (newO 4 0 ByteArray.empty [])) ⟨#[100]⟩).ref)) = true))) ?_
   refine s_nt ?_
   refine k_seq ?_
   refine k_sr ?_
   refine sp (.bool true) ?_
   refine sp (.bool false) ?_
   refine sp (.bool false) ?_
   refine sp (.bool true) ?_
   refine sp (.bool false) ?_
   refine sp (.bool false) ?_
   refine sp (.bool false) ?_
   refine sp (pB g40 4) ?_
   refine s_lt (t_load 4 ev37) ?_
   refine s_lt (t_len EntT_ok Try.underlying55 (.own 6)) ?_
   refine sp (.int .i64 ((entsOf (wkT l i)).length : Int)) ?_
   refine s_lt (Lt.to t_cmp (congrArg Value.bool (decide_eq_false (fun h => h hel) : (decide (((hents (wkH l i) ((hmakeV hp0 4).ref)).length : Int) ≠ ((entsOf (wkT l i)).length : Int))) = false))) ?_
   refine sp (.bool false) ?_
   refine sp (.bool false) ?_
   refine sp (pB g40 3) ?_
   refine s_lt (t_load 4 rv36) ?_
   refine sp (pB g12 4) ?_
   refine s_lt (t_load 8 (.int .i64 ((hmakeV (hmake hp0 (newO 4 0 ByteArray.empty [])) 4).ref))) ?_
   refine s_buildSlice (e := 3) [(0, .int .i64 ((hmakeV (hmake hp0 (newO 4 0 ByteArray.empty [])) 4).ref))] #[.int .i64 ((hmakeV (hmake hp0 (newO 4 0 ByteArray.empty [])) 4).ref)] (fun g46 => ?_) (hb := by kernel_rfl)
   refine s_vcall (fun _ h => ints_s (Acc.kn (T := iTy) (v := rv36) (L := (hrefs (wkH l i) ((hmakeV hp0 4).ref))) (.own 6) h) (Acc.kn (T := iTy) (v := (.slice (some ⟨g46, 0, none⟩) 1 1)) (L := [(hmakeV (hmake hp0 (newO 4 0 ByteArray.empty [])) 4).ref]) (.lit 0 iTy_ok [(hmakeV (hmake hp0 (newO 4 0 ByteArray.empty [])) 4).ref]) h)) ?_
   rintro u48 e47
   obtain rfl : u48 = .bool true := e47.trans (congrArg Value.bool (decide_eq_true sh3))
   refine sp (.bool false) ?_
   refine sp (.bool false) ?_
   refine sp (.bool false) ?_
   refine sp (pB g45 3) ?_
   refine s_lt (t_load 1 rv41) ?_
   refine sp (pB g12 4) ?_
   refine s_lt (t_load 9 (.int .i64 ((hmakeV (hmake hp0 (newO 4 0 ByteArray.empty [])) 4).ref))) ?_
   refine sp (pB g8 4) ?_
   refine s_lt (t_load 10 (.int .i64 ((hmakeV hp0 4).ref))) ?_
   refine s_buildSlice (e := 3) [(0, .int .i64 ((hmakeV (hmake hp0 (newO 4 0 ByteArray.empty [])) 4).ref)), (1, .int .i64 ((hmakeV hp0 4).ref))] #[.int .i64 ((hmakeV (hmake hp0 (newO 4 0 ByteArray.empty [])) 4).ref), .int .i64 ((hmakeV hp0 4).ref)] (fun g49 => ?_) (hb := by kernel_rfl)
   refine s_vcall (fun _ h => ints_s (Acc.kn (T := iTy) (v := rv41) (L := (hrefs (wkH l i) ((hdataV (hmake (hmake hp0 (newO 4 0 ByteArray.empty [])) (newO 4 0 ByteArray.empty [])) ⟨#[100]⟩).ref))) (.own 3) h) (Acc.kn (T := iTy) (v := (.slice (some ⟨g49, 0, none⟩) 2 2)) (L := [(hmakeV (hmake hp0 (newO 4 0 ByteArray.empty [])) 4).ref, (hmakeV hp0 4).ref]) (.lit 0 iTy_ok [(hmakeV (hmake hp0 (newO 4 0 ByteArray.empty [])) 4).ref, (hmakeV hp0 4).ref]) h)) ?_
   rintro u51 e50
   obtain rfl : u51 = .bool true := e50.trans (congrArg Value.bool (decide_eq_true sd2))
   refine sp (.bool false) ?_
   refine sp (.bool false) ?_
   refine s_nt ?_
   refine k_false ?_
   refine k_st ?_
   refine k_seq ?_
   refine k_sr ?_
   refine sp (.int .i64 weak) ?_
   refine s_lt t_cmp ?_
   refine sp (.bool (decide ((0 : Int) ≤ weak))) ?_
   refine s_fork 147 (decide ((0 : Int) ≤ weak)) (fun c52 => ?_) (fun c52 => ?_)
   ·
    have p53 := of_decide_eq_true c52
    refine sp (.int .i64 weak) ?_
    refine s_lt t_cmp ?_
    refine sp (.bool (decide (weak ≤ 3))) ?_
    refine sp (.bool (decide (weak ≤ 3))) ?_
    refine s_fork 151 (decide (weak ≤ 3)) (fun c54 => ?_) (fun c54 => ?_)
    ·
     have p55 := of_decide_eq_true c54
     refine sp (pB g40 2) ?_
     refine s_lt (t_load 6 (.int .i64 (hoWk (wkH l i) ((hmakeV hp0 4).ref) weak))) ?_
     refine sp (.int .i64 weak) ?_
     refine s_lt (Lt.to t_cmp (congrArg Value.bool (decide_eq_false (fun h => h (sh4 (by omega) (by omega))) : (decide ((hoWk (wkH l i) ((hmakeV hp0 4).ref) weak) ≠ weak)) = false))) ?_
     refine sp (.bool false) ?_
     refine sp (.bool false) ?_
     refine sp (pB g45 2) ?_
     refine s_lt (t_load 2 (.int .i64 (hoWk (wkH l i) ((hdataV (hmake (hmake hp0 (newO 4 0 ByteArray.empty [])) (newO 4 0 ByteArray.empty [])) ⟨#[100]⟩).ref) weak))) ?_
     refine s_lt (Lt.to t_cmp (congrArg Value.bool (decide_eq_false (fun h => h sd3) : (decide ((hoWk (wkH l i) ((hdataV (hmake (hmake hp0 (newO 4 0 ByteArray.empty [])) (newO 4 0 ByteArray.empty [])) ⟨#[100]⟩).ref) weak) ≠ 0)) = false))) ?_
     refine sp (.bool false) ?_
     refine s_nt ?_
     refine k_false ?_
     refine k_st ?_
     refine k_seq ?_
     refine k_sr ?_
     refine sp (pB g40 4) ?_
     refine s_lt (t_load 6 ev37) ?_
     refine s_lt (t_len EntT_ok Try.underlying55 (.own 8)) ?_
     refine sp (.int .i64 0) ?_
     refine s_nt ?_
     refine k_block ?_
     have hev : ∀ e ∈ (hents (wkH l i) ((hmakeV hp0 4).ref)), e.key = 0 ∧ 1 ≤ e.val := by rw [sh2]; exact wk_each l i (by omega) (by omega)
     refine k_loop (ι := Nat) (fun j => j ≤ (hents (wkH l i) ((hmakeV hp0 4).ref)).length) (fun j => [(14, pB g40 0), (164, .int .i64 ((hents (wkH l i) ((hmakeV hp0 4).ref)).length : Int)), (165, .int .i64 (j : Int))]) (fun j => [blkA g49 #[.int .i64 ((hmakeV (hmake hp0 (newO 4 0 ByteArray.empty [])) 4).ref), .int .i64 ((hmakeV hp0 4).ref)] 3, blkA g46 #[.int .i64 ((hmakeV (hmake hp0 (newO 4 0 ByteArray.empty [])) 4).ref)] 3, blkA g45 #[.int .i64 (hoId (wkH l i) ((hdataV (hmake (hmake hp0 (newO 4 0 ByteArray.empty [])) (newO 4 0 ByteArray.empty [])) ⟨#[100]⟩).ref)), .int .i64 (hoSz (wkH l i) ((hdataV (hmake (hmake hp0 (newO 4 0 ByteArray.empty [])) (newO 4 0 ByteArray.empty [])) ⟨#[100]⟩).ref)), .int .i64 (hoWk (wkH l i) ((hdataV (hmake (hmake hp0 (newO 4 0 ByteArray.empty [])) (newO 4 0 ByteArray.empty [])) ⟨#[100]⟩).ref) weak), rv41, ev42] 57, own iTy rv41 (hrefs (wkH l i) ((hdataV (hmake (hmake hp0 (newO 4 0 ByteArray.empty [])) (newO 4 0 ByteArray.empty [])) ⟨#[100]⟩).ref)), own EntT ev42 (hents (wkH l i) ((hdataV (hmake (hmake hp0 (newO 4 0 ByteArray.empty [])) (newO 4 0 ByteArray.empty [])) ⟨#[100]⟩).ref)), hpA hb4 (wkH l i), blkA g40 #[.int .i64 (hoId (wkH l i) ((hmakeV hp0 4).ref)), .int .i64 (hoSz (wkH l i) ((hmakeV hp0 4).ref)), .int .i64 (hoWk (wkH l i) ((hmakeV hp0 4).ref) weak), rv36, ev37] 57, own iTy rv36 (hrefs (wkH l i) ((hmakeV hp0 4).ref)), own EntT ev37 (hents (wkH l i) ((hmakeV hp0 4).ref)), blkA g16 #[.int .i64 ((hdataV (hmake (hmake hp0 (newO 4 0 ByteArray.empty [])) (newO 4 0 ByteArray.empty [])) ⟨#[100]⟩).kind), .int .i64 ((hdataV (hmake (hmake hp0 (newO 4 0 ByteArray.empty [])) (newO 4 0 ByteArray.empty [])) ⟨#[100]⟩).p), .int .i64 ((hdataV (hmake (hmake hp0 (newO 4 0 ByteArray.empty [])) (newO 4 0 ByteArray.empty [])) ⟨#[100]⟩).q), .string ((hdataV (hmake (hmake hp0 (newO 4 0 ByteArray.empty [])) (newO 4 0 ByteArray.empty [])) ⟨#[100]⟩).str), .int .i64 ((hdataV (hmake (hmake hp0 (newO 4 0 ByteArray.empty [])) (newO 4 0 ByteArray.empty [])) ⟨#[100]⟩).ref)] 26, blkA g12 #[.int .i64 ((hmakeV (hmake hp0 (newO 4 0 ByteArray.empty [])) 4).kind), .int .i64 ((hmakeV (hmake hp0 (newO 4 0 ByteArray.empty [])) 4).p), .int .i64 ((hmakeV (hmake hp0 (newO 4 0 ByteArray.empty [])) 4).q), .string ((hmakeV (hmake hp0 (newO 4 0 ByteArray.empty [])) 4).str), .int .i64 ((hmakeV (hmake hp0 (newO 4 0 ByteArray.empty [])) 4).ref)] 26, blkA g8 #[.int .i64 ((hmakeV hp0 4).kind), .int .i64 ((hmakeV hp0 4).p), .int .i64 ((hmakeV hp0 4).q), .string ((hmakeV hp0 4).str), .int .i64 ((hmakeV hp0 4).ref)] 26]) (fun j => (hents (wkH l i) ((hmakeV hp0 4).ref)).length - j) 0 (Nat.zero_le _) (sub_of rfl ⟨⟨rfl, rfl⟩, ⟨⟨rfl, rfl⟩, ⟨⟨rfl, rfl⟩, trivial⟩⟩⟩) (fun _ h => h.re [0, 0, 0, 0, 0, 0, 0, 0, 0, 0, 0, 0] []) ?_
     rintro j hi56
     show SK _ _ _ _ _ [(14, .pointer (some ⟨g40, 0, none⟩)), (164, .int .i64 ((hents (wkH l i) ((hmakeV hp0 4).ref)).length : Int)), (165, .int .i64 (j : Int))] _ [blkA g49 #[.int .i64 ((hmakeV (hmake hp0 (newO 4 0 ByteArray.empty [])) 4).ref), .int .i64 ((hmakeV hp0 4).ref)] 3, blkA g46 #[.int .i64 ((hmakeV (hmake hp0 (newO 4 0 ByteArray.empty [])) 4).ref)] 3, blkA g45 #[.int .i64 (hoId (wkH l i) ((hdataV (hmake (hmake hp0 (newO 4 0 ByteArray.empty [])) (newO 4 0 ByteArray.empty [])) ⟨#[100]⟩).ref)), .int .i64 (hoSz (wkH l i) ((hdataV (hmake (hmake hp0 (newO 4 0 ByteArray.empty [])) (newO 4 0 ByteArray.empty [])) ⟨#[100]⟩).ref)), .int .i64 (hoWk (wkH l i) ((hdataV (hmake (hmake hp0 (newO 4 0 ByteArray.empty [])) (newO 4 0 ByteArray.empty [])) ⟨#[100]⟩).ref) weak), rv41, ev42] 57, own iTy rv41 (hrefs (wkH l i) ((hdataV (hmake (hmake hp0 (newO 4 0 ByteArray.empty [])) (newO 4 0 ByteArray.empty [])) ⟨#[100]⟩).ref)), own EntT ev42 (hents (wkH l i) ((hdataV (hmake (hmake hp0 (newO 4 0 ByteArray.empty [])) (newO 4 0 ByteArray.empty [])) ⟨#[100]⟩).ref)), hpA hb4 (wkH l i), blkA g40 #[.int .i64 (hoId (wkH l i) ((hmakeV hp0 4).ref)), .int .i64 (hoSz (wkH l i) ((hmakeV hp0 4).ref)), .int .i64 (hoWk (wkH l i) ((hmakeV hp0 4).ref) weak), rv36, ev37] 57, own iTy rv36 (hrefs (wkH l i) ((hmakeV hp0 4).ref)), own EntT ev37 (hents (wkH l i) ((hmakeV hp0 4).ref)), blkA g16 #[.int .i64 ((hdataV (hmake (hmake hp0 (newO 4 0 ByteArray.empty [])) (newO 4 0 ByteArray.empty [])) ⟨#[100]⟩).kind), .int .i64 ((hdataV (hmake (hmake hp0 (newO 4 0 ByteArray.empty [])) (newO 4 0 ByteArray.empty [])) ⟨#[100]⟩).p), .int .i64 ((hdataV (hmake (hmake hp0 (newO 4 0 ByteArray.empty [])) (newO 4 0 ByteArray.empty [])) ⟨#[100]⟩).q), .string ((hdataV (hmake (hmake hp0 (newO 4 0 ByteArray.empty [])) (newO 4 0 ByteArray.empty [])) ⟨#[100]⟩).str), .int .i64 ((hdataV (hmake (hmake hp0 (newO 4 0 ByteArray.empty [])) (newO 4 0 ByteArray.empty [])) ⟨#[100]⟩).ref)] 26, blkA g12 #[.int .i64 ((hmakeV (hmake hp0 (newO 4 0 ByteArray.empty [])) 4).kind), .int .i64 ((hmakeV (hmake hp0 (newO 4 0 ByteArray.empty [])) 4).p), .int .i64 ((hmakeV (hmake hp0 (newO 4 0 ByteArray.empty [])) 4).q), .string ((hmakeV (hmake hp0 (newO 4 0 ByteArray.empty [])) 4).str), .int .i64 ((hmakeV (hmake hp0 (newO 4 0 ByteArray.empty [])) 4).ref)] 26, blkA g8 #[.int .i64 ((hmakeV hp0 4).kind), .int .i64 ((hmakeV hp0 4).p), .int .i64 ((hmakeV hp0 4).q), .string ((hmakeV hp0 4).str), .int .i64 ((hmakeV hp0 4).ref)] 26]
     refine k_sr ?_
     refine s_lt t_cmp ?_
     refine s_nt ?_
     refine k_seq ?_
     refine k_cond (decide ((j : Int) < ((hents (wkH l i) ((hmakeV hp0 4).ref)).length : Int))) (fun c57 => ?_) (fun c57 => ?_)
     ·
      have p58 := of_decide_eq_true c57
      refine k_st ?_
      refine k_seq ?_
      refine k_block ?_
      refine k_sr ?_
      refine sp (.int .i64 (j : Int)) ?_
      refine sp (.int .i64 (j : Int)) ?_
      refine s_nr ?_
      refine sp (pB g40 4) ?_
      refine s_lt (t_load 6 ev37) ?_
      refine sp (.int .i64 (j : Int)) ?_
      refine s_lt (t_index EntT_ok Try.underlying55 (.own 8) (j : Int) j (by omega) (by (try simp only [lnm]); omega) (by omega)) ?_
      refine sp (.pointer (some (elemAt EntT.size ev37 j))) ?_
      obtain ⟨y59, hy60⟩ : ∃ y, (hents (wkH l i) ((hmakeV hp0 4).ref))[j]? = some y := ⟨_, List.getElem?_eq_getElem (by (try simp only [lnm]); omega)⟩
      refine s_lt (t_loadF 0 EntT_ok (.own 8) hy60) ?_
      refine s_lt (Lt.to t_cmp (congrArg Value.bool (decide_eq_false (fun h => h (hev y59 (List.mem_of_getElem? hy60)).1) : (decide (y59.key ≠ 0)) = false))) ?_
      refine sp (.bool false) ?_
      refine sp (pB g40 4) ?_
      refine s_lt (t_load 6 ev37) ?_
      refine sp (.int .i64 (j : Int)) ?_
      refine s_lt (t_index EntT_ok Try.underlying55 (.own 8) (j : Int) j (by omega) (by (try simp only [lnm]); omega) (by omega)) ?_
      refine sp (.pointer (some ((elemAt EntT.size ev37 j).add 1))) ?_
      refine s_lt (t_loadF 1 EntT_ok (.own 8) hy60) ?_
      refine s_lt (Lt.to t_cmp (congrArg Value.bool (decide_eq_false (fun h => by have := (hev y59 (List.mem_of_getElem? hy60)).2; omega) : (decide (y59.val < 1)) = false))) ?_
      refine sp (.bool false) ?_
      refine s_nt ?_
      refine k_false ?_
      refine k_skip ?_
      refine xs_block ?_
      refine xs_then ?_
      refine k_reg ?_
      refine s_lt (t_add (j : Int) 1 (by (try simp only [lnm]); omega)) ?_
      refine sp (.int .i64 ((j : Int) + 1)) ?_
      refine s_nil ?_
      exact xs_round (j + 1) (by omega) (by omega) (sub_of rfl ⟨⟨rfl, rfl⟩, ⟨⟨rfl, rfl⟩, ⟨⟨rfl, rfl⟩, trivial⟩⟩⟩) (fun _ h => h.re [0, 0, 0, 0, 0, 0, 0, 0, 0, 0, 0, 0] [])
     ·
      have p61 := of_decide_eq_false c57
      refine k_exit ?_
      refine xs_exit ?_
      refine xs_exit ?_
      refine xs_here ?_
      refine xs_then ?_
      refine k_sr ?_
      refine s_vcall (fun _ h => awake_s) ?_
      rintro _ rfl
      refine sp (.bool true) ?_
      refine s_nt ?_
      refine k_ret ?_
      exact xs_fin [.bool true] [] (SI.tmp 4 SI.nil) (fun _ h => h.re [] [0, 0, 0, 0, 0, 0, 0, 0, 0, 0, 0, 0]) ⟨rfl, rfl⟩
    ·
     have p62 := of_decide_eq_false c54
     refine s_skip ?_
     refine s_skip ?_
     refine s_skip ?_
     refine s_skip ?_
     refine sp (.bool false) ?_
     refine sp (.bool false) ?_
     refine sp (pB g45 2) ?_
     refine s_lt (t_load 2 (.int .i64 (hoWk (wkH l i) ((hdataV (hmake (hmake hp0 (newO 4 0 ByteArray.empty [])) (newO 4 0 ByteArray.empty [])) ⟨#[100]⟩).ref) weak))) ?_
     refine s_lt (Lt.to t_cmp (congrArg Value.bool (decide_eq_false (fun h => h sd3) : (decide ((hoWk (wkH l i) ((hdataV (hmake (hmake hp0 (newO 4 0 ByteArray.empty [])) (newO 4 0 ByteArray.empty [])) ⟨#[100]⟩).ref) weak) ≠ 0)) = false))) ?_
     refine sp (.bool false) ?_
     refine s_nt ?_
     refine k_false ?_
     refine k_st ?_
     refine k_seq ?_
     refine k_sr ?_
     refine sp (pB g40 4) ?_
     refine s_lt (t_load 6 ev37) ?_
     refine s_lt (t_len EntT_ok Try.underlying55 (.own 8)) ?_
     refine sp (.int .i64 0) ?_
     refine s_nt ?_
     refine k_block ?_
     have hev : ∀ e ∈ (hents (wkH l i) ((hmakeV hp0 4).ref)), e.key = 0 ∧ 1 ≤ e.val := by rw [sh2]; exact wk_each l i (by omega) (by omega)
     refine k_loop (ι := Nat) (fun j => j ≤ (hents (wkH l i) ((hmakeV hp0 4).ref)).length) (fun j => [(14, pB g40 0), (164, .int .i64 ((hents (wkH l i) ((hmakeV hp0 4).ref)).length : Int)), (165, .int .i64 (j : Int))]) (fun j => [blkA g49 #[.int .i64 ((hmakeV (hmake hp0 (newO 4 0 ByteArray.empty [])) 4).ref), .int .i64 ((hmakeV hp0 4).ref)] 3, blkA g46 #[.int .i64 ((hmakeV (hmake hp0 (newO 4 0 ByteArray.empty [])) 4).ref)] 3, blkA g45 #[.int .i64 (hoId (wkH l i) ((hdataV (hmake (hmake hp0 (newO 4 0 ByteArray.empty [])) (newO 4 0 ByteArray.empty [])) ⟨#[100]⟩).ref)), .int .i64 (hoSz (wkH l i) ((hdataV (hmake (hmake hp0 (newO 4 0 ByteArray.empty [])) (newO 4 0 ByteArray.empty [])) ⟨#[100]⟩).ref)), .int .i64 (hoWk (wkH l i) ((hdataV (hmake (hmake hp0 (newO 4 0 ByteArray.empty [])) (newO 4 0 ByteArray.empty [])) ⟨#[100]⟩).ref) weak), rv41, ev42] 57, own iTy rv41 (hrefs (wkH l i) ((hdataV (hmake (hmake hp0 (newO 4 0 ByteArray.empty [])) (newO 4 0 ByteArray.empty [])) ⟨#[100]⟩).ref)), own EntT ev42 (hents (wkH l i) ((hdataV (hmake (hmake hp0 (newO 4 0 ByteArray.empty [])) (newO 4 0 ByteArray.empty [])) ⟨#[100]⟩).ref)), hpA hb4 (wkH l i), blkA g40 #[.int .i64 (hoId (wkH l i) ((hmakeV hp0 4).ref)), .int .i64 (hoSz (wkH l i) ((hmakeV hp0 4).ref)), .int .i64 (hoWk (wkH l i) ((hmakeV hp0 4).ref) weak), rv36, ev37] 57, own iTy rv36 (hrefs (wkH l i) ((hmakeV hp0 4).ref)), own EntT ev37 (hents (wkH l i) ((hmakeV hp0 4).ref)), blkA g16 #[.int .i64 ((hdataV (hmake (hmake hp0 (newO 4 0 ByteArray.empty [])) (newO 4 0 ByteArray.empty [])) ⟨#[100]⟩).kind), .int .i64 ((hdataV (hmake (hmake hp0 (newO 4 0 ByteArray.empty [])) (newO 4 0 ByteArray.empty [])) ⟨#[100]⟩).p), .int .i64 ((hdataV (hmake (hmake hp0 (newO 4 0 ByteArray.empty [])) (newO 4 0 ByteArray.empty [])) ⟨#[100]⟩).q), .string ((hdataV (hmake (hmake hp0 (newO 4 0 ByteArray.empty [])) (newO 4 0 ByteArray.empty [])) ⟨#[100]⟩).str), .int .i64 ((hdataV (hmake (hmake hp0 (newO 4 0 ByteArray.empty [])) (newO 4 0 ByteArray.empty [])) ⟨#[100]⟩).ref)] 26, blkA g12 #[.int .i64 ((hmakeV (hmake hp0 (newO 4 0 ByteArray.empty [])) 4).kind), .int .i64 ((hmakeV (hmake hp0 (newO 4 0 ByteArray.empty [])) 4).p), .int .i64 ((hmakeV (hmake hp0 (newO 4 0 ByteArray.empty [])) 4).q), .string ((hmakeV (hmake hp0 (newO 4 0 ByteArray.empty [])) 4).str), .int .i64 ((hmakeV (hmake hp0 (newO 4 0 ByteArray.empty [])) 4).ref)] 26, blkA g8 #[.int .i64 ((hmakeV hp0 4).kind), .int .i64 ((hmakeV hp0 4).p), .int .i64 ((hmakeV hp0 4).q), .string ((hmakeV hp0 4).str), .int .i64 ((hmakeV hp0 4).ref)] 26]) (fun j => (hents (wkH l i) ((hmakeV hp0 4).ref)).length - j) 0 (Nat.zero_le _) (sub_of rfl ⟨⟨rfl, rfl⟩, ⟨⟨rfl, rfl⟩, ⟨⟨rfl, rfl⟩, trivial⟩⟩⟩) (fun _ h => h.re [0, 0, 0, 0, 0, 0, 0, 0, 0, 0, 0, 0] []) ?_
     rintro j hi63
     show SK _ _ _ _ _ [(14, .pointer (some ⟨g40, 0, none⟩)), (164, .int .i64 ((hents (wkH l i) ((hmakeV hp0 4).ref)).length : Int)), (165, .int .i64 (j : Int))] _ [blkA g49 #[.int .i64 ((hmakeV (hmake hp0 (newO 4 0 ByteArray.empty [])) 4).ref), .int .i64 ((hmakeV hp0 4).ref)] 3, blkA g46 #[.int .i64 ((hmakeV (hmake hp0 (newO 4 0 ByteArray.empty [])) 4).ref)] 3, blkA g45 #[.int .i64 (hoId (wkH l i) ((hdataV (hmake (hmake hp0 (newO 4 0 ByteArray.empty [])) (newO 4 0 ByteArray.empty [])) ⟨#[100]⟩).ref)), .int .i64 (hoSz (wkH l i) ((hdataV (hmake (hmake hp0 (newO 4 0 ByteArray.empty [])) (newO 4 0 ByteArray.empty [])) ⟨#[100]⟩).ref)), .int .i64 (hoWk (wkH l i) ((hdataV (hmake (hmake hp0 (newO 4 0 ByteArray.empty [])) (newO 4 0 ByteArray.empty [])) ⟨#[100]⟩).ref) weak), rv41, ev42] 57, own iTy rv41 (hrefs (wkH l i) ((hdataV (hmake (hmake hp0 (newO 4 0 ByteArray.empty [])) (newO 4 0 ByteArray.empty [])) ⟨#[100]⟩).ref)), own EntT ev42 (hents (wkH l i) ((hdataV (hmake (hmake hp0 (newO 4 0 ByteArray.empty [])) (newO 4 0 ByteArray.empty [])) ⟨#[100]⟩).ref)), hpA hb4 (wkH l i), blkA g40 #[.int .i64 (hoId (wkH l i) ((hmakeV hp0 4).ref)), .int .i64 (hoSz (wkH l i) ((hmakeV hp0 4).ref)), .int .i64 (hoWk (wkH l i) ((hmakeV hp0 4).ref) weak), rv36, ev37] 57, own iTy rv36 (hrefs (wkH l i) ((hmakeV hp0 4).ref)), own EntT ev37 (hents (wkH l i) ((hmakeV hp0 4).ref)), blkA g16 #[.int .i64 ((hdataV (hmake (hmake hp0 (newO 4 0 ByteArray.empty [])) (newO 4 0 ByteArray.empty [])) ⟨#[100]⟩).kind), .int .i64 ((hdataV (hmake (hmake hp0 (newO 4 0 ByteArray.empty [])) (newO 4 0 ByteArray.empty [])) ⟨#[100]⟩).p), .int .i64 ((hdataV (hmake (hmake hp0 (newO 4 0 ByteArray.empty [])) (newO 4 0 ByteArray.empty [])) ⟨#[100]⟩).q), .string ((hdataV (hmake (hmake hp0 (newO 4 0 ByteArray.empty [])) (newO 4 0 ByteArray.empty [])) ⟨#[100]⟩).str), .int .i64 ((hdataV (hmake (hmake hp0 (newO 4 0 ByteArray.empty [])) (newO 4 0 ByteArray.empty [])) ⟨#[100]⟩).ref)] 26, blkA g12 #[.int .i64 ((hmakeV (hmake hp0 (newO 4 0 ByteArray.empty [])) 4).kind), .int .i64 ((hmakeV (hmake hp0 (newO 4 0 ByteArray.empty [])) 4).p), .int .i64 ((hmakeV (hmake hp0 (newO 4 0 ByteArray.empty [])) 4).q), .string ((hmakeV (hmake hp0 (newO 4 0 ByteArray.empty [])) 4).str), .int .i64 ((hmakeV (hmake hp0 (newO 4 0 ByteArray.empty [])) 4).ref)] 26, blkA g8 #[.int .i64 ((hmakeV hp0 4).kind), .int .i64 ((hmakeV hp0 4).p), .int .i64 ((hmakeV hp0 4).q), .string ((hmakeV hp0 4).str), .int .i64 ((hmakeV hp0 4).ref)] 26]
     refine k_sr ?_
     refine s_lt t_cmp ?_
     refine s_nt ?_
     refine k_seq ?_
     refine k_cond (decide ((j : Int) < ((hents (wkH l i) ((hmakeV hp0 4).ref)).length : Int))) (fun c64 => ?_) (fun c64 => ?_)
     ·
      have p65 := of_decide_eq_true c64
      refine k_st ?_
      refine k_seq ?_
      refine k_block ?_
      refine k_sr ?_
      refine sp (.int .i64 (j : Int)) ?_
      refine sp (.int .i64 (j : Int)) ?_
      refine s_nr ?_
      refine sp (pB g40 4) ?_
      refine s_lt (t_load 6 ev37) ?_
      refine sp (.int .i64 (j : Int)) ?_
      refine s_lt (t_index EntT_ok Try.underlying55 (.own 8) (j : Int) j (by omega) (by (try simp only [lnm]); omega) (by omega)) ?_
      refine sp (.pointer (some (elemAt EntT.size ev37 j))) ?_
      obtain ⟨y66, hy67⟩ : ∃ y, (hents (wkH l i) ((hmakeV hp0 4).ref))[j]? = some y := ⟨_, List.getElem?_eq_getElem (by (try simp only [lnm]); omega)⟩
      refine s_lt (t_loadF 0 EntT_ok (.own 8) hy67) ?_
      refine s_lt (Lt.to t_cmp (congrArg Value.bool (decide_eq_false (fun h => h (hev y66 (List.mem_of_getElem? hy67)).1) : (decide (y66.key ≠ 0)) = false))) ?_
      refine sp (.bool false) ?_
      refine sp (pB g40 4) ?_
      refine s_lt (t_load 6 ev37) ?_
      refine sp (.int .i64 (j : Int)) ?_
      refine s_lt (t_index EntT_ok Try.underlying55 (.own 8) (j : Int) j (by omega) (by (try simp only [lnm]); omega) (by omega)) ?_
      refine sp (.pointer (some ((elemAt EntT.size ev37 j).add 1))) ?_
      refine s_lt (t_loadF 1 EntT_ok (.own 8) hy67) ?_
      refine s_lt (Lt.to t_cmp (congrArg Value.bool (decide_eq_false (fun h => by have := (hev y66 (List.mem_of_getElem? hy67)).2; omega) : (decide (y66.val < 1)) = false))) ?_
      refine sp (.bool false) ?_
      refine s_nt ?_
      refine k_false ?_
      refine k_skip ?_
      refine xs_block ?_
      refine xs_then ?_
      refine k_reg ?_
      refine s_lt (t_add (j : Int) 1 (by (try simp only [lnm]); omega)) ?_
      refine sp (.int .i64 ((j : Int) + 1)) ?_
      refine s_nil ?_
      exact xs_round (j + 1) (by omega) (by omega) (sub_of rfl ⟨⟨rfl, rfl⟩, ⟨⟨rfl, rfl⟩, ⟨⟨rfl, rfl⟩, trivial⟩⟩⟩) (fun _ h => h.re [0, 0, 0, 0, 0, 0, 0, 0, 0, 0, 0, 0] [])
     ·
      have p68 := of_decide_eq_false c64
      refine k_exit ?_
      refine xs_exit ?_
      refine xs_exit ?_
      refine xs_here ?_
      refine xs_then ?_
      refine k_sr ?_
      refine s_vcall (fun _ h => awake_s) ?_
      rintro _ rfl
      refine sp (.bool true) ?_
      refine s_nt ?_
      refine k_ret ?_
      exact xs_fin [.bool true] [] (SI.tmp 4 SI.nil) (fun _ h => h.re [] [0, 0, 0, 0, 0, 0, 0, 0, 0, 0, 0, 0]) ⟨rfl, rfl⟩
   ·
    have p69 := of_decide_eq_false c52
    refine s_skip ?_
    refine s_skip ?_
    refine sp (.bool false) ?_
    refine sp (.bool false) ?_
    refine s_skip ?_
    refine s_skip ?_
    refine s_skip ?_
    refine s_skip ?_
    refine sp (.bool false) ?_
    refine sp (.bool false) ?_
    refine sp (pB g45 2) ?_
    refine s_lt (t_load 2 (.int .i64 (hoWk (wkH l i) ((hdataV (hmake (hmake hp0 (newO 4 0 ByteArray.empty [])) (newO 4 0 ByteArray.empty [])) ⟨#[100]⟩).ref) weak))) ?_
    refine s_lt (Lt.to t_cmp (congrArg Value.bool (decide_eq_false (fun h => h sd3) : (decide ((hoWk (wkH l i) ((hdataV (hmake (hmake hp0 (newO 4 0 ByteArray.empty [])) (newO 4 0 ByteArray.empty [])) ⟨#[100]⟩).ref) weak) ≠ 0)) = false))) ?_
    refine sp (.bool false) ?_
    refine s_nt ?_
    refine k_false ?_
    refine k_st ?_
    refine k_seq ?_
    refine k_sr ?_
    refine sp (pB g40 4) ?_
    refine s_lt (t_load 6 ev37) ?_
    refine s_lt (t_len EntT_ok Try.underlying55 (.own 8)) ?_
    refine sp (.int .i64 0) ?_
    refine s_nt ?_
    refine k_block ?_
    have hev : ∀ e ∈ (hents (wkH l i) ((hmakeV hp0 4).ref)), e.key = 0 ∧ 1 ≤ e.val := by rw [sh2]; exact wk_each l i (by omega) (by omega)
    refine k_loop (ι := Nat) (fun j => j ≤ (hents (wkH l i) ((hmakeV hp0 4).ref)).length) (fun j => [(14, pB g40 0), (164, .int .i64 ((hents (wkH l i) ((hmakeV hp0 4).ref)).length : Int)), (165, .int .i64 (j : Int))]) (fun j => [blkA g49 #[.int .i64 ((hmakeV (hmake hp0 (newO 4 0 ByteArray.empty [])) 4).ref), .int .i64 ((hmakeV hp0 4).ref)] 3, blkA g46 #[.int .i64 ((hmakeV (hmake hp0 (newO 4 0 ByteArray.empty [])) 4).ref)] 3, blkA g45 #[.int .i64 (hoId (wkH l i) ((hdataV (hmake (hmake hp0 (newO 4 0 ByteArray.empty [])) (newO 4 0 ByteArray.empty [])) ⟨#[100]⟩).ref)), .int .i64 (hoSz (wkH l i) ((hdataV (hmake (hmake hp0 (newO 4 0 ByteArray.empty [])) (newO 4 0 ByteArray.empty [])) ⟨#[100]⟩).ref)), .int .i64 (hoWk (wkH l i) ((hdataV (hmake (hmake hp0 (newO 4 0 ByteArray.empty [])) (newO 4 0 ByteArray.empty [])) ⟨#[100]⟩).ref) weak), rv41, ev42] 57, own iTy rv41 (hrefs (wkH l i) ((hdataV (hmake (hmake hp0 (newO 4 0 ByteArray.empty [])) (newO 4 0 ByteArray.empty [])) ⟨#[100]⟩).ref)), own EntT ev42 (hents (wkH l i) ((hdataV (hmake (hmake hp0 (newO 4 0 ByteArray.empty [])) (newO 4 0 ByteArray.empty [])) ⟨#[100]⟩).ref)), hpA hb4 (wkH l i), blkA g40 #[.int .i64 (hoId (wkH l i) ((hmakeV hp0 4).ref)), .int .i64 (hoSz (wkH l i) ((hmakeV hp0 4).ref)), .int .i64 (hoWk (wkH l i) ((hmakeV hp0 4).ref) weak), rv36, ev37] 57, own iTy rv36 (hrefs (wkH l i) ((hmakeV hp0 4).ref)), own EntT ev37 (hents (wkH l i) ((hmakeV hp0 4).ref)), blkA g16 #[.int .i64 ((hdataV (hmake (hmake hp0 (newO 4 0 ByteArray.empty [])) (newO 4 0 ByteArray.empty [])) ⟨#[100]⟩).kind), .int .i64 ((hdataV (hmake (hmake hp0 (newO 4 0 ByteArray.empty [])) (newO 4 0 ByteArray.empty [])) ⟨#[100]⟩).p), .int .i64 ((hdataV (hmake (hmake hp0 (newO 4 0 ByteArray.empty [])) (newO 4 0 ByteArray.empty [])) ⟨#[100]⟩).q), .string ((hdataV (hmake (hmake hp0 (newO 4 0 ByteArray.empty [])) (newO 4 0 ByteArray.empty [])) ⟨#[100]⟩).str), .int .i64 ((hdataV (hmake (hmake hp0 (newO 4 0 ByteArray.empty [])) (newO 4 0 ByteArray.empty [])) ⟨#[100]⟩).ref)] 26, blkA g12 #[.int .i64 ((hmakeV (hmake hp0 (newO 4 0 ByteArray.empty [])) 4).kind), .int .i64 ((hmakeV (hmake hp0 (newO 4 0 ByteArray.empty [])) 4).p), .int .i64 ((hmakeV (hmake hp0 (newO 4 0 ByteArray.empty [])) 4).q), .string ((hmakeV (hmake hp0 (newO 4 0 ByteArray.empty [])) 4).str), .int .i64 ((hmakeV (hmake hp0 (newO 4 0 ByteArray.empty [])) 4).ref)] 26, blkA g8 #[.int .i64 ((hmakeV hp0 4).kind), .int .i64 ((hmakeV hp0 4).p), .int .i64 ((hmakeV hp0 4).q), .string ((hmakeV hp0 4).str), .int .i64 ((hmakeV hp0 4).ref)] 26]) (fun j => (hents (wkH l i) ((hmakeV hp0 4).ref)).length - j) 0 (Nat.zero_le _) (sub_of rfl ⟨⟨rfl, rfl⟩, ⟨⟨rfl, rfl⟩, ⟨⟨rfl, rfl⟩, trivial⟩⟩⟩) (fun _ h => h.re [0, 0, 0, 0, 0, 0, 0, 0, 0, 0, 0, 0] []) ?_
    rintro j hi70
    show SK _ _ _ _ _ [(14, .pointer (some ⟨g40, 0, none⟩)), (164, .int .i64 ((hents (wkH l i) ((hmakeV hp0 4).ref)).length : Int)), (165, .int .i64 (j : Int))] _ [blkA g49 #[.int .i64 ((hmakeV (hmake hp0 (newO 4 0 ByteArray.empty [])) 4).ref), .int .i64 ((hmakeV hp0 4).ref)] 3, blkA g46 #[.int .i64 ((hmakeV (hmake hp0 (newO 4 0 ByteArray.empty [])) 4).ref)] 3, blkA g45 #[.int .i64 (hoId (wkH l i) ((hdataV (hmake (hmake hp0 (newO 4 0 ByteArray.empty [])) (newO 4 0 ByteArray.empty [])) ⟨#[100]⟩).ref)), .int .i64 (hoSz (wkH l i) ((hdataV (hmake (hmake hp0 (newO 4 0 ByteArray.empty [])) (newO 4 0 ByteArray.empty [])) ⟨#[100]⟩).ref)), .int .i64 (hoWk (wkH l i) ((hdataV (hmake (hmake hp0 (newO 4 0 ByteArray.empty [])) (newO 4 0 ByteArray.empty [])) ⟨#[100]⟩).ref) weak), rv41, ev42] 57, own iTy rv41 (hrefs (wkH l i) ((hdataV (hmake (hmake hp0 (newO 4 0 ByteArray.empty [])) (newO 4 0 ByteArray.empty [])) ⟨#[100]⟩).ref)), own EntT ev42 (hents (wkH l i) ((hdataV (hmake (hmake hp0 (newO 4 0 ByteArray.empty [])) (newO 4 0 ByteArray.empty [])) ⟨#[100]⟩).ref)), hpA hb4 (wkH l i), blkA g40 #[.int .i64 (hoId (wkH l i) ((hmakeV hp0 4).ref)), .int .i64 (hoSz (wkH l i) ((hmakeV hp0 4).ref)), .int .i64 (hoWk (wkH l i) ((hmakeV hp0 4).ref) weak), rv36, ev37] 57, own iTy rv36 (hrefs (wkH l i) ((hmakeV hp0 4).ref)), own EntT ev37 (hents (wkH l i) ((hmakeV hp0 4).ref)), blkA g16 #[.int .i64 ((hdataV (hmake (hmake hp0 (newO 4 0 ByteArray.empty [])) (newO 4 0 ByteArray.empty [])) ⟨#[100]⟩).kind), .int .i64 ((hdataV (hmake (hmake hp0 (newO 4 0 ByteArray.empty [])) (newO 4 0 ByteArray.empty [])) ⟨#[100]⟩).p), .int .i64 ((hdataV (hmake (hmake hp0 (newO 4 0 ByteArray.empty [])) (newO 4 0 ByteArray.empty [])) ⟨#[100]⟩).q), .string ((hdataV (hmake (hmake hp0 (newO 4 0 ByteArray.empty [])) (newO 4 0 ByteArray.empty [])) ⟨#[100]⟩).str), .int .i64 ((hdataV (hmake (hmake hp0 (newO 4 0 ByteArray.empty [])) (newO 4 0 ByteArray.empty [])) ⟨#[100]⟩).ref)] 26, blkA g12 #[.int .i64 ((hmakeV (hmake hp0 (newO 4 0 ByteArray.empty [])) 4).kind), .int .i64 ((hmakeV (hmake hp0 (newO 4 0 ByteArray.empty [])) 4).p), .int .i64 ((hmakeV (hmake hp0 (newO 4 0 ByteArray.empty [])) 4).q), .string ((hmakeV (hmake hp0 (newO 4 0 ByteArray.empty [])) 4).str), .int .i64 ((hmakeV (hmake hp0 (newO 4 0 ByteArray.empty [])) 4).ref)] 26, blkA g8 #[.int .i64 ((hmakeV hp0 4).kind), .int .i64 ((hmakeV hp0 4).p), .int .i64 ((hmakeV hp0 4).q), .string ((hmakeV hp0 4).str), .int .i64 ((hmakeV hp0 4).ref)] 26]
    refine k_sr ?_
    refine s_lt t_cmp ?_
    refine s_nt ?_
    refine k_seq ?_
    refine k_cond (decide ((j : Int) < ((hents (wkH l i) ((hmakeV hp0 4).ref)).length : Int))) (fun c71 => ?_) (fun c71 => ?_)
    ·
     have p72 := of_decide_eq_true c71
     refine k_st ?_
     refine k_seq ?_
     refine k_block ?_
     refine k_sr ?_
     refine sp (.int .i64 (j : Int)) ?_
     refine sp (.int .i64 (j : Int)) ?_
     refine s_nr ?_
     refine sp (pB g40 4) ?_
     refine s_lt (t_load 6 ev37) ?_
     refine sp (.int .i64 (j : Int)) ?_
     refine s_lt (t_index EntT_ok Try.underlying55 (.own 8) (j : Int) j (by omega) (by (try simp only [lnm]); omega) (by omega)) ?_
     refine sp (.pointer (some (elemAt EntT.size ev37 j))) ?_
     obtain ⟨y73, hy74⟩ : ∃ y, (hents (wkH l i) ((hmakeV hp0 4).ref))[j]? = some y := ⟨_, List.getElem?_eq_getElem (by (try simp only [lnm]); omega)⟩
     refine s_lt (t_loadF 0 EntT_ok (.own 8) hy74) ?_
     refine s_lt (Lt.to t_cmp (congrArg Value.bool (decide_eq_false (fun h => h (hev y73 (List.mem_of_getElem? hy74)).1) : (decide (y73.key ≠ 0)) = false))) ?_
     refine sp (.bool false) ?_
     refine sp (pB g40 4) ?_
     refine s_lt (t_load 6 ev37) ?_
     refine sp (.int .i64 (j : Int)) ?_
     refine s_lt (t_index EntT_ok Try.underlying55 (.own 8) (j : Int) j (by omega) (by (try simp only [lnm]); omega) (by omega)) ?_
     refine sp (.pointer (some ((elemAt EntT.size ev37 j).add 1))) ?_
     refine s_lt (t_loadF 1 EntT_ok (.own 8) hy74) ?_
     refine s_lt (Lt.to t_cmp (congrArg Value.bool (decide_eq_false (fun h => by have := (hev y73 (List.mem_of_getElem? hy74)).2; omega) : (decide (y73.val < 1)) = false))) ?_
     refine sp (.bool false) ?_
     refine s_nt ?_
     refine k_false ?_
     refine k_skip ?_
     refine xs_block ?_
     refine xs_then ?_
     refine k_reg ?_
     refine s_lt (t_add (j : Int) 1 (by (try simp only [lnm]); omega)) ?_
     refine sp (.int .i64 ((j : Int) + 1)) ?_
     refine s_nil ?_
     exact xs_round (j + 1) (by omega) (by omega) (sub_of rfl ⟨⟨rfl, rfl⟩, ⟨⟨rfl, rfl⟩, ⟨⟨rfl, rfl⟩, trivial⟩⟩⟩) (fun _ h => h.re [0, 0, 0, 0, 0, 0, 0, 0, 0, 0, 0, 0] [])
    ·
     have p75 := of_decide_eq_false c71
     refine k_exit ?_
     refine xs_exit ?_
     refine xs_exit ?_
     refine xs_here ?_
     refine xs_then ?_
     refine k_sr ?_
     refine s_vcall (fun _ h => awake_s) ?_
     rintro _ rfl
     refine sp (.bool true) ?_
     refine s_nt ?_
     refine k_ret ?_
     exact xs_fin [.bool true] [] (SI.tmp 4 SI.nil) (fun _ h => h.re [] [0, 0, 0, 0, 0, 0, 0, 0, 0, 0, 0, 0]) ⟨rfl, rfl⟩
end Go.Proofs.Ytmilekfknhglkaa
