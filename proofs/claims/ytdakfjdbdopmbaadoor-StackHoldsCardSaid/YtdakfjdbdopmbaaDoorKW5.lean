/-
  The helpers of the statements of layer 17.
-/
import Derived.Test.YtdakfjdbdopmbaaDoorKW3
import Derived.Test.YtdakfjdbdopmbaaDoorKL3
set_option linter.unusedSimpArgs false
set_option linter.unusedVariables false
set_option maxRecDepth 100000
namespace Go.Proofs.YtdakfjdbdopmbaaDoor.St
open Go.Hp Go.J Go.S
open Go.Mem (Ty KTy blk elemAt pre suf blk_pre blk_suf aget aset strK aggDesc)

section
variable {Z : Zone} {F : List Asr} {b : Nat} {L L' : List Vl} {lim : Int} {e : Int}
theorem push_e {v : Vl} (hp : pushR L lim v = (e, L')) : SF Tryd.prog 16 #[.pointer (some ⟨b, 0, none⟩), v.v] Z (stkA 78 b L lim :: F) fun r Bs => r = .int .i64 e ∧ Bs = stkA 78 b L' lim :: F := by have := push_s (Z := Z) (F := F) (b := b) (L := L) (lim := lim) v; rw [hp] at this; exact this
end
theorem take_eq_succ {A B : List Vl} {i : Nat} {x : Vl} (h : A.take i = B.take i) (ha : A[i]? = some x) (hb : B[i]? = some x) : A.take (i + 1) = B.take (i + 1) := by
  rw [List.take_add_one, List.take_add_one, h, ha, hb]
theorem ne_of_get {A B : List Vl} {i : Nat} {x y : Vl} (ha : A[i]? = some x) (hb : B[i]? = some y) (h : x ≠ y) : A ≠ B := by
  rintro rfl; rw [ha] at hb; exact h (Option.some.inj hb)
theorem number_s {Z : Zone} (n : Int) : SF Tryd.prog 33 #[.int .i64 n] Z [] fun r Bs => r = (numV n).v ∧ Bs = [] := by
  refine sf_enter Tryd.func33 6 [(0, .int .i64 n)] (fun w0 => ?_)
  refine k_seq ?_
  refine k_reg ?_
  refine s_alloc (.agg #[.int .i64 0, .int .i64 0, .int .i64 0, .string ByteArray.empty, .int .i64 0]) #[.int .i64 0, .int .i64 0, .int .i64 0, .string ByteArray.empty, .int .i64 0] (fun g1 => ?_)
  refine s_nil ?_
  refine xs_then ?_
  refine k_seq ?_
  refine k_reg ?_
  refine s_lt (t_pure (.int .i64 n)) ?_
  refine s_lt (t_kern (.agg #[.int .i64 n, .int .i64 1])) ?_
  refine s_lt (t_kern (.agg #[.int .i64 2, .int .i64 n, .int .i64 1, .string ByteArray.empty, .int .i64 0])) ?_
  refine s_store 0 #[.int .i64 2, .int .i64 n, .int .i64 1, .string ByteArray.empty, .int .i64 0] ?_
  refine s_nil ?_
  refine xs_then ?_
  refine k_ret ?_
  refine xs_fin [.agg #[.int .i64 2, .int .i64 n, .int .i64 1, .string ByteArray.empty, .int .i64 0]] [] (SI.agg 2 39 0 SI.nil) (fun _ h => h.re [] [0]) ⟨?_, rfl⟩
  rfl
theorem same_s {Z : Zone} {va vb : Value} {A B : List Vl} (hA : Kn Z VlT va A) (hB : Kn Z VlT vb B) : SF Tryd.prog 36 #[va, vb] Z [] fun r Bs => r = .bool (decide (A = B)) ∧ Bs = [] := by
  refine sf_enter Tryd.func36 26 [(0, va), (1, vb)] (fun w0 => ?_)
  refine k_fact (fun H h => (hA.get h).len_le) (fun lA => ?_)
  refine k_seq ?_
  refine k_reg ?_
  refine s_lt (t_pure (.bool false)) ?_
  refine s_nil ?_
  refine xs_then ?_
  refine k_seq ?_
  refine k_seq ?_
  refine k_reg ?_
  refine s_lt (t_pure va) ?_
  refine s_lt (t_len VlT_ok Tryd.underlying61 (.zn hA)) ?_
  refine s_lt (t_pure vb) ?_
  refine s_lt (t_len VlT_ok Tryd.underlying61 (.zn hB)) ?_
  refine s_lt t_cmp ?_
  refine s_nil ?_
  refine xs_then ?_
  refine k_cond (decide ((A.length : Int) ≠ (B.length : Int))) (fun c1 => ?_) (fun c1 => ?_)
  ·
    have p2 := of_decide_eq_true c1
    refine k_seq ?_
    refine k_reg ?_
    refine s_lt (t_pure (.bool false)) ?_
    refine s_nil ?_
    refine xs_then ?_
    refine k_ret ?_
    refine xs_ret ?_
    refine xs_fin [.bool false] [] (SI.tmp 4 SI.nil) (fun _ h => h.re [] []) ⟨congrArg Value.bool ?_, rfl⟩
    exact (decide_eq_false (fun e => by subst e; omega)).symm
  ·
    have p3 := Decidable.not_not.1 (of_decide_eq_false c1)
    refine k_skip ?_
    refine xs_then ?_
    refine k_seq ?_
    refine k_seq ?_
    refine k_reg ?_
    refine s_lt (t_pure va) ?_
    refine s_lt (t_len VlT_ok Tryd.underlying61 (.zn hA)) ?_
    refine s_lt (t_pure (.int .i64 0)) ?_
    refine s_nil ?_
    refine xs_then ?_
    refine k_block ?_
    refine k_loop (ι := Nat) (fun i => i ≤ A.length ∧ A.take i = B.take i) (fun i => [(0, va), (1, vb), (4, .bool false), (12, .int .i64 (A.length : Int)), (13, .int .i64 (i : Int))]) (fun i => []) (fun i => A.length - i) 0 ⟨Nat.zero_le _, rfl⟩ (sub_of rfl ⟨⟨rfl, rfl⟩, ⟨⟨rfl, rfl⟩, ⟨⟨rfl, rfl⟩, ⟨⟨rfl, rfl⟩, ⟨⟨rfl, rfl⟩, trivial⟩⟩⟩⟩⟩) (fun _ h => h.re [] []) ?_
    rintro i hi4
    show SK _ _ _ _ _ [(0, va), (1, vb), (4, .bool false), (12, .int .i64 (A.length : Int)), (13, .int .i64 (i : Int))] _ []
    refine k_seq ?_
    refine k_reg ?_
    refine s_lt t_cmp ?_
    refine s_nil ?_
    refine xs_then ?_
    refine k_seq ?_
    refine k_cond (decide ((i : Int) < (A.length : Int))) (fun c5 => ?_) (fun c5 => ?_)
    ·
      have p6 := of_decide_eq_true c5
      refine k_skip ?_
      refine xs_then ?_
      refine k_seq ?_
      refine k_block ?_
      refine k_seq ?_
      refine k_reg ?_
      refine s_lt (t_pure (.int .i64 (i : Int))) ?_
      refine s_lt (t_pure (.int .i64 (i : Int))) ?_
      refine s_nil ?_
      refine xs_then ?_
      refine k_seq ?_
      refine k_draw ?_
      refine s_lt (t_pure va) ?_
      refine s_lt (t_pure (.int .i64 (i : Int))) ?_
      refine s_lt (t_index VlT_ok Tryd.underlying61 (.zn hA) (i : Int) i (by omega) (by (try simp only [List.length_nil, List.length_cons, List.length_append, List.length_take, List.length_drop, List.length_set, List.length_replicate, List.length_reverse]); omega) (by omega)) ?_
      obtain ⟨y7, hy8⟩ : ∃ y, A[i]? = some y := ⟨_, List.getElem?_eq_getElem (by (try simp only [List.length_nil, List.length_cons, List.length_append, List.length_take, List.length_drop, List.length_set, List.length_replicate, List.length_reverse]); omega)⟩
      refine s_lt (t_loadE VlT_ok (.zn hA) hy8) ?_
      refine s_lt (t_pure vb) ?_
      refine s_lt (t_pure (.int .i64 (i : Int))) ?_
      refine s_lt (t_index VlT_ok Tryd.underlying61 (.zn hB) (i : Int) i (by omega) (by (try simp only [List.length_nil, List.length_cons, List.length_append, List.length_take, List.length_drop, List.length_set, List.length_replicate, List.length_reverse]); omega) (by omega)) ?_
      obtain ⟨y9, hy10⟩ : ∃ y, B[i]? = some y := ⟨_, List.getElem?_eq_getElem (by (try simp only [List.length_nil, List.length_cons, List.length_append, List.length_take, List.length_drop, List.length_set, List.length_replicate, List.length_reverse]); omega)⟩
      refine s_lt (t_loadE VlT_ok (.zn hB) hy10) ?_
      refine s_lt (t_eqS (fun w => (eqVlT y7 y9 w).2)) ?_
      refine s_nil ?_
      refine x_dynS (fun _ h => by kernel_rfl) ?_
      refine xs_then ?_
      refine k_cond (!(decide (y7 = y9))) (fun c11 => ?_) (fun c11 => ?_)
      ·
        have c12 := not_t c11
        have p13 := of_decide_eq_false c12
        refine k_seq ?_
        refine k_reg ?_
        refine s_lt (t_pure (.bool false)) ?_
        refine s_nil ?_
        refine xs_then ?_
        refine k_ret ?_
        refine xs_retBlock ?_
        refine xs_ret ?_
        refine xs_ret ?_
        refine xs_retBlock ?_
        refine xs_ret ?_
        refine xs_fin [.bool false] [] (SI.tmp 4 SI.nil) (fun _ h => h.re [] []) ⟨congrArg Value.bool ?_, rfl⟩
        exact (decide_eq_false (ne_of_get hy8 hy10 p13)).symm
      ·
        have c14 := not_f c11
        have p15 := of_decide_eq_true c14
        refine k_skip ?_
        refine xs_block ?_
        refine xs_then ?_
        refine k_reg ?_
        refine s_lt (t_add (i : Int) 1 (by (try simp only [List.length_nil, List.length_cons, List.length_append, List.length_take, List.length_drop, List.length_set, List.length_replicate, List.length_reverse]); omega)) ?_
        refine s_lt (t_pure (.int .i64 ((i : Int) + 1))) ?_
        refine s_nil ?_
        exact xs_round (i + 1) (by omega) (by obtain ⟨hi1, hi2⟩ := hi4; exact ⟨by omega, take_eq_succ hi2 hy8 (by rw [p15]; exact hy10)⟩) (sub_of rfl ⟨⟨rfl, rfl⟩, ⟨⟨rfl, rfl⟩, ⟨⟨rfl, rfl⟩, ⟨⟨rfl, rfl⟩, ⟨⟨rfl, rfl⟩, trivial⟩⟩⟩⟩⟩) (fun _ h => h.re [] [])
    ·
      have p16 := of_decide_eq_false c5
      refine k_exit ?_
      refine xs_exit ?_
      refine xs_exit ?_
      refine xs_here ?_
      refine xs_then ?_
      refine k_seq ?_
      refine k_reg ?_
      refine s_lt (t_pure (.bool true)) ?_
      refine s_nil ?_
      refine xs_then ?_
      refine k_ret ?_
      refine xs_fin [.bool true] [] (SI.tmp 4 SI.nil) (fun _ h => h.re [] []) ⟨congrArg Value.bool ?_, rfl⟩
      obtain ⟨hi1, hi2⟩ := hi4; have e : i = A.length := by omega
      exact (decide_eq_true (by rw [e, List.take_length, List.take_of_length_le (by omega)] at hi2; exact hi2)).symm
end Go.Proofs.YtdakfjdbdopmbaaDoor.St
