/-
  Lists compared; Fit, Enter; the chapter example; FramesTraces walked.
-/
import Derived.Test.YtdakfjdbdopmbaaDoorFW1
set_option linter.unusedSimpArgs false
set_option linter.unusedVariables false
set_option maxRecDepth 100000
namespace Go.Proofs.YtdakfjdbdopmbaaDoor.Fs
open Go.Hp Go.J Go.S
open Go.Mem (Ty KTy blk elemAt pre suf blk_pre blk_suf aget aset strK aggDesc)
theorem values_s {Z : Zone} {va vb : Value} {A B : List Vl} (hA : Kn Z VlT va A) (hB : Kn Z VlT vb B) : SF Tryd.prog 26 #[va, vb] Z [] fun r Bs => r = .bool (decide (A = B)) ∧ Bs = [] := by
  refine sf_enter Tryd.func26 26 [(0, va), (1, vb)] (fun w0 => ?_)
  refine k_fact (fun H h => (hA.get h).len_le) (fun lA => ?_)
  refine k_seq ?_
  refine k_reg ?_
  refine s_lt (t_pure (.bool false)) ?_
  refine s_nil ?_
  refine xs_then ?_
  refine k_seq ?_
  refine k_seq ?_
  refine k_reg ?_
  refine s_lt (t_pure va) ?_
  refine s_lt (t_len VlT_ok Tryd.underlying61 (.zn hA)) ?_
  refine s_lt (t_pure vb) ?_
  refine s_lt (t_len VlT_ok Tryd.underlying61 (.zn hB)) ?_
  refine s_lt t_cmp ?_
  refine s_nil ?_
  refine xs_then ?_
  refine k_cond (decide ((A.length : Int) ≠ (B.length : Int))) (fun c1 => ?_) (fun c1 => ?_)
  ·
    have p2 := of_decide_eq_true c1
    refine k_seq ?_
    refine k_reg ?_
    refine s_lt (t_pure (.bool false)) ?_
    refine s_nil ?_
    refine xs_then ?_
    refine k_ret ?_
    refine xs_ret ?_
    refine xs_fin [.bool false] [] (SI.tmp 4 SI.nil) (fun _ h => h.re [] []) ⟨congrArg Value.bool ?_, rfl⟩
    exact (decide_eq_false (fun e => by subst e; omega)).symm
  ·
    have p3 := Decidable.not_not.1 (of_decide_eq_false c1)
    refine k_skip ?_
    refine xs_then ?_
    refine k_seq ?_
    refine k_seq ?_
    refine k_reg ?_
    refine s_lt (t_pure (.int .i64 0)) ?_
    refine s_nil ?_
    refine xs_then ?_
    refine k_block ?_
    refine k_loop (ι := Nat) (fun i => i ≤ A.length ∧ A.take i = B.take i) (fun i => [(0, va), (1, vb), (4, .bool false), (5, .int .i64 (i : Int))]) (fun i => []) (fun i => A.length - i) 0 ⟨Nat.zero_le _, rfl⟩ (sub_of rfl ⟨⟨rfl, rfl⟩, ⟨⟨rfl, rfl⟩, ⟨⟨rfl, rfl⟩, ⟨⟨rfl, rfl⟩, trivial⟩⟩⟩⟩) (fun _ h => h.re [] []) ?_
    rintro i hi4
    show SK _ _ _ _ _ [(0, va), (1, vb), (4, .bool false), (5, .int .i64 (i : Int))] _ []
    refine k_seq ?_
    refine k_seq ?_
    refine k_reg ?_
    refine s_lt (t_pure (.int .i64 (i : Int))) ?_
    refine s_lt (t_pure va) ?_
    refine s_lt (t_len VlT_ok Tryd.underlying61 (.zn hA)) ?_
    refine s_lt t_cmp ?_
    refine s_nil ?_
    refine xs_then ?_
    refine k_cond (decide ((i : Int) < (A.length : Int))) (fun c5 => ?_) (fun c5 => ?_)
    ·
      have p6 := of_decide_eq_true c5
      refine k_skip ?_
      refine xs_then ?_
      refine k_seq ?_
      refine k_block ?_
      refine k_seq ?_
      refine k_draw ?_
      refine s_lt (t_pure va) ?_
      refine s_lt (t_pure (.int .i64 (i : Int))) ?_
      refine s_lt (t_index VlT_ok Tryd.underlying61 (.zn hA) (i : Int) i (by omega) (by (try simp only [List.length_nil, List.length_cons, List.length_append, List.length_take, List.length_drop, List.length_set, List.length_replicate, List.length_reverse, ByteArray.size_append, sz_mk]); omega) (by omega)) ?_
      obtain ⟨y7, hy8⟩ : ∃ y, A[i]? = some y := ⟨_, List.getElem?_eq_getElem (by (try simp only [List.length_nil, List.length_cons, List.length_append, List.length_take, List.length_drop, List.length_set, List.length_replicate, List.length_reverse, ByteArray.size_append, sz_mk]); omega)⟩
      refine s_lt (t_loadE VlT_ok (.zn hA) hy8) ?_
      refine s_lt (t_pure vb) ?_
      refine s_lt (t_pure (.int .i64 (i : Int))) ?_
      refine s_lt (t_index VlT_ok Tryd.underlying61 (.zn hB) (i : Int) i (by omega) (by (try simp only [List.length_nil, List.length_cons, List.length_append, List.length_take, List.length_drop, List.length_set, List.length_replicate, List.length_reverse, ByteArray.size_append, sz_mk]); omega) (by omega)) ?_
      obtain ⟨y9, hy10⟩ : ∃ y, B[i]? = some y := ⟨_, List.getElem?_eq_getElem (by (try simp only [List.length_nil, List.length_cons, List.length_append, List.length_take, List.length_drop, List.length_set, List.length_replicate, List.length_reverse, ByteArray.size_append, sz_mk]); omega)⟩
      refine s_lt (t_loadE VlT_ok (.zn hB) hy10) ?_
      refine s_lt (t_eqS (fun w => (eqVlT y7 y9 w).2)) ?_
      refine s_nil ?_
      refine x_dynS (fun _ h => by kernel_rfl) ?_
      refine xs_then ?_
      refine k_cond (!(decide (y7 = y9))) (fun c11 => ?_) (fun c11 => ?_)
      ·
        have c12 := not_t c11
        have p13 := of_decide_eq_false c12
        refine k_seq ?_
        refine k_reg ?_
        refine s_lt (t_pure (.bool false)) ?_
        refine s_nil ?_
        refine xs_then ?_
        refine k_ret ?_
        refine xs_retBlock ?_
        refine xs_ret ?_
        refine xs_ret ?_
        refine xs_retBlock ?_
        refine xs_ret ?_
        refine xs_fin [.bool false] [] (SI.tmp 4 SI.nil) (fun _ h => h.re [] []) ⟨congrArg Value.bool ?_, rfl⟩
        exact (decide_eq_false (ne_of_get hy8 hy10 p13)).symm
      ·
        have c14 := not_f c11
        have p15 := of_decide_eq_true c14
        refine k_skip ?_
        refine xs_block ?_
        refine xs_then ?_
        refine k_reg ?_
        refine s_lt (t_pure (.int .i64 (i : Int))) ?_
        refine s_lt (t_add (i : Int) 1 (by (try simp only [List.length_nil, List.length_cons, List.length_append, List.length_take, List.length_drop, List.length_set, List.length_replicate, List.length_reverse, ByteArray.size_append, sz_mk]); omega)) ?_
        refine s_lt (t_pure (.int .i64 ((i : Int) + 1))) ?_
        refine s_nil ?_
        exact xs_round (i + 1) (by omega) (by obtain ⟨hi1, hi2⟩ := hi4; exact ⟨by omega, take_eq_succ hi2 hy8 (by rw [p15]; exact hy10)⟩) (sub_of rfl ⟨⟨rfl, rfl⟩, ⟨⟨rfl, rfl⟩, ⟨⟨rfl, rfl⟩, ⟨⟨rfl, rfl⟩, trivial⟩⟩⟩⟩) (fun _ h => h.re [] [])
    ·
      have p16 := of_decide_eq_false c5
      refine k_exit ?_
      refine xs_exit ?_
      refine xs_exit ?_
      refine xs_here ?_
      refine xs_then ?_
      refine k_seq ?_
      refine k_reg ?_
      refine s_lt (t_pure (.bool true)) ?_
      refine s_nil ?_
      refine xs_then ?_
      refine k_ret ?_
      refine xs_fin [.bool true] [] (SI.tmp 4 SI.nil) (fun _ h => h.re [] []) ⟨congrArg Value.bool ?_, rfl⟩
      obtain ⟨hi1, hi2⟩ := hi4; have e : i = A.length := by omega
      exact (decide_eq_true (by rw [e, List.take_length, List.take_of_length_le (by omega)] at hi2; exact hi2)).symm
theorem places_s {Z : Zone} {va vb : Value} {A B : List Pl} (hA : Kn Z PlT va A) (hB : Kn Z PlT vb B) : SF Tryd.prog 11 #[va, vb] Z [] fun r Bs => r = .bool (decide (A = B)) ∧ Bs = [] := by
  refine sf_enter Tryd.func11 26 [(0, va), (1, vb)] (fun w0 => ?_)
  refine k_fact (fun H h => (hA.get h).len_le) (fun lA => ?_)
  refine k_seq ?_
  refine k_reg ?_
  refine s_lt (t_pure (.bool false)) ?_
  refine s_nil ?_
  refine xs_then ?_
  refine k_seq ?_
  refine k_seq ?_
  refine k_reg ?_
  refine s_lt (t_pure va) ?_
  refine s_lt (t_len PlT_ok Tryd.underlying26 (.zn hA)) ?_
  refine s_lt (t_pure vb) ?_
  refine s_lt (t_len PlT_ok Tryd.underlying26 (.zn hB)) ?_
  refine s_lt t_cmp ?_
  refine s_nil ?_
  refine xs_then ?_
  refine k_cond (decide ((A.length : Int) ≠ (B.length : Int))) (fun c1 => ?_) (fun c1 => ?_)
  ·
    have p2 := of_decide_eq_true c1
    refine k_seq ?_
    refine k_reg ?_
    refine s_lt (t_pure (.bool false)) ?_
    refine s_nil ?_
    refine xs_then ?_
    refine k_ret ?_
    refine xs_ret ?_
    refine xs_fin [.bool false] [] (SI.tmp 4 SI.nil) (fun _ h => h.re [] []) ⟨congrArg Value.bool ?_, rfl⟩
    exact (decide_eq_false (fun e => by subst e; omega)).symm
  ·
    have p3 := Decidable.not_not.1 (of_decide_eq_false c1)
    refine k_skip ?_
    refine xs_then ?_
    refine k_seq ?_
    refine k_seq ?_
    refine k_reg ?_
    refine s_lt (t_pure (.int .i64 0)) ?_
    refine s_nil ?_
    refine xs_then ?_
    refine k_block ?_
    refine k_loop (ι := Nat) (fun i => i ≤ A.length ∧ A.take i = B.take i) (fun i => [(0, va), (1, vb), (4, .bool false), (5, .int .i64 (i : Int))]) (fun i => []) (fun i => A.length - i) 0 ⟨Nat.zero_le _, rfl⟩ (sub_of rfl ⟨⟨rfl, rfl⟩, ⟨⟨rfl, rfl⟩, ⟨⟨rfl, rfl⟩, ⟨⟨rfl, rfl⟩, trivial⟩⟩⟩⟩) (fun _ h => h.re [] []) ?_
    rintro i hi4
    show SK _ _ _ _ _ [(0, va), (1, vb), (4, .bool false), (5, .int .i64 (i : Int))] _ []
    refine k_seq ?_
    refine k_seq ?_
    refine k_reg ?_
    refine s_lt (t_pure (.int .i64 (i : Int))) ?_
    refine s_lt (t_pure va) ?_
    refine s_lt (t_len PlT_ok Tryd.underlying26 (.zn hA)) ?_
    refine s_lt t_cmp ?_
    refine s_nil ?_
    refine xs_then ?_
    refine k_cond (decide ((i : Int) < (A.length : Int))) (fun c5 => ?_) (fun c5 => ?_)
    ·
      have p6 := of_decide_eq_true c5
      refine k_skip ?_
      refine xs_then ?_
      refine k_seq ?_
      refine k_block ?_
      refine k_seq ?_
      refine k_draw ?_
      refine s_lt (t_pure va) ?_
      refine s_lt (t_pure (.int .i64 (i : Int))) ?_
      refine s_lt (t_index PlT_ok Tryd.underlying26 (.zn hA) (i : Int) i (by omega) (by (try simp only [List.length_nil, List.length_cons, List.length_append, List.length_take, List.length_drop, List.length_set, List.length_replicate, List.length_reverse, ByteArray.size_append, sz_mk]); omega) (by omega)) ?_
      obtain ⟨y7, hy8⟩ : ∃ y, A[i]? = some y := ⟨_, List.getElem?_eq_getElem (by (try simp only [List.length_nil, List.length_cons, List.length_append, List.length_take, List.length_drop, List.length_set, List.length_replicate, List.length_reverse, ByteArray.size_append, sz_mk]); omega)⟩
      refine s_lt (t_loadE PlT_ok (.zn hA) hy8) ?_
      refine s_lt (t_pure vb) ?_
      refine s_lt (t_pure (.int .i64 (i : Int))) ?_
      refine s_lt (t_index PlT_ok Tryd.underlying26 (.zn hB) (i : Int) i (by omega) (by (try simp only [List.length_nil, List.length_cons, List.length_append, List.length_take, List.length_drop, List.length_set, List.length_replicate, List.length_reverse, ByteArray.size_append, sz_mk]); omega) (by omega)) ?_
      obtain ⟨y9, hy10⟩ : ∃ y, B[i]? = some y := ⟨_, List.getElem?_eq_getElem (by (try simp only [List.length_nil, List.length_cons, List.length_append, List.length_take, List.length_drop, List.length_set, List.length_replicate, List.length_reverse, ByteArray.size_append, sz_mk]); omega)⟩
      refine s_lt (t_loadE PlT_ok (.zn hB) hy10) ?_
      refine s_lt (t_eqS (fun w => (eqPlT y7 y9 w).2)) ?_
      refine s_nil ?_
      refine x_dynS (fun _ h => by kernel_rfl) ?_
      refine xs_then ?_
      refine k_cond (!(decide (y7 = y9))) (fun c11 => ?_) (fun c11 => ?_)
      ·
        have c12 := not_t c11
        have p13 := of_decide_eq_false c12
        refine k_seq ?_
        refine k_reg ?_
        refine s_lt (t_pure (.bool false)) ?_
        refine s_nil ?_
        refine xs_then ?_
        refine k_ret ?_
        refine xs_retBlock ?_
        refine xs_ret ?_
        refine xs_ret ?_
        refine xs_retBlock ?_
        refine xs_ret ?_
        refine xs_fin [.bool false] [] (SI.tmp 4 SI.nil) (fun _ h => h.re [] []) ⟨congrArg Value.bool ?_, rfl⟩
        exact (decide_eq_false (ne_of_get hy8 hy10 p13)).symm
      ·
        have c14 := not_f c11
        have p15 := of_decide_eq_true c14
        refine k_skip ?_
        refine xs_block ?_
        refine xs_then ?_
        refine k_reg ?_
        refine s_lt (t_pure (.int .i64 (i : Int))) ?_
        refine s_lt (t_add (i : Int) 1 (by (try simp only [List.length_nil, List.length_cons, List.length_append, List.length_take, List.length_drop, List.length_set, List.length_replicate, List.length_reverse, ByteArray.size_append, sz_mk]); omega)) ?_
        refine s_lt (t_pure (.int .i64 ((i : Int) + 1))) ?_
        refine s_nil ?_
        exact xs_round (i + 1) (by omega) (by obtain ⟨hi1, hi2⟩ := hi4; exact ⟨by omega, take_eq_succ hi2 hy8 (by rw [p15]; exact hy10)⟩) (sub_of rfl ⟨⟨rfl, rfl⟩, ⟨⟨rfl, rfl⟩, ⟨⟨rfl, rfl⟩, ⟨⟨rfl, rfl⟩, trivial⟩⟩⟩⟩) (fun _ h => h.re [] [])
    ·
      have p16 := of_decide_eq_false c5
      refine k_exit ?_
      refine xs_exit ?_
      refine xs_exit ?_
      refine xs_here ?_
      refine xs_then ?_
      refine k_seq ?_
      refine k_reg ?_
      refine s_lt (t_pure (.bool true)) ?_
      refine s_nil ?_
      refine xs_then ?_
      refine k_ret ?_
      refine xs_fin [.bool true] [] (SI.tmp 4 SI.nil) (fun _ h => h.re [] []) ⟨congrArg Value.bool ?_, rfl⟩
      obtain ⟨hi1, hi2⟩ := hi4; have e : i = A.length := by omega
      exact (decide_eq_true (by rw [e, List.take_length, List.take_of_length_le (by omega)] at hi2; exact hi2)).symm
theorem fit_s {Z : Zone} {lv : Value} {l : List Vl} (n : Int) (hL : Kn Z VlT lv l) (hl : l.length ≤ 1000) : SF Tryd.prog 27 #[lv, .int .i64 n] Z [] fun r Bs => Bs = [own VlT r (fitL l n)] := by
  refine sf_enter Tryd.func27 17 [(0, lv), (1, .int .i64 n)] (fun w0 => ?_)
  refine k_seq ?_
  refine k_reg ?_
  refine s_lt (t_pure (.slice none 0 0)) ?_
  refine s_nil ?_
  refine xs_then ?_
  refine k_seq ?_
  refine k_seq ?_
  refine k_reg ?_
  refine s_lt (t_pure (.int .i64 n)) ?_
  refine s_lt t_cmp ?_
  refine s_nil ?_
  refine xs_then ?_
  refine k_cond (decide (n < 0)) (fun c1 => ?_) (fun c1 => ?_)
  ·
    have p2 := of_decide_eq_true c1
    refine k_seq ?_
    refine k_reg ?_
    refine s_lt (t_pure lv) ?_
    refine s_appendN VlT_ok Tryd.underlying61 (.zn hL) (by show _ * 48 ≤ _; (try simp only [List.length_nil, List.length_cons, List.length_append, List.length_take, List.length_drop, List.length_set, List.length_replicate, List.length_reverse, ByteArray.size_append, sz_mk]); omega) (fun v3 => ?_)
    refine s_fact (fun H h => ((Acc.own (T := VlT) (L := l) 0 rfl) H h).form) (fun hf4 => ?_)
    refine s_lt (t_pure v3) ?_
    refine s_nil ?_
    refine xs_then ?_
    refine k_ret ?_
    refine xs_ret ?_
    have hp : fitL l n = l := by first | exact if_pos (by omega) | (rw [fitL, if_neg (by omega)]; exact (fit_copy l _).symm)
    exact xs_fin [v3] [own VlT v3 (fitL l n)] (SI.tmp 4 SI.nil) (fun _ h => by rw [hp]; exact h.re [0] []) rfl
  ·
    have p5 := of_decide_eq_false c1
    refine k_skip ?_
    refine xs_then ?_
    refine k_seq ?_
    refine k_reg ?_
    refine s_lt (t_pure (.int .i64 n)) ?_
    refine s_lt t_min ?_
    refine s_make VlT_ok Tryd.underlying61 (if 200 < n then 200 else n) (by omega) (by show 48 * _ ≤ _; omega) (by omega) (fun v6 => ?_)
    refine s_lt (t_pure v6) ?_
    refine s_nil ?_
    refine xs_then ?_
    refine k_seq ?_
    refine k_reg ?_
    refine s_lt (t_pure v6) ?_
    refine s_lt (t_pure lv) ?_
    refine s_copy 0 VlT_ok Tryd.underlying61 (.zn hL) ?_
    refine s_nil ?_
    refine xs_then ?_
    refine k_seq ?_
    refine k_reg ?_
    refine s_lt (t_pure v6) ?_
    refine s_lt (t_pure v6) ?_
    refine s_nil ?_
    refine xs_then ?_
    refine k_ret ?_
    have hp : fitL l n = (l.take (List.replicate (((if 200 < n then 200 else n)).toNat) VlT.zero).length ++ (List.replicate (((if 200 < n then 200 else n)).toNat) VlT.zero).drop l.length) := by first | exact if_pos (by omega) | (rw [fitL, if_neg (by omega)]; exact (fit_copy l _).symm)
    exact xs_fin [v6] [own VlT v6 (fitL l n)] (SI.tmp 4 SI.nil) (fun _ h => by rw [hp]; exact h.re [0] []) rfl
theorem enter_s {Z : Zone} {lv : Value} {l : List Vl} (n : Int) (vb : Bool) (hL : Kn Z VlT lv l) (hl : l.length ≤ 1000) : SF Tryd.prog 24 #[lv, .int .i64 n, .bool vb] Z [] fun v Bs => ∃ v1 v2, v = .tuple #[v1, v2] ∧ Bs = [own VlT v1 (fitL l (par n)), own VlT v2 (extraL l n vb)] := by
  refine sf_enter Tryd.func24 28 [(0, lv), (1, .int .i64 n), (2, .bool vb)] (fun w0 => ?_)
  refine k_seq ?_
  refine k_reg ?_
  refine s_lt (t_pure (.slice none 0 0)) ?_
  refine s_lt (t_pure (.slice none 0 0)) ?_
  refine s_nil ?_
  refine xs_then ?_
  refine k_seq ?_
  refine k_reg ?_
  refine s_lt (t_pure (.int .i64 n)) ?_
  refine s_lt t_max ?_
  refine s_lt t_min ?_
  refine s_lt (t_pure (.int .i64 (if 200 < (if n < 0 then 0 else n) then 200 else (if n < 0 then 0 else n)))) ?_
  refine s_nil ?_
  refine xs_then ?_
  refine k_seq ?_
  refine k_cut (ι := Unit) (fun _ => True) (fun _ => [(0, lv), (6, (.slice none 0 0)), (7, (.slice none 0 0)), (8, .int .i64 (if 200 < (if n < 0 then 0 else n) then 200 else (if n < 0 then 0 else n))), (18, .bool (vb && (decide ((if 200 < (if n < 0 then 0 else n) then 200 else (if n < 0 then 0 else n)) < (l.length : Int)))))]) (fun _ => []) ?_ (fun _ _ => ?_)
  ·
    refine k_reg ?_
    refine s_lt (t_pure (.bool vb)) ?_
    refine s_lt (t_pure (.bool vb)) ?_
    refine s_fork 13 vb (fun c1 => ?_) (fun c1 => ?_)
    ·
      refine s_lt (t_pure lv) ?_
      refine s_lt (t_len VlT_ok Tryd.underlying61 (.zn hL)) ?_
      refine s_lt (t_pure (.int .i64 (if 200 < (if n < 0 then 0 else n) then 200 else (if n < 0 then 0 else n)))) ?_
      refine s_lt t_cmp ?_
      refine s_lt (t_pure (.bool (decide ((if 200 < (if n < 0 then 0 else n) then 200 else (if n < 0 then 0 else n)) < (l.length : Int))))) ?_
      refine s_nil ?_
      exact xs_cut () trivial (sub_of rfl ⟨⟨rfl, rfl⟩, ⟨⟨rfl, rfl⟩, ⟨⟨rfl, rfl⟩, ⟨⟨rfl, rfl⟩, ⟨⟨rfl, show Value.bool (decide ((if 200 < (if n < 0 then 0 else n) then 200 else (if n < 0 then 0 else n)) < (l.length : Int))) = Value.bool (vb && (decide ((if 200 < (if n < 0 then 0 else n) then 200 else (if n < 0 then 0 else n)) < (l.length : Int)))) by first | (simp only [c1, Bool.true_and, Bool.false_and, Bool.and_true, Bool.and_false, Bool.true_or, Bool.or_true, Bool.false_or, Bool.or_false, Bool.not_true, Bool.not_false]; done) | simp [c1]⟩, trivial⟩⟩⟩⟩⟩) (fun _ h => h.re [] [])
    ·
      refine s_skip ?_
      refine s_skip ?_
      refine s_skip ?_
      refine s_skip ?_
      refine s_lt (t_pure (.bool false)) ?_
      refine s_nil ?_
      exact xs_cut () trivial (sub_of rfl ⟨⟨rfl, rfl⟩, ⟨⟨rfl, rfl⟩, ⟨⟨rfl, rfl⟩, ⟨⟨rfl, rfl⟩, ⟨⟨rfl, show Value.bool false = Value.bool (vb && (decide ((if 200 < (if n < 0 then 0 else n) then 200 else (if n < 0 then 0 else n)) < (l.length : Int)))) by first | (simp only [c1, Bool.true_and, Bool.false_and, Bool.and_true, Bool.and_false, Bool.true_or, Bool.or_true, Bool.false_or, Bool.or_false, Bool.not_true, Bool.not_false]; done) | simp [c1]⟩, trivial⟩⟩⟩⟩⟩) (fun _ h => h.re [] [])
  ·
    refine k_cond (vb && (decide ((if 200 < (if n < 0 then 0 else n) then 200 else (if n < 0 then 0 else n)) < (l.length : Int)))) (fun c2 => ?_) (fun c2 => ?_)
    ·
      obtain ⟨c3, c4⟩ := and_t c2
      have p5 := of_decide_eq_true c4
      refine k_reg ?_
      refine s_lt (t_pure (.slice none 0 0)) ?_
      refine s_lt (t_pure lv) ?_
      refine s_lt (t_pure (.int .i64 (if 200 < (if n < 0 then 0 else n) then 200 else (if n < 0 then 0 else n)))) ?_
      refine s_lt (t_suf VlT_ok Tryd.underlying61 (.zn hL) (if 200 < (if n < 0 then 0 else n) then 200 else (if n < 0 then 0 else n)) (((if 200 < (if n < 0 then 0 else n) then 200 else (if n < 0 then 0 else n))).toNat) (by omega) (by (try simp only [List.length_nil, List.length_cons, List.length_append, List.length_take, List.length_drop, List.length_set, List.length_replicate, List.length_reverse, ByteArray.size_append, sz_mk]); omega) (by omega)) ?_
      refine s_appendN VlT_ok Tryd.underlying61 (Acc.suf (.zn hL) VlT_ok (((if 200 < (if n < 0 then 0 else n) then 200 else (if n < 0 then 0 else n))).toNat) (by (try simp only [List.length_nil, List.length_cons, List.length_append, List.length_take, List.length_drop, List.length_set, List.length_replicate, List.length_reverse, ByteArray.size_append, sz_mk]); omega)) (by show _ * 48 ≤ _; (try simp only [List.length_nil, List.length_cons, List.length_append, List.length_take, List.length_drop, List.length_set, List.length_replicate, List.length_reverse, ByteArray.size_append, sz_mk]); omega) (fun v6 => ?_)
      refine s_fact (fun H h => ((Acc.own (T := VlT) (L := (l.drop (((if 200 < (if n < 0 then 0 else n) then 200 else (if n < 0 then 0 else n))).toNat))) 0 rfl) H h).form) (fun hf7 => ?_)
      refine s_lt (t_pure v6) ?_
      refine s_nil ?_
      refine xs_then ?_
      refine k_seq ?_
      refine k_reg ?_
      refine s_lt (t_pure lv) ?_
      refine s_lt (t_pure (.int .i64 (if 200 < (if n < 0 then 0 else n) then 200 else (if n < 0 then 0 else n)))) ?_
      refine s_pcall (fun _ h => fit_s (if 200 < (if n < 0 then 0 else n) then 200 else (if n < 0 then 0 else n)) (Acc.kn (.zn hL) h) (by (try simp only [List.length_nil, List.length_cons, List.length_append, List.length_take, List.length_drop, List.length_set, List.length_replicate, List.length_reverse, ByteArray.size_append, sz_mk]); omega)) ?_
      rintro v8 _ rfl
      refine s_fact (fun H h => ((Acc.own (T := VlT) (L := (fitL l (if 200 < (if n < 0 then 0 else n) then 200 else (if n < 0 then 0 else n)))) 0 rfl) H h).form) (fun hf9 => ?_)
      refine s_lt (t_pure v6) ?_
      refine s_lt (t_pure v8) ?_
      refine s_lt (t_pure v6) ?_
      refine s_nil ?_
      refine xs_then ?_
      refine k_ret ?_
      refine xs_fin [v8, v6] [own VlT v8 (fitL l (par n)), own VlT v6 (l.drop (par n).toNat)] (SI.tmp 6 (SI.tmp 7 SI.nil)) (fun _ h => h.re [0, 0] []) ⟨_, _, rfl, ?_⟩
      rw [extraL, if_pos (by simp only [par, clip]; exact ⟨c3, p5⟩)]
    ·
      have p10 := c2
      simp only [Bool.and_eq_true, Bool.or_eq_true, Bool.and_eq_false_iff, Bool.or_eq_false_iff, Bool.not_eq_true', Bool.not_eq_false', decide_eq_true_eq, decide_eq_false_iff_not] at p10
      refine k_skip ?_
      refine xs_then ?_
      refine k_seq ?_
      refine k_reg ?_
      refine s_lt (t_pure lv) ?_
      refine s_lt (t_pure (.int .i64 (if 200 < (if n < 0 then 0 else n) then 200 else (if n < 0 then 0 else n)))) ?_
      refine s_pcall (fun _ h => fit_s (if 200 < (if n < 0 then 0 else n) then 200 else (if n < 0 then 0 else n)) (Acc.kn (.zn hL) h) (by (try simp only [List.length_nil, List.length_cons, List.length_append, List.length_take, List.length_drop, List.length_set, List.length_replicate, List.length_reverse, ByteArray.size_append, sz_mk]); omega)) ?_
      rintro v11 _ rfl
      refine s_fact (fun H h => ((Acc.own (T := VlT) (L := (fitL l (if 200 < (if n < 0 then 0 else n) then 200 else (if n < 0 then 0 else n)))) 0 rfl) H h).form) (fun hf12 => ?_)
      refine s_lt (t_pure (.slice none 0 0)) ?_
      refine s_lt (t_pure v11) ?_
      refine s_lt (t_pure (.slice none 0 0)) ?_
      refine s_nil ?_
      refine xs_then ?_
      refine k_ret ?_
      refine xs_fin [v11, (.slice none 0 0)] [own VlT v11 (fitL l (par n)), own VlT (.slice none 0 0) []] (SI.tmp 6 (SI.tmp 7 SI.nil)) (fun _ h => h.nilS.re [1] []) ⟨_, _, rfl, ?_⟩
      rw [extraL, if_neg (by simp only [par, clip]; rintro ⟨rfl, h⟩; simp at p10; omega)]
theorem awake_s {Z : Zone} : SF Tryd.prog 5 #[] Z [] fun r Bs => r = .bool true ∧ Bs = [] := by
  refine sf_enter Tryd.func5 89 [] (fun w0 => ?_)
  refine k_seq ?_
  refine k_reg ?_
  refine s_lt (t_pure (.bool false)) ?_
  refine s_nil ?_
  refine xs_then ?_
  refine k_seq ?_
  refine k_reg ?_
  refine s_pcall (fun _ h => new_s) ?_
  rintro _ _ ⟨b1, rfl, rfl⟩
  refine s_lt (t_pure (.pointer (some ⟨b1, 0, none⟩))) ?_
  refine s_nil ?_
  refine xs_then ?_
  refine k_seq ?_
  refine k_seq ?_
  refine k_reg ?_
  refine s_lt (t_pure (.pointer (some ⟨b1, 0, none⟩))) ?_
  refine s_lt (t_pure (.bool false)) ?_
  refine s_lt (t_pure (.bool false)) ?_
  refine s_lt (t_pure (.pointer (some ⟨b1, 0, none⟩))) ?_
  refine s_lt (t_kern (.agg #[.string ⟨#[109, 97, 105, 110]⟩, .int .i64 1, .int .i64 0, .int .i64 0, .int .i64 0, .bool false])) ?_
  refine s_call [0] (push_e (L := []) (⟨⟨#[109, 97, 105, 110]⟩, 1, 0, 0, 0, false⟩ : Fr) (show pushR [] (⟨⟨#[109, 97, 105, 110]⟩, 1, 0, 0, 0, false⟩ : Fr) = (0, [(⟨⟨#[109, 97, 105, 110]⟩, 1, 0, 0, 0, false⟩ : Fr)]) from rfl)) ?_
  rintro _ _ ⟨rfl, rfl⟩
  refine s_lt (t_cmp (c := false)) ?_
  refine s_lt (t_pure (.bool false)) ?_
  refine s_lt (t_pure (.bool false)) ?_
  refine s_lt (t_pure (.pointer (some ⟨b1, 0, none⟩))) ?_
  refine s_lt (t_kern (.agg #[.string ⟨#[102]⟩, .int .i64 7, .int .i64 0, .int .i64 0, .int .i64 0, .bool false])) ?_
  refine s_call [0] (push_e (L := [(⟨⟨#[109, 97, 105, 110]⟩, 1, 0, 0, 0, false⟩ : Fr)]) (⟨⟨#[102]⟩, 7, 0, 0, 0, false⟩ : Fr) (show pushR [(⟨⟨#[109, 97, 105, 110]⟩, 1, 0, 0, 0, false⟩ : Fr)] (⟨⟨#[102]⟩, 7, 0, 0, 0, false⟩ : Fr) = (0, [(⟨⟨#[109, 97, 105, 110]⟩, 1, 0, 0, 0, false⟩ : Fr), (⟨⟨#[102]⟩, 7, 0, 0, 0, false⟩ : Fr)]) from rfl)) ?_
  rintro _ _ ⟨rfl, rfl⟩
  refine s_lt (t_cmp (c := false)) ?_
  refine s_lt (t_pure (.bool false)) ?_
  refine s_lt (t_pure (.bool false)) ?_
  refine s_lt (t_pure (.pointer (some ⟨b1, 0, none⟩))) ?_
  refine s_call [0] (at_e (L := [(⟨⟨#[109, 97, 105, 110]⟩, 1, 0, 0, 0, false⟩ : Fr), (⟨⟨#[102]⟩, 7, 0, 0, 0, false⟩ : Fr)]) 8 (show atR [(⟨⟨#[109, 97, 105, 110]⟩, 1, 0, 0, 0, false⟩ : Fr), (⟨⟨#[102]⟩, 7, 0, 0, 0, false⟩ : Fr)] 8 = (0, [(⟨⟨#[109, 97, 105, 110]⟩, 1, 0, 0, 0, false⟩ : Fr), (⟨⟨#[102]⟩, 8, 0, 0, 0, false⟩ : Fr)]) from rfl)) ?_
  rintro _ _ ⟨rfl, rfl⟩
  refine s_lt (t_cmp (c := false)) ?_
  refine s_lt (t_pure (.bool false)) ?_
  refine s_nil ?_
  refine xs_then ?_
  refine k_false ?_
  refine k_skip ?_
  refine xs_then ?_
  refine k_seq ?_
  refine k_reg ?_
  refine s_lt (t_pure (.pointer (some ⟨b1, 0, none⟩))) ?_
  refine s_call [0] (trace_s) ?_
  rintro v2 _ rfl
  have htl3 := trL_len [(⟨⟨#[109, 97, 105, 110]⟩, 1, 0, 0, 0, false⟩ : Fr), (⟨⟨#[102]⟩, 8, 0, 0, 0, false⟩ : Fr)]
  refine s_fact (fun H h => ((Acc.own (T := PlT) (L := (trL [(⟨⟨#[109, 97, 105, 110]⟩, 1, 0, 0, 0, false⟩ : Fr), (⟨⟨#[102]⟩, 8, 0, 0, 0, false⟩ : Fr)])) 0 rfl) H h).form) (fun hf4 => ?_)
  refine s_lt (t_pure v2) ?_
  refine s_nil ?_
  refine xs_then ?_
  refine k_seq ?_
  refine k_seq ?_
  refine k_reg ?_
  refine s_lt (t_pure v2) ?_
  refine s_lt (t_kern (.agg #[.string ⟨#[102]⟩, .int .i64 8, .bool false])) ?_
  refine s_lt (t_kern (.agg #[.string ⟨#[109, 97, 105, 110]⟩, .int .i64 1, .bool false])) ?_
  refine s_buildSlice (e := 35) [(0, .agg #[.string ⟨#[102]⟩, .int .i64 8, .bool false]), (1, .agg #[.string ⟨#[109, 97, 105, 110]⟩, .int .i64 1, .bool false])] #[.string ⟨#[102]⟩, .int .i64 8, .bool false, .string ⟨#[109, 97, 105, 110]⟩, .int .i64 1, .bool false] (fun g5 => ?_) (hb := by kernel_rfl)
  refine s_vcall (fun _ h => places_s (Acc.kn (.own 1) h) (Acc.kn (.lit 0 PlT_ok [(⟨⟨#[102]⟩, 8, false⟩ : Pl), (⟨⟨#[109, 97, 105, 110]⟩, 1, false⟩ : Pl)]) h)) ?_
  rintro u7 e6
  obtain rfl : u7 = .bool true := e6.trans (congrArg Value.bool (decide_eq_true rfl))
  refine s_lt (t_pure (.bool false)) ?_
  refine s_lt (t_pure (.bool false)) ?_
  refine s_lt (t_pure (.pointer (some ⟨b1, 0, none⟩))) ?_
  refine s_lt (t_kern (.agg #[.string ⟨#[103]⟩, .int .i64 0, .int .i64 0, .int .i64 0, .int .i64 0, .bool false])) ?_
  refine s_call [2] (repl_e (L := [(⟨⟨#[109, 97, 105, 110]⟩, 1, 0, 0, 0, false⟩ : Fr), (⟨⟨#[102]⟩, 8, 0, 0, 0, false⟩ : Fr)]) (⟨⟨#[103]⟩, 0, 0, 0, 0, false⟩ : Fr) (show replR [(⟨⟨#[109, 97, 105, 110]⟩, 1, 0, 0, 0, false⟩ : Fr), (⟨⟨#[102]⟩, 8, 0, 0, 0, false⟩ : Fr)] (⟨⟨#[103]⟩, 0, 0, 0, 0, false⟩ : Fr) = (0, [(⟨⟨#[109, 97, 105, 110]⟩, 1, 0, 0, 0, false⟩ : Fr), (⟨⟨#[103]⟩, 0, 0, 0, 0, true⟩ : Fr)]) from rfl)) ?_
  rintro _ _ ⟨rfl, rfl⟩
  refine s_lt (t_cmp (c := false)) ?_
  refine s_lt (t_pure (.bool false)) ?_
  refine s_lt (t_pure (.bool false)) ?_
  refine s_lt (t_pure (.pointer (some ⟨b1, 0, none⟩))) ?_
  refine s_call [0] (depth_s) ?_
  rintro _ _ ⟨rfl, rfl⟩
  refine s_lt (Lt.to t_cmp (congrArg Value.bool (decide_eq_false (fun h => h rfl) : (decide (([(⟨⟨#[109, 97, 105, 110]⟩, 1, 0, 0, 0, false⟩ : Fr), (⟨⟨#[103]⟩, 0, 0, 0, 0, true⟩ : Fr)].length : Int) ≠ 2)) = false))) ?_
  refine s_lt (t_pure (.bool false)) ?_
  refine s_nil ?_
  refine xs_then ?_
  refine k_false ?_
  refine k_skip ?_
  refine xs_then ?_
  refine k_seq ?_
  refine k_reg ?_
  refine s_lt (t_pure (.pointer (some ⟨b1, 0, none⟩))) ?_
  refine s_call [0] (pop_e (L := [(⟨⟨#[109, 97, 105, 110]⟩, 1, 0, 0, 0, false⟩ : Fr), (⟨⟨#[103]⟩, 0, 0, 0, 0, true⟩ : Fr)]) (show popR [(⟨⟨#[109, 97, 105, 110]⟩, 1, 0, 0, 0, false⟩ : Fr), (⟨⟨#[103]⟩, 0, 0, 0, 0, true⟩ : Fr)] = (((⟨⟨#[103]⟩, 0, 0, 0, 0, true⟩ : Fr), true), [(⟨⟨#[109, 97, 105, 110]⟩, 1, 0, 0, 0, false⟩ : Fr)]) from rfl)) ?_
  rintro _ _ ⟨rfl, rfl⟩
  refine s_lt (t_pure (.tuple #[.agg #[.string ⟨#[103]⟩, .int .i64 0, .int .i64 0, .int .i64 0, .int .i64 0, .bool true], .bool true])) ?_
  refine s_lt (t_pure (.agg #[.string ⟨#[103]⟩, .int .i64 0, .int .i64 0, .int .i64 0, .int .i64 0, .bool true])) ?_
  refine s_lt (t_pure (.bool true)) ?_
  refine s_alloc (.agg #[.string ByteArray.empty, .int .i64 0, .int .i64 0, .int .i64 0, .int .i64 0, .bool false]) #[.string ByteArray.empty, .int .i64 0, .int .i64 0, .int .i64 0, .int .i64 0, .bool false] (fun g8 => ?_)
  refine s_store 0 #[.string ⟨#[103]⟩, .int .i64 0, .int .i64 0, .int .i64 0, .int .i64 0, .bool true] ?_
  refine s_lt (t_pure (.bool true)) ?_
  refine s_nil ?_
  refine xs_then ?_
  refine k_seq ?_
  refine k_reg ?_
  refine s_vcall (fun _ h => num_s 1) ?_
  rintro _ rfl
  refine s_vcall (fun _ h => num_s 2) ?_
  rintro _ rfl
  refine s_vcall (fun _ h => num_s 3) ?_
  rintro _ rfl
  refine s_buildSlice (e := 39) [(0, .agg #[.int .i64 ((numV 1).kind), .int .i64 ((numV 1).p), .int .i64 ((numV 1).q), .string ((numV 1).str), .int .i64 ((numV 1).ref)]), (1, .agg #[.int .i64 ((numV 2).kind), .int .i64 ((numV 2).p), .int .i64 ((numV 2).q), .string ((numV 2).str), .int .i64 ((numV 2).ref)]), (2, .agg #[.int .i64 ((numV 3).kind), .int .i64 ((numV 3).p), .int .i64 ((numV 3).q), .string ((numV 3).str), .int .i64 ((numV 3).ref)])] #[.int .i64 ((numV 1).kind), .int .i64 ((numV 1).p), .int .i64 ((numV 1).q), .string ((numV 1).str), .int .i64 ((numV 1).ref), .int .i64 ((numV 2).kind), .int .i64 ((numV 2).p), .int .i64 ((numV 2).q), .string ((numV 2).str), .int .i64 ((numV 2).ref), .int .i64 ((numV 3).kind), .int .i64 ((numV 3).p), .int .i64 ((numV 3).q), .string ((numV 3).str), .int .i64 ((numV 3).ref)] (fun g9 => ?_) (hb := by kernel_rfl)
  refine s_pcall (fun _ h => enter_s 1 true (Acc.kn (.lit 0 VlT_ok [(numV 1), (numV 2), (numV 3)]) h) (by (try simp only [List.length_nil, List.length_cons, List.length_append, List.length_take, List.length_drop, List.length_set, List.length_replicate, List.length_reverse, ByteArray.size_append, sz_mk]); omega)) ?_
  rintro _ _ ⟨v10, v11, rfl, rfl⟩
  refine s_fact (fun H h => ((Acc.own (T := VlT) (L := (fitL [(numV 1), (numV 2), (numV 3)] (par 1))) 0 rfl) H h).form) (fun hf12 => ?_)
  refine s_fact (fun H h => ((Acc.own (T := VlT) (L := (extraL [(numV 1), (numV 2), (numV 3)] 1 true)) 1 rfl) H h).form) (fun hf13 => ?_)
  refine s_lt (t_pure (.tuple #[v10, v11])) ?_
  refine s_lt (t_pure v10) ?_
  refine s_lt (t_pure v11) ?_
  refine s_lt (t_pure v10) ?_
  refine s_lt (t_pure v11) ?_
  refine s_nil ?_
  refine xs_then ?_
  refine k_seq ?_
  refine k_reg ?_
  refine s_lt (t_pure (.bool true)) ?_
  refine s_lt (t_pure (.bool true)) ?_
  refine s_lt (t_loadA 3 #[.string ⟨#[103]⟩, .int .i64 0, .int .i64 0, .int .i64 0, .int .i64 0, .bool true]) ?_
  refine s_lt (t_kern (.agg #[.string ⟨#[103]⟩, .int .i64 0, .int .i64 0, .int .i64 0, .int .i64 0, .bool true])) ?_
  refine s_lt (Lt.to (t_eqS (fun w => (eqFrT (⟨⟨#[103]⟩, 0, 0, 0, 0, true⟩ : Fr) (⟨⟨#[103]⟩, 0, 0, 0, 0, true⟩ : Fr) w).1)) (congrArg Value.bool (decide_eq_true rfl : (decide ((⟨⟨#[103]⟩, 0, 0, 0, 0, true⟩ : Fr) = (⟨⟨#[103]⟩, 0, 0, 0, 0, true⟩ : Fr))) = true))) ?_
  refine s_lt (t_pure (.bool true)) ?_
  refine s_lt (t_pure (.bool true)) ?_
  refine s_lt (t_pure v10) ?_
  refine s_vcall (fun _ h => num_s 1) ?_
  rintro _ rfl
  refine s_buildSlice (e := 39) [(0, .agg #[.int .i64 ((numV 1).kind), .int .i64 ((numV 1).p), .int .i64 ((numV 1).q), .string ((numV 1).str), .int .i64 ((numV 1).ref)])] #[.int .i64 ((numV 1).kind), .int .i64 ((numV 1).p), .int .i64 ((numV 1).q), .string ((numV 1).str), .int .i64 ((numV 1).ref)] (fun g14 => ?_) (hb := by kernel_rfl)
  refine s_vcall (fun _ h => values_s (Acc.kn (.own 1) h) (Acc.kn (.lit 0 VlT_ok [(numV 1)]) h)) ?_
  rintro u16 e15
  obtain rfl : u16 = .bool true := e15.trans (congrArg Value.bool (decide_eq_true rfl))
  refine s_lt (t_pure (.bool true)) ?_
  refine s_lt (t_pure (.bool true)) ?_
  refine s_lt (t_pure v11) ?_
  refine s_vcall (fun _ h => num_s 2) ?_
  rintro _ rfl
  refine s_vcall (fun _ h => num_s 3) ?_
  rintro _ rfl
  refine s_buildSlice (e := 39) [(0, .agg #[.int .i64 ((numV 2).kind), .int .i64 ((numV 2).p), .int .i64 ((numV 2).q), .string ((numV 2).str), .int .i64 ((numV 2).ref)]), (1, .agg #[.int .i64 ((numV 3).kind), .int .i64 ((numV 3).p), .int .i64 ((numV 3).q), .string ((numV 3).str), .int .i64 ((numV 3).ref)])] #[.int .i64 ((numV 2).kind), .int .i64 ((numV 2).p), .int .i64 ((numV 2).q), .string ((numV 2).str), .int .i64 ((numV 2).ref), .int .i64 ((numV 3).kind), .int .i64 ((numV 3).p), .int .i64 ((numV 3).q), .string ((numV 3).str), .int .i64 ((numV 3).ref)] (fun g17 => ?_) (hb := by kernel_rfl)
  refine s_vcall (fun _ h => values_s (Acc.kn (.own 3) h) (Acc.kn (.lit 0 VlT_ok [(numV 2), (numV 3)]) h)) ?_
  rintro u19 e18
  obtain rfl : u19 = .bool true := e18.trans (congrArg Value.bool (decide_eq_true rfl))
  refine s_lt (t_pure (.bool true)) ?_
  refine s_lt (t_pure (.bool true)) ?_
  refine s_vcall (fun _ h => num_s 7) ?_
  rintro _ rfl
  refine s_vcall (fun _ h => num_s 8) ?_
  rintro _ rfl
  refine s_buildSlice (e := 39) [(0, .agg #[.int .i64 ((numV 7).kind), .int .i64 ((numV 7).p), .int .i64 ((numV 7).q), .string ((numV 7).str), .int .i64 ((numV 7).ref)]), (1, .agg #[.int .i64 ((numV 8).kind), .int .i64 ((numV 8).p), .int .i64 ((numV 8).q), .string ((numV 8).str), .int .i64 ((numV 8).ref)])] #[.int .i64 ((numV 7).kind), .int .i64 ((numV 7).p), .int .i64 ((numV 7).q), .string ((numV 7).str), .int .i64 ((numV 7).ref), .int .i64 ((numV 8).kind), .int .i64 ((numV 8).p), .int .i64 ((numV 8).q), .string ((numV 8).str), .int .i64 ((numV 8).ref)] (fun g20 => ?_) (hb := by kernel_rfl)
  refine s_pcall (fun _ h => fit_s 3 (Acc.kn (.lit 0 VlT_ok [(numV 7), (numV 8)]) h) (by (try simp only [List.length_nil, List.length_cons, List.length_append, List.length_take, List.length_drop, List.length_set, List.length_replicate, List.length_reverse, ByteArray.size_append, sz_mk]); omega)) ?_
  rintro v21 _ rfl
  refine s_fact (fun H h => ((Acc.own (T := VlT) (L := (fitL [(numV 7), (numV 8)] 3)) 0 rfl) H h).form) (fun hf22 => ?_)
  refine s_vcall (fun _ h => num_s 7) ?_
  rintro _ rfl
  refine s_vcall (fun _ h => num_s 8) ?_
  rintro _ rfl
  refine s_lt (t_kern (.agg #[.int .i64 0, .int .i64 0, .int .i64 0, .string ByteArray.empty, .int .i64 0])) ?_
  refine s_buildSlice (e := 39) [(0, .agg #[.int .i64 ((numV 7).kind), .int .i64 ((numV 7).p), .int .i64 ((numV 7).q), .string ((numV 7).str), .int .i64 ((numV 7).ref)]), (1, .agg #[.int .i64 ((numV 8).kind), .int .i64 ((numV 8).p), .int .i64 ((numV 8).q), .string ((numV 8).str), .int .i64 ((numV 8).ref)]), (2, .agg #[.int .i64 0, .int .i64 0, .int .i64 0, .string ByteArray.empty, .int .i64 0])] #[.int .i64 ((numV 7).kind), .int .i64 ((numV 7).p), .int .i64 ((numV 7).q), .string ((numV 7).str), .int .i64 ((numV 7).ref), .int .i64 ((numV 8).kind), .int .i64 ((numV 8).p), .int .i64 ((numV 8).q), .string ((numV 8).str), .int .i64 ((numV 8).ref), .int .i64 0, .int .i64 0, .int .i64 0, .string ByteArray.empty, .int .i64 0] (fun g23 => ?_) (hb := by kernel_rfl)
  refine s_vcall (fun _ h => values_s (Acc.kn (.own 1) h) (Acc.kn (.lit 0 VlT_ok [(numV 7), (numV 8), (⟨0, 0, 0, ByteArray.empty, 0⟩ : Vl)]) h)) ?_
  rintro u25 e24
  obtain rfl : u25 = .bool true := e24.trans (congrArg Value.bool (decide_eq_true rfl))
  refine s_lt (t_pure (.bool true)) ?_
  refine s_lt (t_pure (.bool true)) ?_
  refine s_nil ?_
  refine xs_then ?_
  refine k_ret ?_
  exact xs_fin [.bool true] [] (SI.tmp 0 SI.nil) (fun _ h => h.re [] [0, 0, 0, 0, 0, 0, 0, 0, 0, 0, 0, 0]) ⟨rfl, rfl⟩
def okO (x : Opn) : Prop := -9223372036854775808 ≤ x.line ∧ x.line ≤ 9223372036854775807 ∧ (x.name.size : Int) ≤ 4611686018427387904
theorem push_bad {L : List Fr} {x : Opn} (h : (pushR L x.fr).1 ≠ 0) (hl : L.length < 150) (h1 : ¬ x.line < 0) (h2 : ¬ x.base < 0) (h3 : ¬ x.extra < 0) : x.want < -1 := by
  rcases Int.lt_or_le x.want (-1) with hw | hw
  · exact hw
  · exfalso; apply h
    have hr : rightB x.fr = true := by
      show (decide (0 ≤ x.line) && decide (0 ≤ x.base) && decide (0 ≤ x.extra) && decide (-1 ≤ x.want)) = true
      simp only [Bool.and_eq_true, decide_eq_true_eq]; omega
    have hn : ¬ (150 : Int) ≤ (L.length : Int) := by omega
    simp only [pushR, hr, hn, if_false, Bool.not_true, Bool.false_eq_true]
theorem push_good {L : List Fr} {f : Fr} (h : (pushR L f).1 = 0) : (pushR L f).2 = L ++ [f] := by
  unfold pushR at h ⊢; split at h
  · cases h
  · split at h
    · cases h
    · simp [*]
theorem map_take_succ {l : List Opn} {i : Nat} {y : Opn} (h : l[i]? = some y) : (l.take i).map Opn.fr ++ [y.fr] = (l.take (i + 1)).map Opn.fr := by
  rw [List.take_add_one, h]; simp
theorem tr_snoc (A : List Fr) (y : Opn) : [(⟨y.name, y.line, y.tail⟩ : Pl)] ++ trL A = trL (A ++ [y.fr]) := by simp [trL, toPl, Opn.fr]
theorem tr_ok {l : List Opn} (h : ∀ x ∈ l, okO x) : ∀ p ∈ trL (l.map Opn.fr), okP p := by
  intro p hp
  simp only [trL, List.mem_map, List.mem_reverse] at hp
  obtain ⟨f, ⟨x, hx, rfl⟩, rfl⟩ := hp
  exact h x hx
theorem lines_len (M : List Pl) : (linesT M).length = if 22 < M.length then 22 else M.length := by
  unfold linesT linesU; split
  · rw [if_neg (by omega)]; simp
  · rw [if_pos (by omega)]; split <;> simp <;> omega
theorem mlen (l : List Opn) : (l.map Opn.fr).length = l.length := by simp
theorem traces_w {Z : Zone} (ht : KnTab Z) {lv : Value} {l : List Opn} (hL : Kn Z OpnT lv l) (hok : ∀ x ∈ l, okO x) : SF Tryd.prog 3 #[lv] Z [] fun r Bs => r = .bool true ∧ Bs = [] := by
  refine sf_enter Tryd.func3 107 [(0, lv)] (fun w0 => ?_)
  refine k_seq ?_
  refine k_reg ?_
  refine s_lt (t_pure (.bool false)) ?_
  refine s_nil ?_
  refine xs_then ?_
  refine k_seq ?_
  refine k_seq ?_
  refine k_reg ?_
  refine s_lt (t_pure lv) ?_
  refine s_lt (t_len OpnT_ok Tryd.underlying22 (.zn hL)) ?_
  refine s_lt t_cmp ?_
  refine s_nil ?_
  refine xs_then ?_
  refine k_cond (decide ((150 : Int) < (l.length : Int))) (fun c1 => ?_) (fun c1 => ?_)
  ·
    have p2 := of_decide_eq_true c1
    refine k_seq ?_
    refine k_reg ?_
    refine s_vcall (fun _ h => awake_s) ?_
    rintro _ rfl
    refine s_lt (t_pure (.bool true)) ?_
    refine s_nil ?_
    refine xs_then ?_
    refine k_ret ?_
    refine xs_ret ?_
    exact xs_fin [.bool true] [] (SI.tmp 2 SI.nil) (fun _ h => h.re [] []) ⟨rfl, rfl⟩
  ·
    have p3 := of_decide_eq_false c1
    refine k_skip ?_
    refine xs_then ?_
    refine k_seq ?_
    refine k_reg ?_
    refine s_pcall (fun _ h => new_s) ?_
    rintro _ _ ⟨b4, rfl, rfl⟩
    refine s_lt (t_pure (.pointer (some ⟨b4, 0, none⟩))) ?_
    refine s_nil ?_
    refine xs_then ?_
    refine k_seq ?_
    refine k_seq ?_
    refine k_reg ?_
    refine s_lt (t_pure (.pointer (some ⟨b4, 0, none⟩))) ?_
    refine s_lt (t_pure (.bool false)) ?_
    refine s_nil ?_
    refine xs_then ?_
    refine k_false ?_
    refine k_skip ?_
    refine xs_then ?_
    refine k_seq ?_
    refine k_reg ?_
    refine s_lt (t_pure (.slice none 0 0)) ?_
    refine s_nil ?_
    refine xs_then ?_
    refine k_seq ?_
    refine k_seq ?_
    refine k_reg ?_
    refine s_lt (t_pure (.int .i64 0)) ?_
    refine s_nil ?_
    refine xs_then ?_
    refine k_block ?_
    refine k_mem (fun _ h => Holds.nilS (T := PlT) h) ?_
    rw [show ([] : List Pl) = trL ((l.take 0).map Opn.fr) from rfl, show ([] : List Fr) = (l.take 0).map Opn.fr from rfl]
    refine k_loop (ι := Value × Nat) (fun (sx, i) => i ≤ l.length) (fun (sx, i) => [(0, lv), (2, .bool false), (3, .pointer (some ⟨b4, 0, none⟩)), (4, sx), (5, .int .i64 (i : Int))]) (fun (sx, i) => [own PlT sx (trL ((l.take i).map Opn.fr)), fsA 70 b4 ((l.take i).map Opn.fr)]) (fun (sx, i) => l.length - i) (.slice none 0 0, 0) (Nat.zero_le _) (sub_of rfl ⟨⟨rfl, rfl⟩, ⟨⟨rfl, rfl⟩, ⟨⟨rfl, rfl⟩, ⟨⟨rfl, rfl⟩, ⟨⟨rfl, rfl⟩, trivial⟩⟩⟩⟩⟩) (fun _ h => h.re [0, 0] []) ?_
    rintro ⟨sx, i⟩ hi5
    replace hi5 : i ≤ l.length := hi5
    show SK _ _ _ _ _ [(0, lv), (2, .bool false), (3, .pointer (some ⟨b4, 0, none⟩)), (4, sx), (5, .int .i64 (i : Int))] _ [own PlT sx (trL ((l.take i).map Opn.fr)), fsA 70 b4 ((l.take i).map Opn.fr)]
    refine k_seq ?_
    refine k_seq ?_
    refine k_reg ?_
    refine s_lt (t_pure (.int .i64 (i : Int))) ?_
    refine s_lt (t_pure lv) ?_
    refine s_lt (t_len OpnT_ok Tryd.underlying22 (.zn hL)) ?_
    refine s_lt t_cmp ?_
    refine s_nil ?_
    refine xs_then ?_
    refine k_cond (decide ((i : Int) < (l.length : Int))) (fun c6 => ?_) (fun c6 => ?_)
    ·
      have p7 := of_decide_eq_true c6
      refine k_skip ?_
      refine xs_then ?_
      refine k_seq ?_
      refine k_block ?_
      refine k_seq ?_
      refine k_seq ?_
      refine k_reg ?_
      refine s_lt (t_pure (.pointer (some ⟨b4, 0, none⟩))) ?_
      refine s_lt (t_pure lv) ?_
      refine s_lt (t_pure (.int .i64 (i : Int))) ?_
      refine s_lt (t_index OpnT_ok Tryd.underlying22 (.zn hL) (i : Int) i (by omega) (by (try simp only [List.length_nil, List.length_cons, List.length_append, List.length_take, List.length_drop, List.length_set, List.length_replicate, List.length_reverse, ByteArray.size_append, sz_mk, trL_len, mlen, List.length_map]); omega) (by omega)) ?_
      obtain ⟨y8, hy9⟩ : ∃ y, l[i]? = some y := ⟨_, List.getElem?_eq_getElem (by (try simp only [List.length_nil, List.length_cons, List.length_append, List.length_take, List.length_drop, List.length_set, List.length_replicate, List.length_reverse, ByteArray.size_append, sz_mk, trL_len, mlen, List.length_map]); omega)⟩
      refine s_lt (t_loadE OpnT_ok (.zn hL) hy9) ?_
      refine s_vcall (fun _ h => frame_s y8) ?_
      rintro _ rfl
      refine s_call [1] (push_s y8.fr) ?_
      rintro _ _ ⟨rfl, rfl⟩
      refine s_lt t_cmp ?_
      refine s_nil ?_
      refine xs_then ?_
      refine k_cond (decide ((pushR ((l.take i).map Opn.fr) y8.fr).1 ≠ 0)) (fun c10 => ?_) (fun c10 => ?_)
      ·
        have p11 := of_decide_eq_true c10
        refine k_cut (ι := Unit) (fun _ => True) (fun _ => [(0, lv), (2, .bool true), (3, .pointer (some ⟨b4, 0, none⟩)), (4, sx), (5, .int .i64 (i : Int)), (14, .int .i64 (i : Int)), (15, lv), (16, .int .i64 (l.length : Int)), (17, .bool (decide ((i : Int) < (l.length : Int)))), (20, .pointer (some ⟨b4, 0, none⟩)), (21, lv), (22, .int .i64 (i : Int)), (23, .pointer (some (elemAt OpnT.size lv i))), (24, .agg #[.int .i64 y8.kind, .int .i64 y8.n, .string y8.name, .int .i64 y8.line, .int .i64 y8.base, .int .i64 y8.extra, .int .i64 y8.want, .bool y8.tail]), (25, .agg #[.string y8.fr.name, .int .i64 y8.fr.line, .int .i64 y8.fr.base, .int .i64 y8.fr.extra, .int .i64 y8.fr.want, .bool y8.fr.tail]), (26, .int .i64 ((pushR ((l.take i).map Opn.fr) y8.fr).1)), (27, .bool (decide ((pushR ((l.take i).map Opn.fr) y8.fr).1 ≠ 0))), (28, lv), (29, .int .i64 (i : Int)), (30, .pointer (some (elemAt OpnT.size lv i))), (31, .pointer (some ((elemAt OpnT.size lv i).add 3))), (32, .int .i64 y8.line), (33, .bool (decide (y8.line < 0))), (34, .bool (decide (y8.line < 0))), (41, .bool ((decide (y8.line < 0)) || (decide (y8.base < 0)))), (42, .bool ((decide (y8.line < 0)) || (decide (y8.base < 0)))), (49, .bool ((decide (y8.line < 0)) || ((decide (y8.base < 0)) || (decide (y8.extra < 0))))), (50, .bool ((decide (y8.line < 0)) || ((decide (y8.base < 0)) || (decide (y8.extra < 0))))), (57, .bool true), (58, .bool true), (59, .bool true), (60, .bool true)]) (fun _ => [fsA 70 b4 ((pushR ((l.take i).map Opn.fr) y8.fr).2), own PlT sx (trL ((l.take i).map Opn.fr))]) ?_ (fun _ _ => ?_)
        ·
          refine k_reg ?_
          refine s_lt (t_pure lv) ?_
          refine s_lt (t_pure (.int .i64 (i : Int))) ?_
          refine s_lt (t_index OpnT_ok Tryd.underlying22 (.zn hL) (i : Int) i (by omega) (by (try simp only [List.length_nil, List.length_cons, List.length_append, List.length_take, List.length_drop, List.length_set, List.length_replicate, List.length_reverse, ByteArray.size_append, sz_mk, trL_len, mlen, List.length_map]); omega) (by omega)) ?_
          refine s_lt (t_pure (.pointer (some ((elemAt OpnT.size lv i).add 3)))) ?_
          refine s_lt (t_loadF 3 OpnT_ok (.zn hL) hy9) ?_
          refine s_lt t_cmp ?_
          refine s_lt (t_pure (.bool (decide (y8.line < 0)))) ?_
          refine s_fork 34 (decide (y8.line < 0)) (fun c12 => ?_) (fun c12 => ?_)
          ·
            have p13 := of_decide_eq_true c12
            refine s_skip ?_
            refine s_skip ?_
            refine s_skip ?_
            refine s_skip ?_
            refine s_skip ?_
            refine s_skip ?_
            refine s_lt (t_pure (.bool true)) ?_
            refine s_lt (t_pure (.bool true)) ?_
            refine s_skip ?_
            refine s_skip ?_
            refine s_skip ?_
            refine s_skip ?_
            refine s_skip ?_
            refine s_skip ?_
            refine s_lt (t_pure (.bool true)) ?_
            refine s_lt (t_pure (.bool true)) ?_
            refine s_skip ?_
            refine s_skip ?_
            refine s_skip ?_
            refine s_skip ?_
            refine s_skip ?_
            refine s_skip ?_
            refine s_lt (t_pure (.bool true)) ?_
            refine s_lt (t_pure (.bool true)) ?_
            refine s_vcall (fun _ h => awake_s) ?_
            rintro _ rfl
            refine s_lt (t_pure (.bool true)) ?_
            refine s_lt (t_pure (.bool true)) ?_
            refine s_nil ?_
            exact xs_cut () trivial (sub_of rfl ⟨⟨rfl, rfl⟩, ⟨⟨rfl, rfl⟩, ⟨⟨rfl, rfl⟩, ⟨⟨rfl, rfl⟩, ⟨⟨rfl, rfl⟩, ⟨⟨rfl, rfl⟩, ⟨⟨rfl, rfl⟩, ⟨⟨rfl, rfl⟩, ⟨⟨rfl, rfl⟩, ⟨⟨rfl, rfl⟩, ⟨⟨rfl, rfl⟩, ⟨⟨rfl, rfl⟩, ⟨⟨rfl, rfl⟩, ⟨⟨rfl, rfl⟩, ⟨⟨rfl, rfl⟩, ⟨⟨rfl, rfl⟩, ⟨⟨rfl, rfl⟩, ⟨⟨rfl, rfl⟩, ⟨⟨rfl, rfl⟩, ⟨⟨rfl, rfl⟩, ⟨⟨rfl, rfl⟩, ⟨⟨rfl, rfl⟩, ⟨⟨rfl, rfl⟩, ⟨⟨rfl, show Value.bool true = Value.bool (decide (y8.line < 0)) by first | (simp only [c12, Bool.true_and, Bool.false_and, Bool.and_true, Bool.and_false, Bool.true_or, Bool.or_true, Bool.false_or, Bool.or_false, Bool.not_true, Bool.not_false]; done) | simp [c12]⟩, ⟨⟨rfl, show Value.bool true = Value.bool ((decide (y8.line < 0)) || (decide (y8.base < 0))) by first | (simp only [c12, Bool.true_and, Bool.false_and, Bool.and_true, Bool.and_false, Bool.true_or, Bool.or_true, Bool.false_or, Bool.or_false, Bool.not_true, Bool.not_false]; done) | simp [c12]⟩, ⟨⟨rfl, show Value.bool true = Value.bool ((decide (y8.line < 0)) || (decide (y8.base < 0))) by first | (simp only [c12, Bool.true_and, Bool.false_and, Bool.and_true, Bool.and_false, Bool.true_or, Bool.or_true, Bool.false_or, Bool.or_false, Bool.not_true, Bool.not_false]; done) | simp [c12]⟩, ⟨⟨rfl, show Value.bool true = Value.bool ((decide (y8.line < 0)) || ((decide (y8.base < 0)) || (decide (y8.extra < 0)))) by first | (simp only [c12, Bool.true_and, Bool.false_and, Bool.and_true, Bool.and_false, Bool.true_or, Bool.or_true, Bool.false_or, Bool.or_false, Bool.not_true, Bool.not_false]; done) | simp [c12]⟩, ⟨⟨rfl, show Value.bool true = Value.bool ((decide (y8.line < 0)) || ((decide (y8.base < 0)) || (decide (y8.extra < 0)))) by first | (simp only [c12, Bool.true_and, Bool.false_and, Bool.and_true, Bool.and_false, Bool.true_or, Bool.or_true, Bool.false_or, Bool.or_false, Bool.not_true, Bool.not_false]; done) | simp [c12]⟩, ⟨⟨rfl, rfl⟩, ⟨⟨rfl, rfl⟩, ⟨⟨rfl, rfl⟩, ⟨⟨rfl, rfl⟩, trivial⟩⟩⟩⟩⟩⟩⟩⟩⟩⟩⟩⟩⟩⟩⟩⟩⟩⟩⟩⟩⟩⟩⟩⟩⟩⟩⟩⟩⟩⟩⟩⟩) (fun _ h => h.re [0, 0] [])
          ·
            have p14 := of_decide_eq_false c12
            refine s_lt (t_pure lv) ?_
            refine s_lt (t_pure (.int .i64 (i : Int))) ?_
            refine s_lt (t_index OpnT_ok Tryd.underlying22 (.zn hL) (i : Int) i (by omega) (by (try simp only [List.length_nil, List.length_cons, List.length_append, List.length_take, List.length_drop, List.length_set, List.length_replicate, List.length_reverse, ByteArray.size_append, sz_mk, trL_len, mlen, List.length_map]); omega) (by omega)) ?_
            refine s_lt (t_pure (.pointer (some ((elemAt OpnT.size lv i).add 4)))) ?_
            refine s_lt (t_loadF 4 OpnT_ok (.zn hL) hy9) ?_
            refine s_lt t_cmp ?_
            refine s_lt (t_pure (.bool (decide (y8.base < 0)))) ?_
            refine s_lt (t_pure (.bool (decide (y8.base < 0)))) ?_
            refine s_fork 42 (decide (y8.base < 0)) (fun c15 => ?_) (fun c15 => ?_)
            ·
              have p16 := of_decide_eq_true c15
              refine s_skip ?_
              refine s_skip ?_
              refine s_skip ?_
              refine s_skip ?_
              refine s_skip ?_
              refine s_skip ?_
              refine s_lt (t_pure (.bool true)) ?_
              refine s_lt (t_pure (.bool true)) ?_
              refine s_skip ?_
              refine s_skip ?_
              refine s_skip ?_
              refine s_skip ?_
              refine s_skip ?_
              refine s_skip ?_
              refine s_lt (t_pure (.bool true)) ?_
              refine s_lt (t_pure (.bool true)) ?_
              refine s_vcall (fun _ h => awake_s) ?_
              rintro _ rfl
              refine s_lt (t_pure (.bool true)) ?_
              refine s_lt (t_pure (.bool true)) ?_
              refine s_nil ?_
              exact xs_cut () trivial (sub_of rfl ⟨⟨rfl, rfl⟩, ⟨⟨rfl, rfl⟩, ⟨⟨rfl, rfl⟩, ⟨⟨rfl, rfl⟩, ⟨⟨rfl, rfl⟩, ⟨⟨rfl, rfl⟩, ⟨⟨rfl, rfl⟩, ⟨⟨rfl, rfl⟩, ⟨⟨rfl, rfl⟩, ⟨⟨rfl, rfl⟩, ⟨⟨rfl, rfl⟩, ⟨⟨rfl, rfl⟩, ⟨⟨rfl, rfl⟩, ⟨⟨rfl, rfl⟩, ⟨⟨rfl, rfl⟩, ⟨⟨rfl, rfl⟩, ⟨⟨rfl, rfl⟩, ⟨⟨rfl, rfl⟩, ⟨⟨rfl, rfl⟩, ⟨⟨rfl, rfl⟩, ⟨⟨rfl, rfl⟩, ⟨⟨rfl, rfl⟩, ⟨⟨rfl, rfl⟩, ⟨⟨rfl, show Value.bool false = Value.bool (decide (y8.line < 0)) by first | (simp only [c12, c15, Bool.true_and, Bool.false_and, Bool.and_true, Bool.and_false, Bool.true_or, Bool.or_true, Bool.false_or, Bool.or_false, Bool.not_true, Bool.not_false]; done) | simp [c12, c15]⟩, ⟨⟨rfl, show Value.bool (decide (y8.base < 0)) = Value.bool ((decide (y8.line < 0)) || (decide (y8.base < 0))) by first | (simp only [c12, c15, Bool.true_and, Bool.false_and, Bool.and_true, Bool.and_false, Bool.true_or, Bool.or_true, Bool.false_or, Bool.or_false, Bool.not_true, Bool.not_false]; done) | simp [c12, c15]⟩, ⟨⟨rfl, show Value.bool true = Value.bool ((decide (y8.line < 0)) || (decide (y8.base < 0))) by first | (simp only [c12, c15, Bool.true_and, Bool.false_and, Bool.and_true, Bool.and_false, Bool.true_or, Bool.or_true, Bool.false_or, Bool.or_false, Bool.not_true, Bool.not_false]; done) | simp [c12, c15]⟩, ⟨⟨rfl, show Value.bool true = Value.bool ((decide (y8.line < 0)) || ((decide (y8.base < 0)) || (decide (y8.extra < 0)))) by first | (simp only [c12, c15, Bool.true_and, Bool.false_and, Bool.and_true, Bool.and_false, Bool.true_or, Bool.or_true, Bool.false_or, Bool.or_false, Bool.not_true, Bool.not_false]; done) | simp [c12, c15]⟩, ⟨⟨rfl, show Value.bool true = Value.bool ((decide (y8.line < 0)) || ((decide (y8.base < 0)) || (decide (y8.extra < 0)))) by first | (simp only [c12, c15, Bool.true_and, Bool.false_and, Bool.and_true, Bool.and_false, Bool.true_or, Bool.or_true, Bool.false_or, Bool.or_false, Bool.not_true, Bool.not_false]; done) | simp [c12, c15]⟩, ⟨⟨rfl, rfl⟩, ⟨⟨rfl, rfl⟩, ⟨⟨rfl, rfl⟩, ⟨⟨rfl, rfl⟩, trivial⟩⟩⟩⟩⟩⟩⟩⟩⟩⟩⟩⟩⟩⟩⟩⟩⟩⟩⟩⟩⟩⟩⟩⟩⟩⟩⟩⟩⟩⟩⟩⟩) (fun _ h => h.re [0, 0] [])
            ·
              have p17 := of_decide_eq_false c15
              refine s_lt (t_pure lv) ?_
              refine s_lt (t_pure (.int .i64 (i : Int))) ?_
              refine s_lt (t_index OpnT_ok Tryd.underlying22 (.zn hL) (i : Int) i (by omega) (by (try simp only [List.length_nil, List.length_cons, List.length_append, List.length_take, List.length_drop, List.length_set, List.length_replicate, List.length_reverse, ByteArray.size_append, sz_mk, trL_len, mlen, List.length_map]); omega) (by omega)) ?_
              refine s_lt (t_pure (.pointer (some ((elemAt OpnT.size lv i).add 5)))) ?_
              refine s_lt (t_loadF 5 OpnT_ok (.zn hL) hy9) ?_
              refine s_lt t_cmp ?_
              refine s_lt (t_pure (.bool (decide (y8.extra < 0)))) ?_
              refine s_lt (t_pure (.bool (decide (y8.extra < 0)))) ?_
              refine s_fork 50 (decide (y8.extra < 0)) (fun c18 => ?_) (fun c18 => ?_)
              ·
                have p19 := of_decide_eq_true c18
                refine s_skip ?_
                refine s_skip ?_
                refine s_skip ?_
                refine s_skip ?_
                refine s_skip ?_
                refine s_skip ?_
                refine s_lt (t_pure (.bool true)) ?_
                refine s_lt (t_pure (.bool true)) ?_
                refine s_vcall (fun _ h => awake_s) ?_
                rintro _ rfl
                refine s_lt (t_pure (.bool true)) ?_
                refine s_lt (t_pure (.bool true)) ?_
                refine s_nil ?_
                exact xs_cut () trivial (sub_of rfl ⟨⟨rfl, rfl⟩, ⟨⟨rfl, rfl⟩, ⟨⟨rfl, rfl⟩, ⟨⟨rfl, rfl⟩, ⟨⟨rfl, rfl⟩, ⟨⟨rfl, rfl⟩, ⟨⟨rfl, rfl⟩, ⟨⟨rfl, rfl⟩, ⟨⟨rfl, rfl⟩, ⟨⟨rfl, rfl⟩, ⟨⟨rfl, rfl⟩, ⟨⟨rfl, rfl⟩, ⟨⟨rfl, rfl⟩, ⟨⟨rfl, rfl⟩, ⟨⟨rfl, rfl⟩, ⟨⟨rfl, rfl⟩, ⟨⟨rfl, rfl⟩, ⟨⟨rfl, rfl⟩, ⟨⟨rfl, rfl⟩, ⟨⟨rfl, rfl⟩, ⟨⟨rfl, rfl⟩, ⟨⟨rfl, rfl⟩, ⟨⟨rfl, rfl⟩, ⟨⟨rfl, show Value.bool false = Value.bool (decide (y8.line < 0)) by first | (simp only [c12, c15, c18, Bool.true_and, Bool.false_and, Bool.and_true, Bool.and_false, Bool.true_or, Bool.or_true, Bool.false_or, Bool.or_false, Bool.not_true, Bool.not_false]; done) | simp [c12, c15, c18]⟩, ⟨⟨rfl, show Value.bool (decide (y8.base < 0)) = Value.bool ((decide (y8.line < 0)) || (decide (y8.base < 0))) by first | (simp only [c12, c15, c18, Bool.true_and, Bool.false_and, Bool.and_true, Bool.and_false, Bool.true_or, Bool.or_true, Bool.false_or, Bool.or_false, Bool.not_true, Bool.not_false]; done) | simp [c12, c15, c18]⟩, ⟨⟨rfl, show Value.bool false = Value.bool ((decide (y8.line < 0)) || (decide (y8.base < 0))) by first | (simp only [c12, c15, c18, Bool.true_and, Bool.false_and, Bool.and_true, Bool.and_false, Bool.true_or, Bool.or_true, Bool.false_or, Bool.or_false, Bool.not_true, Bool.not_false]; done) | simp [c12, c15, c18]⟩, ⟨⟨rfl, show Value.bool (decide (y8.extra < 0)) = Value.bool ((decide (y8.line < 0)) || ((decide (y8.base < 0)) || (decide (y8.extra < 0)))) by first | (simp only [c12, c15, c18, Bool.true_and, Bool.false_and, Bool.and_true, Bool.and_false, Bool.true_or, Bool.or_true, Bool.false_or, Bool.or_false, Bool.not_true, Bool.not_false]; done) | simp [c12, c15, c18]⟩, ⟨⟨rfl, show Value.bool true = Value.bool ((decide (y8.line < 0)) || ((decide (y8.base < 0)) || (decide (y8.extra < 0)))) by first | (simp only [c12, c15, c18, Bool.true_and, Bool.false_and, Bool.and_true, Bool.and_false, Bool.true_or, Bool.or_true, Bool.false_or, Bool.or_false, Bool.not_true, Bool.not_false]; done) | simp [c12, c15, c18]⟩, ⟨⟨rfl, rfl⟩, ⟨⟨rfl, rfl⟩, ⟨⟨rfl, rfl⟩, ⟨⟨rfl, rfl⟩, trivial⟩⟩⟩⟩⟩⟩⟩⟩⟩⟩⟩⟩⟩⟩⟩⟩⟩⟩⟩⟩⟩⟩⟩⟩⟩⟩⟩⟩⟩⟩⟩⟩) (fun _ h => h.re [0, 0] [])
              ·
                have p20 := of_decide_eq_false c18
                refine s_lt (t_pure lv) ?_
                refine s_lt (t_pure (.int .i64 (i : Int))) ?_
                refine s_lt (t_index OpnT_ok Tryd.underlying22 (.zn hL) (i : Int) i (by omega) (by (try simp only [List.length_nil, List.length_cons, List.length_append, List.length_take, List.length_drop, List.length_set, List.length_replicate, List.length_reverse, ByteArray.size_append, sz_mk, trL_len, mlen, List.length_map]); omega) (by omega)) ?_
                refine s_lt (t_pure (.pointer (some ((elemAt OpnT.size lv i).add 6)))) ?_
                refine s_lt (t_loadF 6 OpnT_ok (.zn hL) hy9) ?_
                refine s_lt (Lt.to t_cmp (congrArg Value.bool (decide_eq_true (push_bad p11 (by (try simp only [List.length_nil, List.length_cons, List.length_append, List.length_take, List.length_drop, List.length_set, List.length_replicate, List.length_reverse, ByteArray.size_append, sz_mk, trL_len, mlen, List.length_map]); omega) (by omega) (by omega) (by omega)) : (decide (y8.want < (-1))) = true))) ?_
                refine s_lt (t_pure (.bool true)) ?_
                refine s_lt (t_pure (.bool true)) ?_
                refine s_vcall (fun _ h => awake_s) ?_
                rintro _ rfl
                refine s_lt (t_pure (.bool true)) ?_
                refine s_lt (t_pure (.bool true)) ?_
                refine s_nil ?_
                exact xs_cut () trivial (sub_of rfl ⟨⟨rfl, rfl⟩, ⟨⟨rfl, rfl⟩, ⟨⟨rfl, rfl⟩, ⟨⟨rfl, rfl⟩, ⟨⟨rfl, rfl⟩, ⟨⟨rfl, rfl⟩, ⟨⟨rfl, rfl⟩, ⟨⟨rfl, rfl⟩, ⟨⟨rfl, rfl⟩, ⟨⟨rfl, rfl⟩, ⟨⟨rfl, rfl⟩, ⟨⟨rfl, rfl⟩, ⟨⟨rfl, rfl⟩, ⟨⟨rfl, rfl⟩, ⟨⟨rfl, rfl⟩, ⟨⟨rfl, rfl⟩, ⟨⟨rfl, rfl⟩, ⟨⟨rfl, rfl⟩, ⟨⟨rfl, rfl⟩, ⟨⟨rfl, rfl⟩, ⟨⟨rfl, rfl⟩, ⟨⟨rfl, rfl⟩, ⟨⟨rfl, rfl⟩, ⟨⟨rfl, show Value.bool false = Value.bool (decide (y8.line < 0)) by first | (simp only [c12, c15, c18, Bool.true_and, Bool.false_and, Bool.and_true, Bool.and_false, Bool.true_or, Bool.or_true, Bool.false_or, Bool.or_false, Bool.not_true, Bool.not_false]; done) | simp [c12, c15, c18]⟩, ⟨⟨rfl, show Value.bool (decide (y8.base < 0)) = Value.bool ((decide (y8.line < 0)) || (decide (y8.base < 0))) by first | (simp only [c12, c15, c18, Bool.true_and, Bool.false_and, Bool.and_true, Bool.and_false, Bool.true_or, Bool.or_true, Bool.false_or, Bool.or_false, Bool.not_true, Bool.not_false]; done) | simp [c12, c15, c18]⟩, ⟨⟨rfl, show Value.bool false = Value.bool ((decide (y8.line < 0)) || (decide (y8.base < 0))) by first | (simp only [c12, c15, c18, Bool.true_and, Bool.false_and, Bool.and_true, Bool.and_false, Bool.true_or, Bool.or_true, Bool.false_or, Bool.or_false, Bool.not_true, Bool.not_false]; done) | simp [c12, c15, c18]⟩, ⟨⟨rfl, show Value.bool (decide (y8.extra < 0)) = Value.bool ((decide (y8.line < 0)) || ((decide (y8.base < 0)) || (decide (y8.extra < 0)))) by first | (simp only [c12, c15, c18, Bool.true_and, Bool.false_and, Bool.and_true, Bool.and_false, Bool.true_or, Bool.or_true, Bool.false_or, Bool.or_false, Bool.not_true, Bool.not_false]; done) | simp [c12, c15, c18]⟩, ⟨⟨rfl, show Value.bool false = Value.bool ((decide (y8.line < 0)) || ((decide (y8.base < 0)) || (decide (y8.extra < 0)))) by first | (simp only [c12, c15, c18, Bool.true_and, Bool.false_and, Bool.and_true, Bool.and_false, Bool.true_or, Bool.or_true, Bool.false_or, Bool.or_false, Bool.not_true, Bool.not_false]; done) | simp [c12, c15, c18]⟩, ⟨⟨rfl, rfl⟩, ⟨⟨rfl, rfl⟩, ⟨⟨rfl, rfl⟩, ⟨⟨rfl, rfl⟩, trivial⟩⟩⟩⟩⟩⟩⟩⟩⟩⟩⟩⟩⟩⟩⟩⟩⟩⟩⟩⟩⟩⟩⟩⟩⟩⟩⟩⟩⟩⟩⟩⟩) (fun _ h => h.re [0, 0] [])
        ·
          refine k_ret ?_
          refine xs_ret ?_
          refine xs_retBlock ?_
          refine xs_ret ?_
          refine xs_ret ?_
          refine xs_retBlock ?_
          refine xs_ret ?_
          exact xs_fin [.bool true] [] (SI.tmp 2 SI.nil) (fun _ h => h.re [] [0, 0]) ⟨rfl, rfl⟩
      ·
        have p21 := Decidable.not_not.1 (of_decide_eq_false c10)
        have hq22 := push_good p21
        rw [hq22]
        refine k_skip ?_
        refine xs_then ?_
        refine k_draw ?_
        refine s_lt (t_pure lv) ?_
        refine s_lt (t_pure (.int .i64 (i : Int))) ?_
        refine s_lt (t_index OpnT_ok Tryd.underlying22 (.zn hL) (i : Int) i (by omega) (by (try simp only [List.length_nil, List.length_cons, List.length_append, List.length_take, List.length_drop, List.length_set, List.length_replicate, List.length_reverse, ByteArray.size_append, sz_mk, trL_len, mlen, List.length_map]); omega) (by omega)) ?_
        refine s_lt (t_pure (.pointer (some ((elemAt OpnT.size lv i).add 2)))) ?_
        refine s_lt (t_loadF 2 OpnT_ok (.zn hL) hy9) ?_
        refine s_lt (t_pure lv) ?_
        refine s_lt (t_pure (.int .i64 (i : Int))) ?_
        refine s_lt (t_index OpnT_ok Tryd.underlying22 (.zn hL) (i : Int) i (by omega) (by (try simp only [List.length_nil, List.length_cons, List.length_append, List.length_take, List.length_drop, List.length_set, List.length_replicate, List.length_reverse, ByteArray.size_append, sz_mk, trL_len, mlen, List.length_map]); omega) (by omega)) ?_
        refine s_lt (t_pure (.pointer (some ((elemAt OpnT.size lv i).add 3)))) ?_
        refine s_lt (t_loadF 3 OpnT_ok (.zn hL) hy9) ?_
        refine s_lt (t_pure lv) ?_
        refine s_lt (t_pure (.int .i64 (i : Int))) ?_
        refine s_lt (t_index OpnT_ok Tryd.underlying22 (.zn hL) (i : Int) i (by omega) (by (try simp only [List.length_nil, List.length_cons, List.length_append, List.length_take, List.length_drop, List.length_set, List.length_replicate, List.length_reverse, ByteArray.size_append, sz_mk, trL_len, mlen, List.length_map]); omega) (by omega)) ?_
        refine s_lt (t_pure (.pointer (some ((elemAt OpnT.size lv i).add 7)))) ?_
        refine s_lt (t_loadF 7 OpnT_ok (.zn hL) hy9) ?_
        refine s_lt (t_kern (.agg #[.string y8.name, .int .i64 y8.line, .bool y8.tail])) ?_
        refine s_buildSlice (e := 35) [(0, .agg #[.string y8.name, .int .i64 y8.line, .bool y8.tail])] #[.string y8.name, .int .i64 y8.line, .bool y8.tail] (fun g23 => ?_) (hb := by kernel_rfl)
        refine s_lt (t_pure sx) ?_
        refine s_mem (fun _ h => Holds.slice 0 h PlT_ok [(⟨y8.name, y8.line, y8.tail⟩ : Pl)]) ?_
        refine s_append (L := [(⟨y8.name, y8.line, y8.tail⟩ : Pl)]) 0 PlT_ok Tryd.underlying26 (.own 2) (by show _ * 32 ≤ _; (try simp only [List.length_nil, List.length_cons, List.length_append, List.length_take, List.length_drop, List.length_set, List.length_replicate, List.length_reverse, ByteArray.size_append, sz_mk, trL_len, mlen, List.length_map]); omega) (by (try simp only [List.length_nil, List.length_cons, List.length_append, List.length_take, List.length_drop, List.length_set, List.length_replicate, List.length_reverse, ByteArray.size_append, sz_mk, trL_len, mlen, List.length_map]); omega) (fun v24 => ?_)
        refine s_lt (t_pure v24) ?_
        refine s_nil ?_
        refine x_dynS (fun _ h => by kernel_rfl) ?_
        refine xs_block ?_
        refine xs_then ?_
        refine k_reg ?_
        refine s_lt (t_pure (.int .i64 (i : Int))) ?_
        refine s_lt (t_add (i : Int) 1 (by (try simp only [List.length_nil, List.length_cons, List.length_append, List.length_take, List.length_drop, List.length_set, List.length_replicate, List.length_reverse, ByteArray.size_append, sz_mk, trL_len, mlen, List.length_map]); omega)) ?_
        refine s_lt (t_pure (.int .i64 ((i : Int) + 1))) ?_
        refine s_nil ?_
        rw [tr_snoc, map_take_succ hy9]
        exact xs_round (v24, i + 1) (by show l.length - (i + 1) < l.length - i; omega) (by show i + 1 ≤ l.length; omega) (sub_of rfl ⟨⟨rfl, rfl⟩, ⟨⟨rfl, rfl⟩, ⟨⟨rfl, rfl⟩, ⟨⟨rfl, rfl⟩, ⟨⟨rfl, rfl⟩, trivial⟩⟩⟩⟩⟩) (fun _ h => h.re [0, 0] [2])
    ·
      have p25 := of_decide_eq_false c6
      refine k_exit ?_
      obtain rfl : i = l.length := by omega
      rw [List.take_length]
      refine xs_exit ?_
      refine xs_exit ?_
      refine xs_here ?_
      refine xs_then ?_
      refine k_seq ?_
      refine k_reg ?_
      refine s_lt (t_kern (.agg #[.int .i64 0, .int .i64 0, .int .i64 0, .string ByteArray.empty, .int .i64 0])) ?_
      refine s_lt (t_pure (.pointer (some ⟨b4, 0, none⟩))) ?_
      refine s_call [1] (trace_s) ?_
      rintro v26 _ rfl
      have htl27 := trL_len (l.map Opn.fr)
      refine s_fact (fun H h => ((Acc.own (T := PlT) (L := (trL (l.map Opn.fr))) 0 rfl) H h).form) (fun hf28 => ?_)
      refine s_pcall (fun _ h => raise_s (ht.at h) (v := (⟨0, 0, 0, ByteArray.empty, 0⟩ : Vl)) (N := 1) (Acc.kn (.own 0) h) (tr_ok hok) (by omega) (by rw [trL_len, mlen]; omega) (by show ((0 : Nat) : Int) ≤ _; omega)) ?_
      rintro _ _ ⟨s29, rfl, rfl⟩
      refine s_alloc (.agg #[.int .i64 0, .int .i64 0, .int .i64 0, .string ByteArray.empty, .int .i64 0, (.slice none 0 0)]) #[.int .i64 0, .int .i64 0, .int .i64 0, .string ByteArray.empty, .int .i64 0, (.slice none 0 0)] (fun g30 => ?_)
      refine s_fact (fun H h => ((Acc.own (T := PlT) (L := (trL (l.map Opn.fr))) 1 rfl) H h).form) (fun hf31 => ?_)
      refine s_store (u := .agg #[.int .i64 ((raiseT (⟨0, 0, 0, ByteArray.empty, 0⟩ : Vl) 1 (trL (l.map Opn.fr))).kind), .int .i64 ((raiseT (⟨0, 0, 0, ByteArray.empty, 0⟩ : Vl) 1 (trL (l.map Opn.fr))).p), .int .i64 ((raiseT (⟨0, 0, 0, ByteArray.empty, 0⟩ : Vl) 1 (trL (l.map Opn.fr))).q), .string ((raiseT (⟨0, 0, 0, ByteArray.empty, 0⟩ : Vl) 1 (trL (l.map Opn.fr))).str), .int .i64 ((raiseT (⟨0, 0, 0, ByteArray.empty, 0⟩ : Vl) 1 (trL (l.map Opn.fr))).ref), s29]) (m := 6) 0 #[.int .i64 ((raiseT (⟨0, 0, 0, ByteArray.empty, 0⟩ : Vl) 1 (trL (l.map Opn.fr))).kind), .int .i64 ((raiseT (⟨0, 0, 0, ByteArray.empty, 0⟩ : Vl) 1 (trL (l.map Opn.fr))).p), .int .i64 ((raiseT (⟨0, 0, 0, ByteArray.empty, 0⟩ : Vl) 1 (trL (l.map Opn.fr))).q), .string ((raiseT (⟨0, 0, 0, ByteArray.empty, 0⟩ : Vl) 1 (trL (l.map Opn.fr))).str), .int .i64 ((raiseT (⟨0, 0, 0, ByteArray.empty, 0⟩ : Vl) 1 (trL (l.map Opn.fr))).ref), s29] ?_ (hm := by (obtain ⟨_, _, e⟩ := hf31; rw [e]; rfl)) (h1 := by (obtain ⟨_, _, e⟩ := hf31; rw [e]; rfl)) (ha' := by (obtain ⟨_, _, e⟩ := hf31; rw [e]; rfl))
      refine s_nil ?_
      refine xs_then ?_
      refine k_seq ?_
      refine k_reg ?_
      refine s_lt (t_pure (.pointer (some ⟨b4, 0, none⟩))) ?_
      refine s_call [3] (trace_s) ?_
      rintro v32 _ rfl
      have htl33 := trL_len (l.map Opn.fr)
      refine s_fact (fun H h => ((Acc.own (T := PlT) (L := (trL (l.map Opn.fr))) 0 rfl) H h).form) (fun hf34 => ?_)
      refine s_lt (t_pure sx) ?_
      refine s_vcall (fun _ h => places_s (Acc.kn (.own 0) h) (Acc.kn (.own 5) h)) ?_
      rintro u36 e35
      obtain rfl : u36 = .bool true := e35.trans (congrArg Value.bool (decide_eq_true rfl))
      refine s_lt (t_pure (.bool true)) ?_
      refine s_lt (t_pure (.pointer (some ⟨b4, 0, none⟩))) ?_
      refine s_call [1] (depth_s) ?_
      rintro _ _ ⟨rfl, rfl⟩
      refine s_lt (t_pure lv) ?_
      refine s_lt (t_len OpnT_ok Tryd.underlying22 (.zn hL)) ?_
      refine s_lt (Lt.to t_cmp (congrArg Value.bool (decide_eq_true (by rw [mlen]) : (decide (((l.map Opn.fr).length : Int) = (l.length : Int))) = true))) ?_
      refine s_lt (t_pure (.bool true)) ?_
      refine s_lt (t_pure (.bool true)) ?_
      refine s_lt (t_loadA 2 #[.int .i64 ((raiseT (⟨0, 0, 0, ByteArray.empty, 0⟩ : Vl) 1 (trL (l.map Opn.fr))).kind), .int .i64 ((raiseT (⟨0, 0, 0, ByteArray.empty, 0⟩ : Vl) 1 (trL (l.map Opn.fr))).p), .int .i64 ((raiseT (⟨0, 0, 0, ByteArray.empty, 0⟩ : Vl) 1 (trL (l.map Opn.fr))).q), .string ((raiseT (⟨0, 0, 0, ByteArray.empty, 0⟩ : Vl) 1 (trL (l.map Opn.fr))).str), .int .i64 ((raiseT (⟨0, 0, 0, ByteArray.empty, 0⟩ : Vl) 1 (trL (l.map Opn.fr))).ref), s29]) ?_
      refine s_pcall (fun _ h => lines_s (ht.at h) (v := (raiseT (⟨0, 0, 0, ByteArray.empty, 0⟩ : Vl) 1 (trL (l.map Opn.fr)))) (Acc.kn (.own 3) h) (tr_ok hok) (by (try simp only [List.length_nil, List.length_cons, List.length_append, List.length_take, List.length_drop, List.length_set, List.length_replicate, List.length_reverse, ByteArray.size_append, sz_mk, trL_len, mlen, List.length_map]); omega)) ?_
      rintro v37 _ rfl
      refine s_fact (fun H h => ((Acc.own (T := (strT 9)) (L := (linesT (trL (l.map Opn.fr)))) 0 rfl) H h).form) (fun hf38 => ?_)
      refine s_lt (t_len st_ok Tryd.underlying46 (.own 0)) ?_
      refine s_lt (t_pure lv) ?_
      refine s_lt (t_len OpnT_ok Tryd.underlying22 (.zn hL)) ?_
      refine s_lt t_min ?_
      refine s_lt (Lt.to t_cmp (congrArg Value.bool (decide_eq_true (by rw [lines_len, trL_len, mlen]; split <;> split <;> omega) : (decide (((linesT (trL (l.map Opn.fr))).length : Int) = (if 22 < (l.length : Int) then 22 else (l.length : Int)))) = true))) ?_
      refine s_lt (t_pure (.bool true)) ?_
      refine s_lt (t_pure (.bool true)) ?_
      refine s_vcall (fun _ h => awake_s) ?_
      rintro _ rfl
      refine s_lt (t_pure (.bool true)) ?_
      refine s_lt (t_pure (.bool true)) ?_
      refine s_nil ?_
      refine xs_then ?_
      refine k_ret ?_
      exact xs_fin [.bool true] [] (SI.tmp 2 SI.nil) (fun _ h => h.re [] [0, 0, 0, 0, 0, 0, 0]) ⟨rfl, rfl⟩
end Go.Proofs.YtdakfjdbdopmbaaDoor.Fs
