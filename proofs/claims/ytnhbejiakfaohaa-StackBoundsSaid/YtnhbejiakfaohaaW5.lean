/-
  The helpers of the statements of layer 17.
-/
import Derived.Test.YtnhbejiakfaohaaW4
import Derived.Test.YtnhbejiakfaohaaL3
set_option linter.unusedSimpArgs false
set_option linter.unusedVariables false
set_option maxRecDepth 100000
namespace Go.Proofs.Ytnhbejiakfaohaa
open Go.Hp Go.J Go.S
open Go.Mem (Ty KTy blk elemAt pre suf blk_pre blk_suf aget aset strK aggDesc)

section
variable {Z : Zone} {F : List Asr} {b : Nat} {L L' : List Vl} {lim : Int} {e : Int}
theorem push_e {v : Vl} (hp : pushR L lim v = (e, L')) : SF Try.prog 16 #[.pointer (some ⟨b, 0, none⟩), v.v] Z (stkA 63 b L lim :: F) fun r Bs => r = .int .i64 e ∧ Bs = stkA 63 b L' lim :: F := by have := push_s (Z := Z) (F := F) (b := b) (L := L) (lim := lim) v; rw [hp] at this; exact this
end
theorem take_eq_succ {A B : List Vl} {i : Nat} {x : Vl} (h : A.take i = B.take i) (ha : A[i]? = some x) (hb : B[i]? = some x) : A.take (i + 1) = B.take (i + 1) := by
  rw [List.take_add_one, List.take_add_one, h, ha, hb]
theorem ne_of_get {A B : List Vl} {i : Nat} {x y : Vl} (ha : A[i]? = some x) (hb : B[i]? = some y) (h : x ≠ y) : A ≠ B := by
  rintro rfl; rw [ha] at hb; exact h (Option.some.inj hb)
theorem number_s {Z : Zone} (n : Int) : SF Try.prog 19 #[.int .i64 n] Z [] fun r Bs => r = (numV n).v ∧ Bs = [] := by
  refine sf_enter Try.func19 6 [(0, .int .i64 n)] (fun w0 => ?_)
  refine k_seq ?_
  refine k_reg ?_
  refine s_alloc (.agg #[.int .i64 0, .int .i64 0, .int .i64 0, .string ByteArray.empty, .int .i64 0]) #[.int .i64 0, .int .i64 0, .int .i64 0, .string ByteArray.empty, .int .i64 0] (fun g1 => ?_)
  refine s_nil ?_
  refine xs_then ?_
  refine k_seq ?_
  refine k_reg ?_
  refine s_lt (t_pure (.int .i64 n)) ?_
  refine s_lt (t_kern (.agg #[.int .i64 n, .int .i64 1])) ?_
  refine s_lt (t_kern (.agg #[.int .i64 2, .int .i64 n, .int .i64 1, .string ByteArray.empty, .int .i64 0])) ?_
  refine s_store 0 #[.int .i64 2, .int .i64 n, .int .i64 1, .string ByteArray.empty, .int .i64 0] ?_
  refine s_nil ?_
  refine xs_then ?_
  refine k_ret ?_
  refine xs_fin [.agg #[.int .i64 2, .int .i64 n, .int .i64 1, .string ByteArray.empty, .int .i64 0]] [] (SI.agg 2 32 0 SI.nil) (fun _ h => h.re [] [0]) ⟨?_, rfl⟩
  rfl
theorem same_s {Z : Zone} {va vb : Value} {A B : List Vl} (hA : Kn Z VlT va A) (hB : Kn Z VlT vb B) : SF Try.prog 13 #[va, vb] Z [] fun r Bs => r = .bool (decide (A = B)) ∧ Bs = [] := by
  refine sf_enter Try.func13 26 [(0, va), (1, vb)] (fun w0 => ?_)
  refine k_fact (fun H h => (hA.get h).len_le) (fun lA => ?_)
  refine k_seq ?_
  refine k_reg ?_
  refine s_lt (t_pure (.bool false)) ?_
  refine s_nil ?_
  refine xs_then ?_
  refine k_seq ?_
  refine k_seq ?_
  refine k_reg ?_
  refine s_lt (t_pure va) ?_
  refine s_lt (t_len VlT_ok Try.underlying22 (.zn hA)) ?_
  refine s_lt (t_pure vb) ?_
  refine s_lt (t_len VlT_ok Try.underlying22 (.zn hB)) ?_
  refine s_lt t_cmp ?_
  refine s_nil ?_
  refine xs_then ?_
  refine k_cond (decide ((A.length : Int) ≠ (B.length : Int))) (fun c1 => ?_) (fun c1 => ?_)
  ·
    have p2 := of_decide_eq_true c1
    refine k_seq ?_
    refine k_reg ?_
    refine s_lt (t_pure (.bool false)) ?_
    refine s_nil ?_
    refine xs_then ?_
    refine k_ret ?_
    refine xs_ret ?_
    refine xs_fin [.bool false] [] (SI.tmp 4 SI.nil) (fun _ h => h.re [] []) ⟨congrArg Value.bool ?_, rfl⟩
    exact (decide_eq_false (fun e => by subst e; omega)).symm
  ·
    have p3 := Decidable.not_not.1 (of_decide_eq_false c1)
    refine k_skip ?_
    refine xs_then ?_
    refine k_seq ?_
    refine k_seq ?_
    refine k_reg ?_
    refine s_lt (t_pure va) ?_
    refine s_lt (t_len VlT_ok Try.underlying22 (.zn hA)) ?_
    refine s_lt (t_pure (.int .i64 0)) ?_
    refine s_nil ?_
    refine xs_then ?_
    refine k_block ?_
    refine k_loop (ι := Nat) (fun i => i ≤ A.length ∧ A.take i = B.take i) (fun i => [(0, va), (1, vb), (4, .bool false), (12, .int .i64 (A.length : Int)), (13, .int .i64 (i : Int))]) (fun i => []) (fun i => A.length - i) 0 ⟨Nat.zero_le _, rfl⟩ (sub_of rfl ⟨⟨rfl, rfl⟩, ⟨⟨rfl, rfl⟩, ⟨⟨rfl, rfl⟩, ⟨⟨rfl, rfl⟩, ⟨⟨rfl, rfl⟩, trivial⟩⟩⟩⟩⟩) (fun _ h => h.re [] []) ?_
    rintro i hi4
    show SK _ _ _ _ _ [(0, va), (1, vb), (4, .bool false), (12, .int .i64 (A.length : Int)), (13, .int .i64 (i : Int))] _ []
    refine k_seq ?_
    refine k_reg ?_
    refine s_lt t_cmp ?_
    refine s_nil ?_
    refine xs_then ?_
    refine k_seq ?_
    refine k_cond (decide ((i : Int) < (A.length : Int))) (fun c5 => ?_) (fun c5 => ?_)
    ·
      have p6 := of_decide_eq_true c5
      refine k_skip ?_
      refine xs_then ?_
      refine k_seq ?_
      refine k_block ?_
      refine k_seq ?_
      refine k_reg ?_
      refine s_lt (t_pure (.int .i64 (i : Int))) ?_
      refine s_lt (t_pure (.int .i64 (i : Int))) ?_
      refine s_nil ?_
      refine xs_then ?_
      refine k_seq ?_
      refine k_draw ?_
      refine s_lt (t_pure va) ?_
      refine s_lt (t_pure (.int .i64 (i : Int))) ?_
      refine s_lt (t_index VlT_ok Try.underlying22 (.zn hA) (i : Int) i (by omega) (by (try simp only [List.length_nil, List.length_cons, List.length_append, List.length_take, List.length_drop, List.length_set, List.length_replicate]); omega) (by omega)) ?_
      obtain ⟨y7, hy8⟩ : ∃ y, A[i]? = some y := ⟨_, List.getElem?_eq_getElem (by (try simp only [List.length_nil, List.length_cons, List.length_append, List.length_take, List.length_drop, List.length_set, List.length_replicate]); omega)⟩
      refine s_lt (t_loadE VlT_ok (.zn hA) hy8) ?_
      refine s_lt (t_pure vb) ?_
      refine s_lt (t_pure (.int .i64 (i : Int))) ?_
      refine s_lt (t_index VlT_ok Try.underlying22 (.zn hB) (i : Int) i (by omega) (by (try simp only [List.length_nil, List.length_cons, List.length_append, List.length_take, List.length_drop, List.length_set, List.length_replicate]); omega) (by omega)) ?_
      obtain ⟨y9, hy10⟩ : ∃ y, B[i]? = some y := ⟨_, List.getElem?_eq_getElem (by (try simp only [List.length_nil, List.length_cons, List.length_append, List.length_take, List.length_drop, List.length_set, List.length_replicate]); omega)⟩
      refine s_lt (t_loadE VlT_ok (.zn hB) hy10) ?_
      refine s_lt (t_eqS (fun w => (eqVlT y7 y9 w).2)) ?_
      refine s_nil ?_
      refine x_dynS (fun _ h => by kernel_rfl) ?_
      refine xs_then ?_
      refine k_cond (!(decide (y7 = y9))) (fun c11 => ?_) (fun c11 => ?_)
      ·
        have c12 := not_t c11
        have p13 := of_decide_eq_false c12
        refine k_seq ?_
        refine k_reg ?_
        refine s_lt (t_pure (.bool false)) ?_
        refine s_nil ?_
        refine xs_then ?_
        refine k_ret ?_
        refine xs_retBlock ?_
        refine xs_ret ?_
        refine xs_ret ?_
        refine xs_retBlock ?_
        refine xs_ret ?_
        refine xs_fin [.bool false] [] (SI.tmp 4 SI.nil) (fun _ h => h.re [] []) ⟨congrArg Value.bool ?_, rfl⟩
        exact (decide_eq_false (ne_of_get hy8 hy10 p13)).symm
      ·
        have c14 := not_f c11
        have p15 := of_decide_eq_true c14
        refine k_skip ?_
        refine xs_block ?_
        refine xs_then ?_
        refine k_reg ?_
        refine s_lt (t_add (i : Int) 1 (by (try simp only [List.length_nil, List.length_cons, List.length_append, List.length_take, List.length_drop, List.length_set, List.length_replicate]); omega)) ?_
        refine s_lt (t_pure (.int .i64 ((i : Int) + 1))) ?_
        refine s_nil ?_
        exact xs_round (i + 1) (by omega) (by obtain ⟨hi1, hi2⟩ := hi4; exact ⟨by omega, take_eq_succ hi2 hy8 (by rw [p15]; exact hy10)⟩) (sub_of rfl ⟨⟨rfl, rfl⟩, ⟨⟨rfl, rfl⟩, ⟨⟨rfl, rfl⟩, ⟨⟨rfl, rfl⟩, ⟨⟨rfl, rfl⟩, trivial⟩⟩⟩⟩⟩) (fun _ h => h.re [] [])
    ·
      have p16 := of_decide_eq_false c5
      refine k_exit ?_
      refine xs_exit ?_
      refine xs_exit ?_
      refine xs_here ?_
      refine xs_then ?_
      refine k_seq ?_
      refine k_reg ?_
      refine s_lt (t_pure (.bool true)) ?_
      refine s_nil ?_
      refine xs_then ?_
      refine k_ret ?_
      refine xs_fin [.bool true] [] (SI.tmp 4 SI.nil) (fun _ h => h.re [] []) ⟨congrArg Value.bool ?_, rfl⟩
      obtain ⟨hi1, hi2⟩ := hi4; have e : i = A.length := by omega
      exact (decide_eq_true (by rw [e, List.take_length, List.take_of_length_le (by omega)] at hi2; exact hi2)).symm
theorem long_s {Z : Zone} {lv : Value} {l : List Cl} (hL : Kn Z ClT lv l) : SF Try.prog 22 #[lv] Z [] fun r Bs => (∃ x : Bool, r = .bool x ∧ (x = false → l.length ≤ 80)) ∧ Bs = [] := by
  refine sf_enter Try.func22 25 [(0, lv)] (fun w0 => ?_)
  refine k_seq ?_
  refine k_reg ?_
  refine s_lt (t_pure (.bool false)) ?_
  refine s_nil ?_
  refine xs_then ?_
  refine k_seq ?_
  refine k_seq ?_
  refine k_reg ?_
  refine s_lt (t_pure (.int .i64 0)) ?_
  refine s_nil ?_
  refine xs_then ?_
  refine k_block ?_
  refine k_loop (ι := Nat) (fun i => i ≤ l.length ∧ i ≤ 80) (fun i => [(0, lv), (2, .bool false), (3, .int .i64 (i : Int))]) (fun i => []) (fun i => 80 - i) 0 ⟨Nat.zero_le _, Nat.zero_le _⟩ (sub_of rfl ⟨⟨rfl, rfl⟩, ⟨⟨rfl, rfl⟩, ⟨⟨rfl, rfl⟩, trivial⟩⟩⟩) (fun _ h => h.re [] []) ?_
  rintro i hi1
  show SK _ _ _ _ _ [(0, lv), (2, .bool false), (3, .int .i64 (i : Int))] _ []
  refine k_seq ?_
  refine k_cut (ι := Unit) (fun _ => True) (fun _ => [(0, lv), (2, .bool false), (3, .int .i64 (i : Int)), (4, .int .i64 (i : Int)), (5, lv), (6, .int .i64 (l.length : Int)), (7, .bool (decide ((i : Int) < (l.length : Int)))), (8, .bool (decide ((i : Int) < (l.length : Int)))), (11, .bool ((decide ((i : Int) < (l.length : Int))) && (decide ((i : Int) < 80))))]) (fun _ => []) ?_ (fun _ _ => ?_)
  ·
    refine k_reg ?_
    refine s_lt (t_pure (.int .i64 (i : Int))) ?_
    refine s_lt (t_pure lv) ?_
    refine s_lt (t_len ClT_ok Try.underlying45 (.zn hL)) ?_
    refine s_lt t_cmp ?_
    refine s_lt (t_pure (.bool (decide ((i : Int) < (l.length : Int))))) ?_
    refine s_fork 8 (decide ((i : Int) < (l.length : Int))) (fun c2 => ?_) (fun c2 => ?_)
    ·
      have p3 := of_decide_eq_true c2
      refine s_lt (t_pure (.int .i64 (i : Int))) ?_
      refine s_lt t_cmp ?_
      refine s_lt (t_pure (.bool (decide ((i : Int) < 80)))) ?_
      refine s_nil ?_
      exact xs_cut () trivial (sub_of rfl ⟨⟨rfl, rfl⟩, ⟨⟨rfl, rfl⟩, ⟨⟨rfl, rfl⟩, ⟨⟨rfl, rfl⟩, ⟨⟨rfl, rfl⟩, ⟨⟨rfl, rfl⟩, ⟨⟨rfl, rfl⟩, ⟨⟨rfl, show Value.bool true = Value.bool (decide ((i : Int) < (l.length : Int))) by first | (simp only [c2, Bool.true_and, Bool.false_and, Bool.and_true, Bool.and_false, Bool.true_or, Bool.or_true, Bool.false_or, Bool.or_false, Bool.not_true, Bool.not_false]; done) | simp [c2]⟩, ⟨⟨rfl, show Value.bool (decide ((i : Int) < 80)) = Value.bool ((decide ((i : Int) < (l.length : Int))) && (decide ((i : Int) < 80))) by first | (simp only [c2, Bool.true_and, Bool.false_and, Bool.and_true, Bool.and_false, Bool.true_or, Bool.or_true, Bool.false_or, Bool.or_false, Bool.not_true, Bool.not_false]; done) | simp [c2]⟩, trivial⟩⟩⟩⟩⟩⟩⟩⟩⟩) (fun _ h => h.re [] [])
    ·
      have p4 := of_decide_eq_false c2
      refine s_skip ?_
      refine s_skip ?_
      refine s_lt (t_pure (.bool false)) ?_
      refine s_nil ?_
      exact xs_cut () trivial (sub_of rfl ⟨⟨rfl, rfl⟩, ⟨⟨rfl, rfl⟩, ⟨⟨rfl, rfl⟩, ⟨⟨rfl, rfl⟩, ⟨⟨rfl, rfl⟩, ⟨⟨rfl, rfl⟩, ⟨⟨rfl, rfl⟩, ⟨⟨rfl, show Value.bool false = Value.bool (decide ((i : Int) < (l.length : Int))) by first | (simp only [c2, Bool.true_and, Bool.false_and, Bool.and_true, Bool.and_false, Bool.true_or, Bool.or_true, Bool.false_or, Bool.or_false, Bool.not_true, Bool.not_false]; done) | simp [c2]⟩, ⟨⟨rfl, show Value.bool false = Value.bool ((decide ((i : Int) < (l.length : Int))) && (decide ((i : Int) < 80))) by first | (simp only [c2, Bool.true_and, Bool.false_and, Bool.and_true, Bool.and_false, Bool.true_or, Bool.or_true, Bool.false_or, Bool.or_false, Bool.not_true, Bool.not_false]; done) | simp [c2]⟩, trivial⟩⟩⟩⟩⟩⟩⟩⟩⟩) (fun _ h => h.re [] [])
  ·
    refine k_cond ((decide ((i : Int) < (l.length : Int))) && (decide ((i : Int) < 80))) (fun c5 => ?_) (fun c5 => ?_)
    ·
      obtain ⟨c6, c7⟩ := and_t c5
      have p8 := of_decide_eq_true c6
      have p9 := of_decide_eq_true c7
      refine k_skip ?_
      refine xs_then ?_
      refine k_seq ?_
      refine k_block ?_
      refine k_seq ?_
      refine k_reg ?_
      refine s_lt (t_pure lv) ?_
      refine s_lt (t_pure (.int .i64 (i : Int))) ?_
      refine s_lt (t_index ClT_ok Try.underlying45 (.zn hL) (i : Int) i (by omega) (by (try simp only [List.length_nil, List.length_cons, List.length_append, List.length_take, List.length_drop, List.length_set, List.length_replicate]); omega) (by omega)) ?_
      refine s_lt (t_pure (.pointer (some ((elemAt ClT.size lv i).add 3)))) ?_
      refine s_lt (t_pure (.pointer (some ((elemAt ClT.size lv i).add 6)))) ?_
      obtain ⟨y10, hy11⟩ : ∃ y, l[i]? = some y := ⟨_, List.getElem?_eq_getElem (by (try simp only [List.length_nil, List.length_cons, List.length_append, List.length_take, List.length_drop, List.length_set, List.length_replicate]); omega)⟩
      refine s_lt (t_loadF 6 ClT_ok (.zn hL) hy11) ?_
      refine s_lt (t_kern (.int .i64 (y10.vs.size : Int))) ?_
      refine s_lt t_cmp ?_
      refine s_nil ?_
      refine xs_then ?_
      refine k_cond (decide ((4106 : Int) < (y10.vs.size : Int))) (fun c12 => ?_) (fun c12 => ?_)
      ·
        have p13 := of_decide_eq_true c12
        refine k_seq ?_
        refine k_reg ?_
        refine s_lt (t_pure (.bool true)) ?_
        refine s_nil ?_
        refine xs_then ?_
        refine k_ret ?_
        refine xs_retBlock ?_
        refine xs_ret ?_
        refine xs_ret ?_
        refine xs_retBlock ?_
        refine xs_ret ?_
        exact xs_fin [.bool true] [] (SI.tmp 2 SI.nil) (fun _ h => h.re [] []) ⟨⟨_, rfl, by intro h; cases h⟩, rfl⟩
      ·
        have p14 := of_decide_eq_false c12
        refine k_skip ?_
        refine xs_block ?_
        refine xs_then ?_
        refine k_reg ?_
        refine s_lt (t_pure (.int .i64 (i : Int))) ?_
        refine s_lt (t_add (i : Int) 1 (by (try simp only [List.length_nil, List.length_cons, List.length_append, List.length_take, List.length_drop, List.length_set, List.length_replicate]); omega)) ?_
        refine s_lt (t_pure (.int .i64 ((i : Int) + 1))) ?_
        refine s_nil ?_
        exact xs_round (i + 1) (by omega) (by omega) (sub_of rfl ⟨⟨rfl, rfl⟩, ⟨⟨rfl, rfl⟩, ⟨⟨rfl, rfl⟩, trivial⟩⟩⟩) (fun _ h => h.re [] [])
    ·
      have p15 := c5
      simp only [Bool.and_eq_true, Bool.or_eq_true, Bool.and_eq_false_iff, Bool.or_eq_false_iff, Bool.not_eq_true', Bool.not_eq_false', decide_eq_true_eq, decide_eq_false_iff_not] at p15
      refine k_exit ?_
      refine xs_exit ?_
      refine xs_exit ?_
      refine xs_here ?_
      refine xs_then ?_
      refine k_seq ?_
      refine k_reg ?_
      refine s_lt (t_pure lv) ?_
      refine s_lt (t_len ClT_ok Try.underlying45 (.zn hL)) ?_
      refine s_lt t_cmp ?_
      refine s_lt (t_pure (.bool (decide ((80 : Int) < (l.length : Int))))) ?_
      refine s_nil ?_
      refine xs_then ?_
      refine k_ret ?_
      exact xs_fin [.bool (decide ((80 : Int) < (l.length : Int)))] [] (SI.tmp 2 SI.nil) (fun _ h => h.re [] []) ⟨⟨_, rfl, by intro h; have := of_decide_eq_false h; omega⟩, rfl⟩
theorem prog_s {Z : Zone} {F : List Asr} {b : Nat} {L : List Vl} {lim : Int} (c : Cl) : SF Try.prog 25 #[.pointer (some ⟨b, 0, none⟩), c.v] Z (stkA 63 b L lim :: F) fun r Bs => r = .tuple #[.int .i64 (progR L lim c).1.1, (progR L lim c).1.2.1.v, .int .i64 (progR L lim c).1.2.2] ∧ Bs = stkA 63 b (progR L lim c).2 lim :: F := by
  refine sf_enter Try.func25 103 [(0, .pointer (some ⟨b, 0, none⟩)), (1, .agg #[.int .i64 c.kind, .int .i64 c.n, .int .i64 c.m, .int .i64 c.vk, .int .i64 c.vp, .int .i64 c.vq, .string c.vs, .int .i64 c.vr])] (fun w0 => ?_)
  refine k_fact (fun H h => stk_len (h.re [0] [])) (fun hl => ?_)
  obtain ⟨hl1, hl2, hl3⟩ := hl
  refine k_seq ?_
  refine k_reg ?_
  refine s_box #[.int .i64 c.kind, .int .i64 c.n, .int .i64 c.m, .int .i64 c.vk, .int .i64 c.vp, .int .i64 c.vq, .string c.vs, .int .i64 c.vr] (fun g4 => ?_)
  refine s_lt (t_pure (.int .i64 0)) ?_
  refine s_alloc (.agg #[.int .i64 0, .int .i64 0, .int .i64 0, .string ByteArray.empty, .int .i64 0]) #[.int .i64 0, .int .i64 0, .int .i64 0, .string ByteArray.empty, .int .i64 0] (fun g5 => ?_)
  refine s_lt (t_pure (.int .i64 0)) ?_
  refine s_nil ?_
  refine xs_then ?_
  refine k_seq ?_
  refine k_seq ?_
  refine k_reg ?_
  refine s_lt (t_pure (.pointer (some ⟨g4, 0, none⟩))) ?_
  refine s_lt (t_load 1 (.int .i64 c.kind)) ?_
  refine s_nil ?_
  refine xs_then ?_
  refine k_block ?_
  refine k_seq ?_
  refine k_reg ?_
  refine s_lt t_cmp ?_
  refine s_lt (t_pure (.bool (decide (c.kind = 0)))) ?_
  refine s_nil ?_
  refine xs_then ?_
  refine k_cond (decide (c.kind = 0)) (fun c6 => ?_) (fun c6 => ?_)
  ·
    have p7 := of_decide_eq_true c6
    refine k_seq ?_
    refine k_reg ?_
    refine s_lt (t_kern (.agg #[.int .i64 0, .int .i64 0, .int .i64 0, .string ByteArray.empty, .int .i64 0])) ?_
    refine s_lt (t_pure (.pointer (some ⟨b, 0, none⟩))) ?_
    refine s_lt (t_pure (.pointer (some ⟨g4, 3, none⟩))) ?_
    refine s_lt (t_loadA 1 #[.int .i64 c.vk, .int .i64 c.vp, .int .i64 c.vq, .string c.vs, .int .i64 c.vr]) ?_
    refine s_call [2] (push_s c.val) ?_
    rintro _ _ ⟨rfl, rfl⟩
    refine s_lt (t_pure (.int .i64 0)) ?_
    refine s_store 1 #[.int .i64 0, .int .i64 0, .int .i64 0, .string ByteArray.empty, .int .i64 0] ?_
    refine s_lt (t_pure (.int .i64 ((pushR L lim c.val).1))) ?_
    refine s_nil ?_
    refine xs_then ?_
    refine k_ret ?_
    refine xs_retBlock ?_
    refine xs_ret ?_
    have hp : progR L lim c = ((0, (⟨0, 0, 0, ByteArray.empty, 0⟩ : Vl), (pushR L lim c.val).1), (pushR L lim c.val).2) := by simp [progR, zVl, p7]
    refine xs_fin [.int .i64 0, .agg #[.int .i64 0, .int .i64 0, .int .i64 0, .string ByteArray.empty, .int .i64 0], .int .i64 ((pushR L lim c.val).1)] (stkA 63 b ((pushR L lim c.val).2) lim :: F) (SI.tmp 4 (SI.agg 5 32 1 (SI.tmp 6 SI.nil))) (fun _ h => h.re [0] [1, 1]) ?_
    rw [hp]; exact ⟨rfl, rfl⟩
  ·
    have p8 := of_decide_eq_false c6
    refine k_seq ?_
    refine k_reg ?_
    refine s_lt t_cmp ?_
    refine s_lt (t_pure (.bool (decide (c.kind = 1)))) ?_
    refine s_nil ?_
    refine xs_then ?_
    refine k_cond (decide (c.kind = 1)) (fun c9 => ?_) (fun c9 => ?_)
    ·
      have p10 := of_decide_eq_true c9
      refine k_seq ?_
      refine k_reg ?_
      refine s_lt (t_kern (.agg #[.int .i64 0, .int .i64 0, .int .i64 0, .string ByteArray.empty, .int .i64 0])) ?_
      refine s_lt (t_pure (.pointer (some ⟨b, 0, none⟩))) ?_
      refine s_lt (t_pure (.pointer (some ⟨g4, 1, none⟩))) ?_
      refine s_lt (t_load 1 (.int .i64 c.n)) ?_
      refine s_call [2] (pop_s c.n) ?_
      rintro _ _ ⟨rfl, rfl⟩
      refine s_lt (t_pure (.int .i64 0)) ?_
      refine s_store 1 #[.int .i64 0, .int .i64 0, .int .i64 0, .string ByteArray.empty, .int .i64 0] ?_
      refine s_lt (t_pure (.int .i64 ((popR L c.n).1))) ?_
      refine s_nil ?_
      refine xs_then ?_
      refine k_ret ?_
      refine xs_retBlock ?_
      refine xs_ret ?_
      have hp : progR L lim c = ((0, (⟨0, 0, 0, ByteArray.empty, 0⟩ : Vl), (popR L c.n).1), (popR L c.n).2) := by simp [progR, zVl, p8, p10]
      refine xs_fin [.int .i64 0, .agg #[.int .i64 0, .int .i64 0, .int .i64 0, .string ByteArray.empty, .int .i64 0], .int .i64 ((popR L c.n).1)] (stkA 63 b ((popR L c.n).2) lim :: F) (SI.tmp 4 (SI.agg 5 32 1 (SI.tmp 6 SI.nil))) (fun _ h => h.re [0] [1, 1]) ?_
      rw [hp]; exact ⟨rfl, rfl⟩
    ·
      have p11 := of_decide_eq_false c9
      refine k_seq ?_
      refine k_reg ?_
      refine s_lt t_cmp ?_
      refine s_lt (t_pure (.bool (decide (c.kind = 2)))) ?_
      refine s_nil ?_
      refine xs_then ?_
      refine k_cond (decide (c.kind = 2)) (fun c12 => ?_) (fun c12 => ?_)
      ·
        have p13 := of_decide_eq_true c12
        refine k_seq ?_
        refine k_reg ?_
        refine s_lt (t_kern (.agg #[.int .i64 0, .int .i64 0, .int .i64 0, .string ByteArray.empty, .int .i64 0])) ?_
        refine s_lt (t_pure (.pointer (some ⟨b, 0, none⟩))) ?_
        refine s_lt (t_pure (.pointer (some ⟨g4, 1, none⟩))) ?_
        refine s_lt (t_load 1 (.int .i64 c.n)) ?_
        refine s_call [2] (setTop_s c.n) ?_
        rintro _ _ ⟨rfl, rfl⟩
        refine s_lt (t_pure (.int .i64 0)) ?_
        refine s_store 1 #[.int .i64 0, .int .i64 0, .int .i64 0, .string ByteArray.empty, .int .i64 0] ?_
        refine s_lt (t_pure (.int .i64 ((setTopR L lim c.n).1))) ?_
        refine s_nil ?_
        refine xs_then ?_
        refine k_ret ?_
        refine xs_retBlock ?_
        refine xs_ret ?_
        have hp : progR L lim c = ((0, (⟨0, 0, 0, ByteArray.empty, 0⟩ : Vl), (setTopR L lim c.n).1), (setTopR L lim c.n).2) := by simp [progR, zVl, p8, p11, p13]
        refine xs_fin [.int .i64 0, .agg #[.int .i64 0, .int .i64 0, .int .i64 0, .string ByteArray.empty, .int .i64 0], .int .i64 ((setTopR L lim c.n).1)] (stkA 63 b ((setTopR L lim c.n).2) lim :: F) (SI.tmp 4 (SI.agg 5 32 1 (SI.tmp 6 SI.nil))) (fun _ h => h.re [0] [1, 1]) ?_
        rw [hp]; exact ⟨rfl, rfl⟩
      ·
        have p14 := of_decide_eq_false c12
        refine k_seq ?_
        refine k_reg ?_
        refine s_lt t_cmp ?_
        refine s_lt (t_pure (.bool (decide (c.kind = 3)))) ?_
        refine s_nil ?_
        refine xs_then ?_
        refine k_cond (decide (c.kind = 3)) (fun c15 => ?_) (fun c15 => ?_)
        ·
          have p16 := of_decide_eq_true c15
          refine k_seq ?_
          refine k_reg ?_
          refine s_lt (t_pure (.pointer (some ⟨b, 0, none⟩))) ?_
          refine s_lt (t_pure (.pointer (some ⟨g4, 1, none⟩))) ?_
          refine s_lt (t_load 1 (.int .i64 c.n)) ?_
          refine s_call [2] (ab_s c.n) ?_
          rintro _ _ ⟨rfl, rfl⟩
          refine s_lt (t_pure (.tuple #[.int .i64 ((absR L c.n).1), .int .i64 ((absR L c.n).2)])) ?_
          refine s_lt (t_pure (.int .i64 ((absR L c.n).1))) ?_
          refine s_lt (t_pure (.int .i64 ((absR L c.n).2))) ?_
          refine s_lt (t_pure (.int .i64 ((absR L c.n).1))) ?_
          refine s_lt (t_pure (.int .i64 ((absR L c.n).2))) ?_
          refine s_nil ?_
          refine xs_then ?_
          refine k_seq ?_
          refine k_reg ?_
          refine s_lt (t_pure (.int .i64 ((absR L c.n).1))) ?_
          refine s_lt (t_kern (.agg #[.int .i64 0, .int .i64 0, .int .i64 0, .string ByteArray.empty, .int .i64 0])) ?_
          refine s_lt (t_pure (.int .i64 ((absR L c.n).2))) ?_
          refine s_lt (t_pure (.int .i64 ((absR L c.n).1))) ?_
          refine s_store 1 #[.int .i64 0, .int .i64 0, .int .i64 0, .string ByteArray.empty, .int .i64 0] ?_
          refine s_lt (t_pure (.int .i64 ((absR L c.n).2))) ?_
          refine s_nil ?_
          refine xs_then ?_
          refine k_ret ?_
          refine xs_retBlock ?_
          refine xs_ret ?_
          have hp : progR L lim c = (((absR L c.n).1, (⟨0, 0, 0, ByteArray.empty, 0⟩ : Vl), (absR L c.n).2), L) := by simp [progR, zVl, p8, p11, p14, p16]
          refine xs_fin [.int .i64 ((absR L c.n).1), .agg #[.int .i64 0, .int .i64 0, .int .i64 0, .string ByteArray.empty, .int .i64 0], .int .i64 ((absR L c.n).2)] (stkA 63 b L lim :: F) (SI.tmp 4 (SI.agg 5 32 1 (SI.tmp 6 SI.nil))) (fun _ h => h.re [0] [1, 1]) ?_
          rw [hp]; exact ⟨rfl, rfl⟩
        ·
          have p17 := of_decide_eq_false c15
          refine k_seq ?_
          refine k_reg ?_
          refine s_lt t_cmp ?_
          refine s_lt (t_pure (.bool (decide (c.kind = 4)))) ?_
          refine s_nil ?_
          refine xs_then ?_
          refine k_cond (decide (c.kind = 4)) (fun c18 => ?_) (fun c18 => ?_)
          ·
            have p19 := of_decide_eq_true c18
            refine k_seq ?_
            refine k_reg ?_
            refine s_lt (t_pure (.pointer (some ⟨b, 0, none⟩))) ?_
            refine s_lt (t_pure (.pointer (some ⟨g4, 1, none⟩))) ?_
            refine s_lt (t_load 1 (.int .i64 c.n)) ?_
            refine s_call [2] (at_s c.n) ?_
            rintro _ _ ⟨rfl, rfl⟩
            refine s_lt (t_pure (.tuple #[.agg #[.int .i64 (((atR L c.n).1).kind), .int .i64 (((atR L c.n).1).p), .int .i64 (((atR L c.n).1).q), .string (((atR L c.n).1).str), .int .i64 (((atR L c.n).1).ref)], .int .i64 ((atR L c.n).2)])) ?_
            refine s_lt (t_pure (.agg #[.int .i64 (((atR L c.n).1).kind), .int .i64 (((atR L c.n).1).p), .int .i64 (((atR L c.n).1).q), .string (((atR L c.n).1).str), .int .i64 (((atR L c.n).1).ref)])) ?_
            refine s_lt (t_pure (.int .i64 ((atR L c.n).2))) ?_
            refine s_alloc (.agg #[.int .i64 0, .int .i64 0, .int .i64 0, .string ByteArray.empty, .int .i64 0]) #[.int .i64 0, .int .i64 0, .int .i64 0, .string ByteArray.empty, .int .i64 0] (fun g20 => ?_)
            refine s_store 0 #[.int .i64 (((atR L c.n).1).kind), .int .i64 (((atR L c.n).1).p), .int .i64 (((atR L c.n).1).q), .string (((atR L c.n).1).str), .int .i64 (((atR L c.n).1).ref)] ?_
            refine s_lt (t_pure (.int .i64 ((atR L c.n).2))) ?_
            refine s_nil ?_
            refine xs_then ?_
            refine k_seq ?_
            refine k_draw ?_
            refine s_lt (t_loadA 0 #[.int .i64 (((atR L c.n).1).kind), .int .i64 (((atR L c.n).1).p), .int .i64 (((atR L c.n).1).q), .string (((atR L c.n).1).str), .int .i64 (((atR L c.n).1).ref)]) ?_
            refine s_lt (t_pure (.int .i64 ((atR L c.n).2))) ?_
            refine s_lt (t_pure (.int .i64 0)) ?_
            refine s_store 2 #[.int .i64 (((atR L c.n).1).kind), .int .i64 (((atR L c.n).1).p), .int .i64 (((atR L c.n).1).q), .string (((atR L c.n).1).str), .int .i64 (((atR L c.n).1).ref)] ?_
            refine s_lt (t_pure (.int .i64 ((atR L c.n).2))) ?_
            refine s_nil ?_
            refine x_dynS (fun _ h => by kernel_rfl) ?_
            refine xs_then ?_
            refine k_ret ?_
            refine xs_retBlock ?_
            refine xs_ret ?_
            have hp : progR L lim c = ((0, (atR L c.n).1, (atR L c.n).2), L) := by simp [progR, zVl, p8, p11, p14, p17, p19]
            refine xs_fin [.int .i64 0, .agg #[.int .i64 (((atR L c.n).1).kind), .int .i64 (((atR L c.n).1).p), .int .i64 (((atR L c.n).1).q), .string (((atR L c.n).1).str), .int .i64 (((atR L c.n).1).ref)], .int .i64 ((atR L c.n).2)] (stkA 63 b L lim :: F) (SI.tmp 4 (SI.agg 5 32 2 (SI.tmp 6 SI.nil))) (fun _ h => h.re [1] [1, 1, 1]) ?_
            rw [hp]; exact ⟨rfl, rfl⟩
          ·
            have p21 := of_decide_eq_false c18
            refine k_seq ?_
            refine k_reg ?_
            refine s_lt t_cmp ?_
            refine s_lt (t_pure (.bool (decide (c.kind = 5)))) ?_
            refine s_nil ?_
            refine xs_then ?_
            refine k_cond (decide (c.kind = 5)) (fun c22 => ?_) (fun c22 => ?_)
            ·
              have p23 := of_decide_eq_true c22
              refine k_seq ?_
              refine k_reg ?_
              refine s_lt (t_kern (.agg #[.int .i64 0, .int .i64 0, .int .i64 0, .string ByteArray.empty, .int .i64 0])) ?_
              refine s_lt (t_pure (.pointer (some ⟨b, 0, none⟩))) ?_
              refine s_lt (t_pure (.pointer (some ⟨g4, 1, none⟩))) ?_
              refine s_lt (t_load 1 (.int .i64 c.n)) ?_
              refine s_lt (t_pure (.pointer (some ⟨g4, 3, none⟩))) ?_
              refine s_lt (t_loadA 1 #[.int .i64 c.vk, .int .i64 c.vp, .int .i64 c.vq, .string c.vs, .int .i64 c.vr]) ?_
              refine s_call [2] (put_s c.n c.val) ?_
              rintro _ _ ⟨rfl, rfl⟩
              refine s_lt (t_pure (.int .i64 0)) ?_
              refine s_store 1 #[.int .i64 0, .int .i64 0, .int .i64 0, .string ByteArray.empty, .int .i64 0] ?_
              refine s_lt (t_pure (.int .i64 ((putR L c.n c.val).1))) ?_
              refine s_nil ?_
              refine xs_then ?_
              refine k_ret ?_
              refine xs_retBlock ?_
              refine xs_ret ?_
              have hp : progR L lim c = ((0, (⟨0, 0, 0, ByteArray.empty, 0⟩ : Vl), (putR L c.n c.val).1), (putR L c.n c.val).2) := by simp [progR, zVl, p8, p11, p14, p17, p21, p23]
              refine xs_fin [.int .i64 0, .agg #[.int .i64 0, .int .i64 0, .int .i64 0, .string ByteArray.empty, .int .i64 0], .int .i64 ((putR L c.n c.val).1)] (stkA 63 b ((putR L c.n c.val).2) lim :: F) (SI.tmp 4 (SI.agg 5 32 1 (SI.tmp 6 SI.nil))) (fun _ h => h.re [0] [1, 1]) ?_
              rw [hp]; exact ⟨rfl, rfl⟩
            ·
              have p24 := of_decide_eq_false c22
              refine k_seq ?_
              refine k_reg ?_
              refine s_lt t_cmp ?_
              refine s_lt (t_pure (.bool (decide (c.kind = 6)))) ?_
              refine s_nil ?_
              refine xs_then ?_
              refine k_cond (decide (c.kind = 6)) (fun c25 => ?_) (fun c25 => ?_)
              ·
                have p26 := of_decide_eq_true c25
                refine k_seq ?_
                refine k_reg ?_
                refine s_lt (t_kern (.agg #[.int .i64 0, .int .i64 0, .int .i64 0, .string ByteArray.empty, .int .i64 0])) ?_
                refine s_lt (t_pure (.pointer (some ⟨b, 0, none⟩))) ?_
                refine s_lt (t_pure (.pointer (some ⟨g4, 1, none⟩))) ?_
                refine s_lt (t_load 1 (.int .i64 c.n)) ?_
                refine s_call [2] (ins_s c.n) ?_
                rintro _ _ ⟨rfl, rfl⟩
                refine s_lt (t_pure (.int .i64 0)) ?_
                refine s_store 1 #[.int .i64 0, .int .i64 0, .int .i64 0, .string ByteArray.empty, .int .i64 0] ?_
                refine s_lt (t_pure (.int .i64 ((rotR L c.n 1).1))) ?_
                refine s_nil ?_
                refine xs_then ?_
                refine k_ret ?_
                refine xs_retBlock ?_
                refine xs_ret ?_
                have hp : progR L lim c = ((0, (⟨0, 0, 0, ByteArray.empty, 0⟩ : Vl), (rotR L c.n 1).1), (rotR L c.n 1).2) := by simp [progR, zVl, p8, p11, p14, p17, p21, p24, p26]
                refine xs_fin [.int .i64 0, .agg #[.int .i64 0, .int .i64 0, .int .i64 0, .string ByteArray.empty, .int .i64 0], .int .i64 ((rotR L c.n 1).1)] (stkA 63 b ((rotR L c.n 1).2) lim :: F) (SI.tmp 4 (SI.agg 5 32 1 (SI.tmp 6 SI.nil))) (fun _ h => h.re [0] [1, 1]) ?_
                rw [hp]; exact ⟨rfl, rfl⟩
              ·
                have p27 := of_decide_eq_false c25
                refine k_seq ?_
                refine k_reg ?_
                refine s_lt t_cmp ?_
                refine s_lt (t_pure (.bool (decide (c.kind = 7)))) ?_
                refine s_nil ?_
                refine xs_then ?_
                refine k_cond (decide (c.kind = 7)) (fun c28 => ?_) (fun c28 => ?_)
                ·
                  have p29 := of_decide_eq_true c28
                  refine k_seq ?_
                  refine k_reg ?_
                  refine s_lt (t_kern (.agg #[.int .i64 0, .int .i64 0, .int .i64 0, .string ByteArray.empty, .int .i64 0])) ?_
                  refine s_lt (t_pure (.pointer (some ⟨b, 0, none⟩))) ?_
                  refine s_lt (t_pure (.pointer (some ⟨g4, 1, none⟩))) ?_
                  refine s_lt (t_load 1 (.int .i64 c.n)) ?_
                  refine s_call [2] (rem_s c.n) ?_
                  rintro _ _ ⟨rfl, rfl⟩
                  refine s_lt (t_pure (.int .i64 0)) ?_
                  refine s_store 1 #[.int .i64 0, .int .i64 0, .int .i64 0, .string ByteArray.empty, .int .i64 0] ?_
                  refine s_lt (t_pure (.int .i64 ((removeR L c.n).1))) ?_
                  refine s_nil ?_
                  refine xs_then ?_
                  refine k_ret ?_
                  refine xs_retBlock ?_
                  refine xs_ret ?_
                  have hp : progR L lim c = ((0, (⟨0, 0, 0, ByteArray.empty, 0⟩ : Vl), (removeR L c.n).1), (removeR L c.n).2) := by simp [progR, zVl, p8, p11, p14, p17, p21, p24, p27, p29]
                  refine xs_fin [.int .i64 0, .agg #[.int .i64 0, .int .i64 0, .int .i64 0, .string ByteArray.empty, .int .i64 0], .int .i64 ((removeR L c.n).1)] (stkA 63 b ((removeR L c.n).2) lim :: F) (SI.tmp 4 (SI.agg 5 32 1 (SI.tmp 6 SI.nil))) (fun _ h => h.re [0] [1, 1]) ?_
                  rw [hp]; exact ⟨rfl, rfl⟩
                ·
                  have p30 := of_decide_eq_false c28
                  refine k_seq ?_
                  refine k_reg ?_
                  refine s_lt t_cmp ?_
                  refine s_lt (t_pure (.bool (decide (c.kind = 8)))) ?_
                  refine s_nil ?_
                  refine xs_then ?_
                  refine k_cond (decide (c.kind = 8)) (fun c31 => ?_) (fun c31 => ?_)
                  ·
                    have p32 := of_decide_eq_true c31
                    refine k_seq ?_
                    refine k_reg ?_
                    refine s_lt (t_kern (.agg #[.int .i64 0, .int .i64 0, .int .i64 0, .string ByteArray.empty, .int .i64 0])) ?_
                    refine s_lt (t_pure (.pointer (some ⟨b, 0, none⟩))) ?_
                    refine s_lt (t_pure (.pointer (some ⟨g4, 1, none⟩))) ?_
                    refine s_lt (t_load 1 (.int .i64 c.n)) ?_
                    refine s_lt (t_pure (.pointer (some ⟨g4, 2, none⟩))) ?_
                    refine s_lt (t_load 1 (.int .i64 c.m)) ?_
                    refine s_call [2] (rot_s c.n c.m) ?_
                    rintro _ _ ⟨rfl, rfl⟩
                    refine s_lt (t_pure (.int .i64 0)) ?_
                    refine s_store 1 #[.int .i64 0, .int .i64 0, .int .i64 0, .string ByteArray.empty, .int .i64 0] ?_
                    refine s_lt (t_pure (.int .i64 ((rotR L c.n c.m).1))) ?_
                    refine s_nil ?_
                    refine xs_then ?_
                    refine k_ret ?_
                    refine xs_retBlock ?_
                    refine xs_ret ?_
                    have hp : progR L lim c = ((0, (⟨0, 0, 0, ByteArray.empty, 0⟩ : Vl), (rotR L c.n c.m).1), (rotR L c.n c.m).2) := by simp [progR, zVl, p8, p11, p14, p17, p21, p24, p27, p30, p32]
                    refine xs_fin [.int .i64 0, .agg #[.int .i64 0, .int .i64 0, .int .i64 0, .string ByteArray.empty, .int .i64 0], .int .i64 ((rotR L c.n c.m).1)] (stkA 63 b ((rotR L c.n c.m).2) lim :: F) (SI.tmp 4 (SI.agg 5 32 1 (SI.tmp 6 SI.nil))) (fun _ h => h.re [0] [1, 1]) ?_
                    rw [hp]; exact ⟨rfl, rfl⟩
                  ·
                    have p33 := of_decide_eq_false c31
                    refine k_seq ?_
                    refine k_reg ?_
                    refine s_lt t_cmp ?_
                    refine s_lt (t_pure (.bool (decide (c.kind = 9)))) ?_
                    refine s_nil ?_
                    refine xs_then ?_
                    refine k_cond (decide (c.kind = 9)) (fun c34 => ?_) (fun c34 => ?_)
                    ·
                      have p35 := of_decide_eq_true c34
                      refine k_seq ?_
                      refine k_reg ?_
                      refine s_lt (t_kern (.agg #[.int .i64 0, .int .i64 0, .int .i64 0, .string ByteArray.empty, .int .i64 0])) ?_
                      refine s_lt (t_pure (.pointer (some ⟨b, 0, none⟩))) ?_
                      refine s_lt (t_pure (.pointer (some ⟨g4, 1, none⟩))) ?_
                      refine s_lt (t_load 1 (.int .i64 c.n)) ?_
                      refine s_lt (t_pure (.pointer (some ⟨g4, 2, none⟩))) ?_
                      refine s_lt (t_load 1 (.int .i64 c.m)) ?_
                      refine s_call [2] (copy_s c.n c.m) ?_
                      rintro _ _ ⟨rfl, rfl⟩
                      refine s_lt (t_pure (.int .i64 0)) ?_
                      refine s_store 1 #[.int .i64 0, .int .i64 0, .int .i64 0, .string ByteArray.empty, .int .i64 0] ?_
                      refine s_lt (t_pure (.int .i64 ((copyR L c.n c.m).1))) ?_
                      refine s_nil ?_
                      refine xs_then ?_
                      refine k_ret ?_
                      refine xs_retBlock ?_
                      refine xs_ret ?_
                      have hp : progR L lim c = ((0, (⟨0, 0, 0, ByteArray.empty, 0⟩ : Vl), (copyR L c.n c.m).1), (copyR L c.n c.m).2) := by simp [progR, zVl, p8, p11, p14, p17, p21, p24, p27, p30, p33, p35]
                      refine xs_fin [.int .i64 0, .agg #[.int .i64 0, .int .i64 0, .int .i64 0, .string ByteArray.empty, .int .i64 0], .int .i64 ((copyR L c.n c.m).1)] (stkA 63 b ((copyR L c.n c.m).2) lim :: F) (SI.tmp 4 (SI.agg 5 32 1 (SI.tmp 6 SI.nil))) (fun _ h => h.re [0] [1, 1]) ?_
                      rw [hp]; exact ⟨rfl, rfl⟩
                    ·
                      have p36 := of_decide_eq_false c34
                      refine k_skip ?_
                      refine xs_block ?_
                      refine xs_then ?_
                      refine k_seq ?_
                      refine k_reg ?_
                      refine s_lt (t_kern (.agg #[.int .i64 0, .int .i64 0, .int .i64 0, .string ByteArray.empty, .int .i64 0])) ?_
                      refine s_lt (t_pure (.pointer (some ⟨b, 0, none⟩))) ?_
                      refine s_lt (t_pure (.pointer (some ⟨g4, 1, none⟩))) ?_
                      refine s_lt (t_load 1 (.int .i64 c.n)) ?_
                      refine s_call [2] (room_s c.n) ?_
                      rintro _ _ ⟨rfl, rfl⟩
                      refine s_lt (t_pure (.int .i64 0)) ?_
                      refine s_store 1 #[.int .i64 0, .int .i64 0, .int .i64 0, .string ByteArray.empty, .int .i64 0] ?_
                      refine s_lt (t_pure (.int .i64 (roomR L lim c.n))) ?_
                      refine s_nil ?_
                      refine xs_then ?_
                      refine k_ret ?_
                      have hp : progR L lim c = ((0, (⟨0, 0, 0, ByteArray.empty, 0⟩ : Vl), (roomR L lim c.n)), L) := by simp [progR, zVl, p8, p11, p14, p17, p21, p24, p27, p30, p33, p36]
                      refine xs_fin [.int .i64 0, .agg #[.int .i64 0, .int .i64 0, .int .i64 0, .string ByteArray.empty, .int .i64 0], .int .i64 (roomR L lim c.n)] (stkA 63 b L lim :: F) (SI.tmp 4 (SI.agg 5 32 1 (SI.tmp 6 SI.nil))) (fun _ h => h.re [0] [1, 1]) ?_
                      rw [hp]; exact ⟨rfl, rfl⟩
theorem prog_n {Z : Zone} (c : Cl) : SF Try.prog 25 #[.pointer none, c.v] Z [] fun r Bs => r = .tuple #[.int .i64 0, zVl.v, .int .i64 1] ∧ Bs = [] := by
  refine sf_enter Try.func25 103 [(0, .pointer none), (1, .agg #[.int .i64 c.kind, .int .i64 c.n, .int .i64 c.m, .int .i64 c.vk, .int .i64 c.vp, .int .i64 c.vq, .string c.vs, .int .i64 c.vr])] (fun w0 => ?_)
  refine k_seq ?_
  refine k_reg ?_
  refine s_box #[.int .i64 c.kind, .int .i64 c.n, .int .i64 c.m, .int .i64 c.vk, .int .i64 c.vp, .int .i64 c.vq, .string c.vs, .int .i64 c.vr] (fun g1 => ?_)
  refine s_lt (t_pure (.int .i64 0)) ?_
  refine s_alloc (.agg #[.int .i64 0, .int .i64 0, .int .i64 0, .string ByteArray.empty, .int .i64 0]) #[.int .i64 0, .int .i64 0, .int .i64 0, .string ByteArray.empty, .int .i64 0] (fun g2 => ?_)
  refine s_lt (t_pure (.int .i64 0)) ?_
  refine s_nil ?_
  refine xs_then ?_
  refine k_seq ?_
  refine k_seq ?_
  refine k_reg ?_
  refine s_lt (t_pure (.pointer (some ⟨g1, 0, none⟩))) ?_
  refine s_lt (t_load 1 (.int .i64 c.kind)) ?_
  refine s_nil ?_
  refine xs_then ?_
  refine k_block ?_
  refine k_seq ?_
  refine k_reg ?_
  refine s_lt t_cmp ?_
  refine s_lt (t_pure (.bool (decide (c.kind = 0)))) ?_
  refine s_nil ?_
  refine xs_then ?_
  refine k_cond (decide (c.kind = 0)) (fun c3 => ?_) (fun c3 => ?_)
  ·
    have p4 := of_decide_eq_true c3
    refine k_seq ?_
    refine k_reg ?_
    refine s_lt (t_kern (.agg #[.int .i64 0, .int .i64 0, .int .i64 0, .string ByteArray.empty, .int .i64 0])) ?_
    refine s_lt (t_pure (.pointer none)) ?_
    refine s_lt (t_pure (.pointer (some ⟨g1, 3, none⟩))) ?_
    refine s_lt (t_loadA 1 #[.int .i64 c.vk, .int .i64 c.vp, .int .i64 c.vq, .string c.vs, .int .i64 c.vr]) ?_
    refine s_vcall (fun _ h => push_n c.val) ?_
    rintro _ rfl
    refine s_lt (t_pure (.int .i64 0)) ?_
    refine s_store 0 #[.int .i64 0, .int .i64 0, .int .i64 0, .string ByteArray.empty, .int .i64 0] ?_
    refine s_lt (t_pure (.int .i64 1)) ?_
    refine s_nil ?_
    refine xs_then ?_
    refine k_ret ?_
    refine xs_retBlock ?_
    refine xs_ret ?_
    refine xs_fin [.int .i64 0, .agg #[.int .i64 0, .int .i64 0, .int .i64 0, .string ByteArray.empty, .int .i64 0], .int .i64 1] [] (SI.tmp 4 (SI.agg 5 32 0 (SI.tmp 6 SI.nil))) (fun _ h => h.re [] [0, 0]) ⟨?_, rfl⟩
    rfl
  ·
    have p5 := of_decide_eq_false c3
    refine k_seq ?_
    refine k_reg ?_
    refine s_lt t_cmp ?_
    refine s_lt (t_pure (.bool (decide (c.kind = 1)))) ?_
    refine s_nil ?_
    refine xs_then ?_
    refine k_cond (decide (c.kind = 1)) (fun c6 => ?_) (fun c6 => ?_)
    ·
      have p7 := of_decide_eq_true c6
      refine k_seq ?_
      refine k_reg ?_
      refine s_lt (t_kern (.agg #[.int .i64 0, .int .i64 0, .int .i64 0, .string ByteArray.empty, .int .i64 0])) ?_
      refine s_lt (t_pure (.pointer none)) ?_
      refine s_lt (t_pure (.pointer (some ⟨g1, 1, none⟩))) ?_
      refine s_lt (t_load 1 (.int .i64 c.n)) ?_
      refine s_vcall (fun _ h => pop_n c.n) ?_
      rintro _ rfl
      refine s_lt (t_pure (.int .i64 0)) ?_
      refine s_store 0 #[.int .i64 0, .int .i64 0, .int .i64 0, .string ByteArray.empty, .int .i64 0] ?_
      refine s_lt (t_pure (.int .i64 1)) ?_
      refine s_nil ?_
      refine xs_then ?_
      refine k_ret ?_
      refine xs_retBlock ?_
      refine xs_ret ?_
      refine xs_fin [.int .i64 0, .agg #[.int .i64 0, .int .i64 0, .int .i64 0, .string ByteArray.empty, .int .i64 0], .int .i64 1] [] (SI.tmp 4 (SI.agg 5 32 0 (SI.tmp 6 SI.nil))) (fun _ h => h.re [] [0, 0]) ⟨?_, rfl⟩
      rfl
    ·
      have p8 := of_decide_eq_false c6
      refine k_seq ?_
      refine k_reg ?_
      refine s_lt t_cmp ?_
      refine s_lt (t_pure (.bool (decide (c.kind = 2)))) ?_
      refine s_nil ?_
      refine xs_then ?_
      refine k_cond (decide (c.kind = 2)) (fun c9 => ?_) (fun c9 => ?_)
      ·
        have p10 := of_decide_eq_true c9
        refine k_seq ?_
        refine k_reg ?_
        refine s_lt (t_kern (.agg #[.int .i64 0, .int .i64 0, .int .i64 0, .string ByteArray.empty, .int .i64 0])) ?_
        refine s_lt (t_pure (.pointer none)) ?_
        refine s_lt (t_pure (.pointer (some ⟨g1, 1, none⟩))) ?_
        refine s_lt (t_load 1 (.int .i64 c.n)) ?_
        refine s_vcall (fun _ h => setTop_n c.n) ?_
        rintro _ rfl
        refine s_lt (t_pure (.int .i64 0)) ?_
        refine s_store 0 #[.int .i64 0, .int .i64 0, .int .i64 0, .string ByteArray.empty, .int .i64 0] ?_
        refine s_lt (t_pure (.int .i64 1)) ?_
        refine s_nil ?_
        refine xs_then ?_
        refine k_ret ?_
        refine xs_retBlock ?_
        refine xs_ret ?_
        refine xs_fin [.int .i64 0, .agg #[.int .i64 0, .int .i64 0, .int .i64 0, .string ByteArray.empty, .int .i64 0], .int .i64 1] [] (SI.tmp 4 (SI.agg 5 32 0 (SI.tmp 6 SI.nil))) (fun _ h => h.re [] [0, 0]) ⟨?_, rfl⟩
        rfl
      ·
        have p11 := of_decide_eq_false c9
        refine k_seq ?_
        refine k_reg ?_
        refine s_lt t_cmp ?_
        refine s_lt (t_pure (.bool (decide (c.kind = 3)))) ?_
        refine s_nil ?_
        refine xs_then ?_
        refine k_cond (decide (c.kind = 3)) (fun c12 => ?_) (fun c12 => ?_)
        ·
          have p13 := of_decide_eq_true c12
          refine k_seq ?_
          refine k_reg ?_
          refine s_lt (t_pure (.pointer none)) ?_
          refine s_lt (t_pure (.pointer (some ⟨g1, 1, none⟩))) ?_
          refine s_lt (t_load 1 (.int .i64 c.n)) ?_
          refine s_vcall (fun _ h => ab_n c.n) ?_
          rintro _ rfl
          refine s_lt (t_pure (.tuple #[.int .i64 0, .int .i64 1])) ?_
          refine s_lt (t_pure (.int .i64 0)) ?_
          refine s_lt (t_pure (.int .i64 1)) ?_
          refine s_lt (t_pure (.int .i64 0)) ?_
          refine s_lt (t_pure (.int .i64 1)) ?_
          refine s_nil ?_
          refine xs_then ?_
          refine k_seq ?_
          refine k_reg ?_
          refine s_lt (t_pure (.int .i64 0)) ?_
          refine s_lt (t_kern (.agg #[.int .i64 0, .int .i64 0, .int .i64 0, .string ByteArray.empty, .int .i64 0])) ?_
          refine s_lt (t_pure (.int .i64 1)) ?_
          refine s_lt (t_pure (.int .i64 0)) ?_
          refine s_store 0 #[.int .i64 0, .int .i64 0, .int .i64 0, .string ByteArray.empty, .int .i64 0] ?_
          refine s_lt (t_pure (.int .i64 1)) ?_
          refine s_nil ?_
          refine xs_then ?_
          refine k_ret ?_
          refine xs_retBlock ?_
          refine xs_ret ?_
          refine xs_fin [.int .i64 0, .agg #[.int .i64 0, .int .i64 0, .int .i64 0, .string ByteArray.empty, .int .i64 0], .int .i64 1] [] (SI.tmp 4 (SI.agg 5 32 0 (SI.tmp 6 SI.nil))) (fun _ h => h.re [] [0, 0]) ⟨?_, rfl⟩
          rfl
        ·
          have p14 := of_decide_eq_false c12
          refine k_seq ?_
          refine k_reg ?_
          refine s_lt t_cmp ?_
          refine s_lt (t_pure (.bool (decide (c.kind = 4)))) ?_
          refine s_nil ?_
          refine xs_then ?_
          refine k_cond (decide (c.kind = 4)) (fun c15 => ?_) (fun c15 => ?_)
          ·
            have p16 := of_decide_eq_true c15
            refine k_seq ?_
            refine k_reg ?_
            refine s_lt (t_pure (.pointer none)) ?_
            refine s_lt (t_pure (.pointer (some ⟨g1, 1, none⟩))) ?_
            refine s_lt (t_load 1 (.int .i64 c.n)) ?_
            refine s_vcall (fun _ h => at_n c.n) ?_
            rintro _ rfl
            refine s_lt (t_pure (.tuple #[.agg #[.int .i64 zVl.kind, .int .i64 zVl.p, .int .i64 zVl.q, .string zVl.str, .int .i64 zVl.ref], .int .i64 1])) ?_
            refine s_lt (t_pure (.agg #[.int .i64 zVl.kind, .int .i64 zVl.p, .int .i64 zVl.q, .string zVl.str, .int .i64 zVl.ref])) ?_
            refine s_lt (t_pure (.int .i64 1)) ?_
            refine s_alloc (.agg #[.int .i64 0, .int .i64 0, .int .i64 0, .string ByteArray.empty, .int .i64 0]) #[.int .i64 0, .int .i64 0, .int .i64 0, .string ByteArray.empty, .int .i64 0] (fun g17 => ?_)
            refine s_store 0 #[.int .i64 zVl.kind, .int .i64 zVl.p, .int .i64 zVl.q, .string zVl.str, .int .i64 zVl.ref] ?_
            refine s_lt (t_pure (.int .i64 1)) ?_
            refine s_nil ?_
            refine xs_then ?_
            refine k_seq ?_
            refine k_draw ?_
            refine s_lt (t_loadA 0 #[.int .i64 zVl.kind, .int .i64 zVl.p, .int .i64 zVl.q, .string zVl.str, .int .i64 zVl.ref]) ?_
            refine s_lt (t_pure (.int .i64 1)) ?_
            refine s_lt (t_pure (.int .i64 0)) ?_
            refine s_store 1 #[.int .i64 zVl.kind, .int .i64 zVl.p, .int .i64 zVl.q, .string zVl.str, .int .i64 zVl.ref] ?_
            refine s_lt (t_pure (.int .i64 1)) ?_
            refine s_nil ?_
            refine x_dynS (fun _ h => by kernel_rfl) ?_
            refine xs_then ?_
            refine k_ret ?_
            refine xs_retBlock ?_
            refine xs_ret ?_
            refine xs_fin [.int .i64 0, .agg #[.int .i64 zVl.kind, .int .i64 zVl.p, .int .i64 zVl.q, .string zVl.str, .int .i64 zVl.ref], .int .i64 1] [] (SI.tmp 4 (SI.agg 5 32 1 (SI.tmp 6 SI.nil))) (fun _ h => h.re [] [0, 0, 0]) ⟨?_, rfl⟩
            rfl
          ·
            have p18 := of_decide_eq_false c15
            refine k_seq ?_
            refine k_reg ?_
            refine s_lt t_cmp ?_
            refine s_lt (t_pure (.bool (decide (c.kind = 5)))) ?_
            refine s_nil ?_
            refine xs_then ?_
            refine k_cond (decide (c.kind = 5)) (fun c19 => ?_) (fun c19 => ?_)
            ·
              have p20 := of_decide_eq_true c19
              refine k_seq ?_
              refine k_reg ?_
              refine s_lt (t_kern (.agg #[.int .i64 0, .int .i64 0, .int .i64 0, .string ByteArray.empty, .int .i64 0])) ?_
              refine s_lt (t_pure (.pointer none)) ?_
              refine s_lt (t_pure (.pointer (some ⟨g1, 1, none⟩))) ?_
              refine s_lt (t_load 1 (.int .i64 c.n)) ?_
              refine s_lt (t_pure (.pointer (some ⟨g1, 3, none⟩))) ?_
              refine s_lt (t_loadA 1 #[.int .i64 c.vk, .int .i64 c.vp, .int .i64 c.vq, .string c.vs, .int .i64 c.vr]) ?_
              refine s_vcall (fun _ h => put_n c.n c.val) ?_
              rintro _ rfl
              refine s_lt (t_pure (.int .i64 0)) ?_
              refine s_store 0 #[.int .i64 0, .int .i64 0, .int .i64 0, .string ByteArray.empty, .int .i64 0] ?_
              refine s_lt (t_pure (.int .i64 1)) ?_
              refine s_nil ?_
              refine xs_then ?_
              refine k_ret ?_
              refine xs_retBlock ?_
              refine xs_ret ?_
              refine xs_fin [.int .i64 0, .agg #[.int .i64 0, .int .i64 0, .int .i64 0, .string ByteArray.empty, .int .i64 0], .int .i64 1] [] (SI.tmp 4 (SI.agg 5 32 0 (SI.tmp 6 SI.nil))) (fun _ h => h.re [] [0, 0]) ⟨?_, rfl⟩
              rfl
            ·
              have p21 := of_decide_eq_false c19
              refine k_seq ?_
              refine k_reg ?_
              refine s_lt t_cmp ?_
              refine s_lt (t_pure (.bool (decide (c.kind = 6)))) ?_
              refine s_nil ?_
              refine xs_then ?_
              refine k_cond (decide (c.kind = 6)) (fun c22 => ?_) (fun c22 => ?_)
              ·
                have p23 := of_decide_eq_true c22
                refine k_seq ?_
                refine k_reg ?_
                refine s_lt (t_kern (.agg #[.int .i64 0, .int .i64 0, .int .i64 0, .string ByteArray.empty, .int .i64 0])) ?_
                refine s_lt (t_pure (.pointer none)) ?_
                refine s_lt (t_pure (.pointer (some ⟨g1, 1, none⟩))) ?_
                refine s_lt (t_load 1 (.int .i64 c.n)) ?_
                refine s_vcall (fun _ h => ins_n c.n) ?_
                rintro _ rfl
                refine s_lt (t_pure (.int .i64 0)) ?_
                refine s_store 0 #[.int .i64 0, .int .i64 0, .int .i64 0, .string ByteArray.empty, .int .i64 0] ?_
                refine s_lt (t_pure (.int .i64 1)) ?_
                refine s_nil ?_
                refine xs_then ?_
                refine k_ret ?_
                refine xs_retBlock ?_
                refine xs_ret ?_
                refine xs_fin [.int .i64 0, .agg #[.int .i64 0, .int .i64 0, .int .i64 0, .string ByteArray.empty, .int .i64 0], .int .i64 1] [] (SI.tmp 4 (SI.agg 5 32 0 (SI.tmp 6 SI.nil))) (fun _ h => h.re [] [0, 0]) ⟨?_, rfl⟩
                rfl
              ·
                have p24 := of_decide_eq_false c22
                refine k_seq ?_
                refine k_reg ?_
                refine s_lt t_cmp ?_
                refine s_lt (t_pure (.bool (decide (c.kind = 7)))) ?_
                refine s_nil ?_
                refine xs_then ?_
                refine k_cond (decide (c.kind = 7)) (fun c25 => ?_) (fun c25 => ?_)
                ·
                  have p26 := of_decide_eq_true c25
                  refine k_seq ?_
                  refine k_reg ?_
                  refine s_lt (t_kern (.agg #[.int .i64 0, .int .i64 0, .int .i64 0, .string ByteArray.empty, .int .i64 0])) ?_
                  refine s_lt (t_pure (.pointer none)) ?_
                  refine s_lt (t_pure (.pointer (some ⟨g1, 1, none⟩))) ?_
                  refine s_lt (t_load 1 (.int .i64 c.n)) ?_
                  refine s_vcall (fun _ h => rem_n c.n) ?_
                  rintro _ rfl
                  refine s_lt (t_pure (.int .i64 0)) ?_
                  refine s_store 0 #[.int .i64 0, .int .i64 0, .int .i64 0, .string ByteArray.empty, .int .i64 0] ?_
                  refine s_lt (t_pure (.int .i64 1)) ?_
                  refine s_nil ?_
                  refine xs_then ?_
                  refine k_ret ?_
                  refine xs_retBlock ?_
                  refine xs_ret ?_
                  refine xs_fin [.int .i64 0, .agg #[.int .i64 0, .int .i64 0, .int .i64 0, .string ByteArray.empty, .int .i64 0], .int .i64 1] [] (SI.tmp 4 (SI.agg 5 32 0 (SI.tmp 6 SI.nil))) (fun _ h => h.re [] [0, 0]) ⟨?_, rfl⟩
                  rfl
                ·
                  have p27 := of_decide_eq_false c25
                  refine k_seq ?_
                  refine k_reg ?_
                  refine s_lt t_cmp ?_
                  refine s_lt (t_pure (.bool (decide (c.kind = 8)))) ?_
                  refine s_nil ?_
                  refine xs_then ?_
                  refine k_cond (decide (c.kind = 8)) (fun c28 => ?_) (fun c28 => ?_)
                  ·
                    have p29 := of_decide_eq_true c28
                    refine k_seq ?_
                    refine k_reg ?_
                    refine s_lt (t_kern (.agg #[.int .i64 0, .int .i64 0, .int .i64 0, .string ByteArray.empty, .int .i64 0])) ?_
                    refine s_lt (t_pure (.pointer none)) ?_
                    refine s_lt (t_pure (.pointer (some ⟨g1, 1, none⟩))) ?_
                    refine s_lt (t_load 1 (.int .i64 c.n)) ?_
                    refine s_lt (t_pure (.pointer (some ⟨g1, 2, none⟩))) ?_
                    refine s_lt (t_load 1 (.int .i64 c.m)) ?_
                    refine s_vcall (fun _ h => rot_n c.n c.m) ?_
                    rintro _ rfl
                    refine s_lt (t_pure (.int .i64 0)) ?_
                    refine s_store 0 #[.int .i64 0, .int .i64 0, .int .i64 0, .string ByteArray.empty, .int .i64 0] ?_
                    refine s_lt (t_pure (.int .i64 1)) ?_
                    refine s_nil ?_
                    refine xs_then ?_
                    refine k_ret ?_
                    refine xs_retBlock ?_
                    refine xs_ret ?_
                    refine xs_fin [.int .i64 0, .agg #[.int .i64 0, .int .i64 0, .int .i64 0, .string ByteArray.empty, .int .i64 0], .int .i64 1] [] (SI.tmp 4 (SI.agg 5 32 0 (SI.tmp 6 SI.nil))) (fun _ h => h.re [] [0, 0]) ⟨?_, rfl⟩
                    rfl
                  ·
                    have p30 := of_decide_eq_false c28
                    refine k_seq ?_
                    refine k_reg ?_
                    refine s_lt t_cmp ?_
                    refine s_lt (t_pure (.bool (decide (c.kind = 9)))) ?_
                    refine s_nil ?_
                    refine xs_then ?_
                    refine k_cond (decide (c.kind = 9)) (fun c31 => ?_) (fun c31 => ?_)
                    ·
                      have p32 := of_decide_eq_true c31
                      refine k_seq ?_
                      refine k_reg ?_
                      refine s_lt (t_kern (.agg #[.int .i64 0, .int .i64 0, .int .i64 0, .string ByteArray.empty, .int .i64 0])) ?_
                      refine s_lt (t_pure (.pointer none)) ?_
                      refine s_lt (t_pure (.pointer (some ⟨g1, 1, none⟩))) ?_
                      refine s_lt (t_load 1 (.int .i64 c.n)) ?_
                      refine s_lt (t_pure (.pointer (some ⟨g1, 2, none⟩))) ?_
                      refine s_lt (t_load 1 (.int .i64 c.m)) ?_
                      refine s_vcall (fun _ h => copy_n c.n c.m) ?_
                      rintro _ rfl
                      refine s_lt (t_pure (.int .i64 0)) ?_
                      refine s_store 0 #[.int .i64 0, .int .i64 0, .int .i64 0, .string ByteArray.empty, .int .i64 0] ?_
                      refine s_lt (t_pure (.int .i64 1)) ?_
                      refine s_nil ?_
                      refine xs_then ?_
                      refine k_ret ?_
                      refine xs_retBlock ?_
                      refine xs_ret ?_
                      refine xs_fin [.int .i64 0, .agg #[.int .i64 0, .int .i64 0, .int .i64 0, .string ByteArray.empty, .int .i64 0], .int .i64 1] [] (SI.tmp 4 (SI.agg 5 32 0 (SI.tmp 6 SI.nil))) (fun _ h => h.re [] [0, 0]) ⟨?_, rfl⟩
                      rfl
                    ·
                      have p33 := of_decide_eq_false c31
                      refine k_skip ?_
                      refine xs_block ?_
                      refine xs_then ?_
                      refine k_seq ?_
                      refine k_reg ?_
                      refine s_lt (t_kern (.agg #[.int .i64 0, .int .i64 0, .int .i64 0, .string ByteArray.empty, .int .i64 0])) ?_
                      refine s_lt (t_pure (.pointer none)) ?_
                      refine s_lt (t_pure (.pointer (some ⟨g1, 1, none⟩))) ?_
                      refine s_lt (t_load 1 (.int .i64 c.n)) ?_
                      refine s_vcall (fun _ h => room_n c.n) ?_
                      rintro _ rfl
                      refine s_lt (t_pure (.int .i64 0)) ?_
                      refine s_store 0 #[.int .i64 0, .int .i64 0, .int .i64 0, .string ByteArray.empty, .int .i64 0] ?_
                      refine s_lt (t_pure (.int .i64 1)) ?_
                      refine s_nil ?_
                      refine xs_then ?_
                      refine k_ret ?_
                      refine xs_fin [.int .i64 0, .agg #[.int .i64 0, .int .i64 0, .int .i64 0, .string ByteArray.empty, .int .i64 0], .int .i64 1] [] (SI.tmp 4 (SI.agg 5 32 0 (SI.tmp 6 SI.nil))) (fun _ h => h.re [] [0, 0]) ⟨?_, rfl⟩
                      rfl
theorem doc_s {Z : Zone} {F : List Asr} {b : Nat} {L : List Vl} {lim : Int} (c : Cl) : SF Try.prog 26 #[.pointer (some ⟨b, 0, none⟩), c.v] Z (stkA 68 b L lim :: F) fun r Bs => r = .tuple #[.int .i64 (docR L lim c).1.1, (docR L lim c).1.2.1.v, .int .i64 (docR L lim c).1.2.2] ∧ Bs = stkA 68 b (docR L lim c).2 lim :: F := by
  refine sf_enter Try.func26 103 [(0, .pointer (some ⟨b, 0, none⟩)), (1, .agg #[.int .i64 c.kind, .int .i64 c.n, .int .i64 c.m, .int .i64 c.vk, .int .i64 c.vp, .int .i64 c.vq, .string c.vs, .int .i64 c.vr])] (fun w0 => ?_)
  refine k_fact (fun H h => stk_len (h.re [0] [])) (fun hl => ?_)
  obtain ⟨hl1, hl2, hl3⟩ := hl
  refine k_seq ?_
  refine k_reg ?_
  refine s_box #[.int .i64 c.kind, .int .i64 c.n, .int .i64 c.m, .int .i64 c.vk, .int .i64 c.vp, .int .i64 c.vq, .string c.vs, .int .i64 c.vr] (fun g4 => ?_)
  refine s_lt (t_pure (.int .i64 0)) ?_
  refine s_alloc (.agg #[.int .i64 0, .int .i64 0, .int .i64 0, .string ByteArray.empty, .int .i64 0]) #[.int .i64 0, .int .i64 0, .int .i64 0, .string ByteArray.empty, .int .i64 0] (fun g5 => ?_)
  refine s_lt (t_pure (.int .i64 0)) ?_
  refine s_nil ?_
  refine xs_then ?_
  refine k_seq ?_
  refine k_seq ?_
  refine k_reg ?_
  refine s_lt (t_pure (.pointer (some ⟨g4, 0, none⟩))) ?_
  refine s_lt (t_load 1 (.int .i64 c.kind)) ?_
  refine s_nil ?_
  refine xs_then ?_
  refine k_block ?_
  refine k_seq ?_
  refine k_reg ?_
  refine s_lt t_cmp ?_
  refine s_lt (t_pure (.bool (decide (c.kind = 0)))) ?_
  refine s_nil ?_
  refine xs_then ?_
  refine k_cond (decide (c.kind = 0)) (fun c6 => ?_) (fun c6 => ?_)
  ·
    have p7 := of_decide_eq_true c6
    refine k_seq ?_
    refine k_reg ?_
    refine s_lt (t_kern (.agg #[.int .i64 0, .int .i64 0, .int .i64 0, .string ByteArray.empty, .int .i64 0])) ?_
    refine s_lt (t_pure (.pointer (some ⟨b, 0, none⟩))) ?_
    refine s_lt (t_pure (.pointer (some ⟨g4, 3, none⟩))) ?_
    refine s_lt (t_loadA 1 #[.int .i64 c.vk, .int .i64 c.vp, .int .i64 c.vq, .string c.vs, .int .i64 c.vr]) ?_
    refine s_call [2] (rpush_s c.val) ?_
    rintro _ _ ⟨rfl, rfl⟩
    refine s_lt (t_pure (.int .i64 0)) ?_
    refine s_store 1 #[.int .i64 0, .int .i64 0, .int .i64 0, .string ByteArray.empty, .int .i64 0] ?_
    refine s_lt (t_pure (.int .i64 ((pushR L lim c.val).1))) ?_
    refine s_nil ?_
    refine xs_then ?_
    refine k_ret ?_
    refine xs_retBlock ?_
    refine xs_ret ?_
    have hp : docR L lim c = ((0, (⟨0, 0, 0, ByteArray.empty, 0⟩ : Vl), (pushR L lim c.val).1), (pushR L lim c.val).2) := by simp [docR, zVl, p7]
    refine xs_fin [.int .i64 0, .agg #[.int .i64 0, .int .i64 0, .int .i64 0, .string ByteArray.empty, .int .i64 0], .int .i64 ((pushR L lim c.val).1)] (stkA 68 b ((pushR L lim c.val).2) lim :: F) (SI.tmp 4 (SI.agg 5 32 1 (SI.tmp 6 SI.nil))) (fun _ h => h.re [0] [1, 1]) ?_
    rw [hp]; exact ⟨rfl, rfl⟩
  ·
    have p8 := of_decide_eq_false c6
    refine k_seq ?_
    refine k_reg ?_
    refine s_lt t_cmp ?_
    refine s_lt (t_pure (.bool (decide (c.kind = 1)))) ?_
    refine s_nil ?_
    refine xs_then ?_
    refine k_cond (decide (c.kind = 1)) (fun c9 => ?_) (fun c9 => ?_)
    ·
      have p10 := of_decide_eq_true c9
      refine k_seq ?_
      refine k_reg ?_
      refine s_lt (t_kern (.agg #[.int .i64 0, .int .i64 0, .int .i64 0, .string ByteArray.empty, .int .i64 0])) ?_
      refine s_lt (t_pure (.pointer (some ⟨b, 0, none⟩))) ?_
      refine s_lt (t_pure (.pointer (some ⟨g4, 1, none⟩))) ?_
      refine s_lt (t_load 1 (.int .i64 c.n)) ?_
      refine s_call [2] (rpop_s c.n) ?_
      rintro _ _ ⟨rfl, rfl⟩
      refine s_lt (t_pure (.int .i64 0)) ?_
      refine s_store 1 #[.int .i64 0, .int .i64 0, .int .i64 0, .string ByteArray.empty, .int .i64 0] ?_
      refine s_lt (t_pure (.int .i64 ((popR L c.n).1))) ?_
      refine s_nil ?_
      refine xs_then ?_
      refine k_ret ?_
      refine xs_retBlock ?_
      refine xs_ret ?_
      have hp : docR L lim c = ((0, (⟨0, 0, 0, ByteArray.empty, 0⟩ : Vl), (popR L c.n).1), (popR L c.n).2) := by simp [docR, zVl, p8, p10]
      refine xs_fin [.int .i64 0, .agg #[.int .i64 0, .int .i64 0, .int .i64 0, .string ByteArray.empty, .int .i64 0], .int .i64 ((popR L c.n).1)] (stkA 68 b ((popR L c.n).2) lim :: F) (SI.tmp 4 (SI.agg 5 32 1 (SI.tmp 6 SI.nil))) (fun _ h => h.re [0] [1, 1]) ?_
      rw [hp]; exact ⟨rfl, rfl⟩
    ·
      have p11 := of_decide_eq_false c9
      refine k_seq ?_
      refine k_reg ?_
      refine s_lt t_cmp ?_
      refine s_lt (t_pure (.bool (decide (c.kind = 2)))) ?_
      refine s_nil ?_
      refine xs_then ?_
      refine k_cond (decide (c.kind = 2)) (fun c12 => ?_) (fun c12 => ?_)
      ·
        have p13 := of_decide_eq_true c12
        refine k_seq ?_
        refine k_reg ?_
        refine s_lt (t_kern (.agg #[.int .i64 0, .int .i64 0, .int .i64 0, .string ByteArray.empty, .int .i64 0])) ?_
        refine s_lt (t_pure (.pointer (some ⟨b, 0, none⟩))) ?_
        refine s_lt (t_pure (.pointer (some ⟨g4, 1, none⟩))) ?_
        refine s_lt (t_load 1 (.int .i64 c.n)) ?_
        refine s_call [2] (rsetTop_s c.n) ?_
        rintro _ _ ⟨rfl, rfl⟩
        refine s_lt (t_pure (.int .i64 0)) ?_
        refine s_store 1 #[.int .i64 0, .int .i64 0, .int .i64 0, .string ByteArray.empty, .int .i64 0] ?_
        refine s_lt (t_pure (.int .i64 ((setTopR L lim c.n).1))) ?_
        refine s_nil ?_
        refine xs_then ?_
        refine k_ret ?_
        refine xs_retBlock ?_
        refine xs_ret ?_
        have hp : docR L lim c = ((0, (⟨0, 0, 0, ByteArray.empty, 0⟩ : Vl), (setTopR L lim c.n).1), (setTopR L lim c.n).2) := by simp [docR, zVl, p8, p11, p13]
        refine xs_fin [.int .i64 0, .agg #[.int .i64 0, .int .i64 0, .int .i64 0, .string ByteArray.empty, .int .i64 0], .int .i64 ((setTopR L lim c.n).1)] (stkA 68 b ((setTopR L lim c.n).2) lim :: F) (SI.tmp 4 (SI.agg 5 32 1 (SI.tmp 6 SI.nil))) (fun _ h => h.re [0] [1, 1]) ?_
        rw [hp]; exact ⟨rfl, rfl⟩
      ·
        have p14 := of_decide_eq_false c12
        refine k_seq ?_
        refine k_reg ?_
        refine s_lt t_cmp ?_
        refine s_lt (t_pure (.bool (decide (c.kind = 3)))) ?_
        refine s_nil ?_
        refine xs_then ?_
        refine k_cond (decide (c.kind = 3)) (fun c15 => ?_) (fun c15 => ?_)
        ·
          have p16 := of_decide_eq_true c15
          refine k_seq ?_
          refine k_reg ?_
          refine s_lt (t_pure (.pointer (some ⟨b, 0, none⟩))) ?_
          refine s_lt (t_pure (.pointer (some ⟨g4, 1, none⟩))) ?_
          refine s_lt (t_load 1 (.int .i64 c.n)) ?_
          refine s_call [2] (rab_s c.n) ?_
          rintro _ _ ⟨rfl, rfl⟩
          refine s_lt (t_pure (.tuple #[.int .i64 ((absR L c.n).1), .int .i64 ((absR L c.n).2)])) ?_
          refine s_lt (t_pure (.int .i64 ((absR L c.n).1))) ?_
          refine s_lt (t_pure (.int .i64 ((absR L c.n).2))) ?_
          refine s_lt (t_pure (.int .i64 ((absR L c.n).1))) ?_
          refine s_lt (t_pure (.int .i64 ((absR L c.n).2))) ?_
          refine s_nil ?_
          refine xs_then ?_
          refine k_seq ?_
          refine k_reg ?_
          refine s_lt (t_pure (.int .i64 ((absR L c.n).1))) ?_
          refine s_lt (t_kern (.agg #[.int .i64 0, .int .i64 0, .int .i64 0, .string ByteArray.empty, .int .i64 0])) ?_
          refine s_lt (t_pure (.int .i64 ((absR L c.n).2))) ?_
          refine s_lt (t_pure (.int .i64 ((absR L c.n).1))) ?_
          refine s_store 1 #[.int .i64 0, .int .i64 0, .int .i64 0, .string ByteArray.empty, .int .i64 0] ?_
          refine s_lt (t_pure (.int .i64 ((absR L c.n).2))) ?_
          refine s_nil ?_
          refine xs_then ?_
          refine k_ret ?_
          refine xs_retBlock ?_
          refine xs_ret ?_
          have hp : docR L lim c = (((absR L c.n).1, (⟨0, 0, 0, ByteArray.empty, 0⟩ : Vl), (absR L c.n).2), L) := by simp [docR, zVl, p8, p11, p14, p16]
          refine xs_fin [.int .i64 ((absR L c.n).1), .agg #[.int .i64 0, .int .i64 0, .int .i64 0, .string ByteArray.empty, .int .i64 0], .int .i64 ((absR L c.n).2)] (stkA 68 b L lim :: F) (SI.tmp 4 (SI.agg 5 32 1 (SI.tmp 6 SI.nil))) (fun _ h => h.re [0] [1, 1]) ?_
          rw [hp]; exact ⟨rfl, rfl⟩
        ·
          have p17 := of_decide_eq_false c15
          refine k_seq ?_
          refine k_reg ?_
          refine s_lt t_cmp ?_
          refine s_lt (t_pure (.bool (decide (c.kind = 4)))) ?_
          refine s_nil ?_
          refine xs_then ?_
          refine k_cond (decide (c.kind = 4)) (fun c18 => ?_) (fun c18 => ?_)
          ·
            have p19 := of_decide_eq_true c18
            refine k_seq ?_
            refine k_reg ?_
            refine s_lt (t_pure (.pointer (some ⟨b, 0, none⟩))) ?_
            refine s_lt (t_pure (.pointer (some ⟨g4, 1, none⟩))) ?_
            refine s_lt (t_load 1 (.int .i64 c.n)) ?_
            refine s_call [2] (rat_s c.n) ?_
            rintro _ _ ⟨rfl, rfl⟩
            refine s_lt (t_pure (.tuple #[.agg #[.int .i64 (((atR L c.n).1).kind), .int .i64 (((atR L c.n).1).p), .int .i64 (((atR L c.n).1).q), .string (((atR L c.n).1).str), .int .i64 (((atR L c.n).1).ref)], .int .i64 ((atR L c.n).2)])) ?_
            refine s_lt (t_pure (.agg #[.int .i64 (((atR L c.n).1).kind), .int .i64 (((atR L c.n).1).p), .int .i64 (((atR L c.n).1).q), .string (((atR L c.n).1).str), .int .i64 (((atR L c.n).1).ref)])) ?_
            refine s_lt (t_pure (.int .i64 ((atR L c.n).2))) ?_
            refine s_alloc (.agg #[.int .i64 0, .int .i64 0, .int .i64 0, .string ByteArray.empty, .int .i64 0]) #[.int .i64 0, .int .i64 0, .int .i64 0, .string ByteArray.empty, .int .i64 0] (fun g20 => ?_)
            refine s_store 0 #[.int .i64 (((atR L c.n).1).kind), .int .i64 (((atR L c.n).1).p), .int .i64 (((atR L c.n).1).q), .string (((atR L c.n).1).str), .int .i64 (((atR L c.n).1).ref)] ?_
            refine s_lt (t_pure (.int .i64 ((atR L c.n).2))) ?_
            refine s_nil ?_
            refine xs_then ?_
            refine k_seq ?_
            refine k_draw ?_
            refine s_lt (t_loadA 0 #[.int .i64 (((atR L c.n).1).kind), .int .i64 (((atR L c.n).1).p), .int .i64 (((atR L c.n).1).q), .string (((atR L c.n).1).str), .int .i64 (((atR L c.n).1).ref)]) ?_
            refine s_lt (t_pure (.int .i64 ((atR L c.n).2))) ?_
            refine s_lt (t_pure (.int .i64 0)) ?_
            refine s_store 2 #[.int .i64 (((atR L c.n).1).kind), .int .i64 (((atR L c.n).1).p), .int .i64 (((atR L c.n).1).q), .string (((atR L c.n).1).str), .int .i64 (((atR L c.n).1).ref)] ?_
            refine s_lt (t_pure (.int .i64 ((atR L c.n).2))) ?_
            refine s_nil ?_
            refine x_dynS (fun _ h => by kernel_rfl) ?_
            refine xs_then ?_
            refine k_ret ?_
            refine xs_retBlock ?_
            refine xs_ret ?_
            have hp : docR L lim c = ((0, (atR L c.n).1, (atR L c.n).2), L) := by simp [docR, zVl, p8, p11, p14, p17, p19]
            refine xs_fin [.int .i64 0, .agg #[.int .i64 (((atR L c.n).1).kind), .int .i64 (((atR L c.n).1).p), .int .i64 (((atR L c.n).1).q), .string (((atR L c.n).1).str), .int .i64 (((atR L c.n).1).ref)], .int .i64 ((atR L c.n).2)] (stkA 68 b L lim :: F) (SI.tmp 4 (SI.agg 5 32 2 (SI.tmp 6 SI.nil))) (fun _ h => h.re [1] [1, 1, 1]) ?_
            rw [hp]; exact ⟨rfl, rfl⟩
          ·
            have p21 := of_decide_eq_false c18
            refine k_seq ?_
            refine k_reg ?_
            refine s_lt t_cmp ?_
            refine s_lt (t_pure (.bool (decide (c.kind = 5)))) ?_
            refine s_nil ?_
            refine xs_then ?_
            refine k_cond (decide (c.kind = 5)) (fun c22 => ?_) (fun c22 => ?_)
            ·
              have p23 := of_decide_eq_true c22
              refine k_seq ?_
              refine k_reg ?_
              refine s_lt (t_kern (.agg #[.int .i64 0, .int .i64 0, .int .i64 0, .string ByteArray.empty, .int .i64 0])) ?_
              refine s_lt (t_pure (.pointer (some ⟨b, 0, none⟩))) ?_
              refine s_lt (t_pure (.pointer (some ⟨g4, 1, none⟩))) ?_
              refine s_lt (t_load 1 (.int .i64 c.n)) ?_
              refine s_lt (t_pure (.pointer (some ⟨g4, 3, none⟩))) ?_
              refine s_lt (t_loadA 1 #[.int .i64 c.vk, .int .i64 c.vp, .int .i64 c.vq, .string c.vs, .int .i64 c.vr]) ?_
              refine s_call [2] (rput_s c.n c.val) ?_
              rintro _ _ ⟨rfl, rfl⟩
              refine s_lt (t_pure (.int .i64 0)) ?_
              refine s_store 1 #[.int .i64 0, .int .i64 0, .int .i64 0, .string ByteArray.empty, .int .i64 0] ?_
              refine s_lt (t_pure (.int .i64 ((putR L c.n c.val).1))) ?_
              refine s_nil ?_
              refine xs_then ?_
              refine k_ret ?_
              refine xs_retBlock ?_
              refine xs_ret ?_
              have hp : docR L lim c = ((0, (⟨0, 0, 0, ByteArray.empty, 0⟩ : Vl), (putR L c.n c.val).1), (putR L c.n c.val).2) := by simp [docR, zVl, p8, p11, p14, p17, p21, p23]
              refine xs_fin [.int .i64 0, .agg #[.int .i64 0, .int .i64 0, .int .i64 0, .string ByteArray.empty, .int .i64 0], .int .i64 ((putR L c.n c.val).1)] (stkA 68 b ((putR L c.n c.val).2) lim :: F) (SI.tmp 4 (SI.agg 5 32 1 (SI.tmp 6 SI.nil))) (fun _ h => h.re [0] [1, 1]) ?_
              rw [hp]; exact ⟨rfl, rfl⟩
            ·
              have p24 := of_decide_eq_false c22
              refine k_seq ?_
              refine k_reg ?_
              refine s_lt t_cmp ?_
              refine s_lt (t_pure (.bool (decide (c.kind = 6)))) ?_
              refine s_nil ?_
              refine xs_then ?_
              refine k_cond (decide (c.kind = 6)) (fun c25 => ?_) (fun c25 => ?_)
              ·
                have p26 := of_decide_eq_true c25
                refine k_seq ?_
                refine k_reg ?_
                refine s_lt (t_kern (.agg #[.int .i64 0, .int .i64 0, .int .i64 0, .string ByteArray.empty, .int .i64 0])) ?_
                refine s_lt (t_pure (.pointer (some ⟨b, 0, none⟩))) ?_
                refine s_lt (t_pure (.pointer (some ⟨g4, 1, none⟩))) ?_
                refine s_lt (t_load 1 (.int .i64 c.n)) ?_
                refine s_call [2] (rins_s c.n) ?_
                rintro _ _ ⟨rfl, rfl⟩
                refine s_lt (t_pure (.int .i64 0)) ?_
                refine s_store 1 #[.int .i64 0, .int .i64 0, .int .i64 0, .string ByteArray.empty, .int .i64 0] ?_
                refine s_lt (t_pure (.int .i64 ((rotR L c.n 1).1))) ?_
                refine s_nil ?_
                refine xs_then ?_
                refine k_ret ?_
                refine xs_retBlock ?_
                refine xs_ret ?_
                have hp : docR L lim c = ((0, (⟨0, 0, 0, ByteArray.empty, 0⟩ : Vl), (rotR L c.n 1).1), (rotR L c.n 1).2) := by simp [docR, zVl, p8, p11, p14, p17, p21, p24, p26]
                refine xs_fin [.int .i64 0, .agg #[.int .i64 0, .int .i64 0, .int .i64 0, .string ByteArray.empty, .int .i64 0], .int .i64 ((rotR L c.n 1).1)] (stkA 68 b ((rotR L c.n 1).2) lim :: F) (SI.tmp 4 (SI.agg 5 32 1 (SI.tmp 6 SI.nil))) (fun _ h => h.re [0] [1, 1]) ?_
                rw [hp]; exact ⟨rfl, rfl⟩
              ·
                have p27 := of_decide_eq_false c25
                refine k_seq ?_
                refine k_reg ?_
                refine s_lt t_cmp ?_
                refine s_lt (t_pure (.bool (decide (c.kind = 7)))) ?_
                refine s_nil ?_
                refine xs_then ?_
                refine k_cond (decide (c.kind = 7)) (fun c28 => ?_) (fun c28 => ?_)
                ·
                  have p29 := of_decide_eq_true c28
                  refine k_seq ?_
                  refine k_reg ?_
                  refine s_lt (t_kern (.agg #[.int .i64 0, .int .i64 0, .int .i64 0, .string ByteArray.empty, .int .i64 0])) ?_
                  refine s_lt (t_pure (.pointer (some ⟨b, 0, none⟩))) ?_
                  refine s_lt (t_pure (.pointer (some ⟨g4, 1, none⟩))) ?_
                  refine s_lt (t_load 1 (.int .i64 c.n)) ?_
                  refine s_call [2] (rrem_s c.n) ?_
                  rintro _ _ ⟨rfl, rfl⟩
                  refine s_lt (t_pure (.int .i64 0)) ?_
                  refine s_store 1 #[.int .i64 0, .int .i64 0, .int .i64 0, .string ByteArray.empty, .int .i64 0] ?_
                  refine s_lt (t_pure (.int .i64 ((rremR L c.n).1))) ?_
                  refine s_nil ?_
                  refine xs_then ?_
                  refine k_ret ?_
                  refine xs_retBlock ?_
                  refine xs_ret ?_
                  have hp : docR L lim c = ((0, (⟨0, 0, 0, ByteArray.empty, 0⟩ : Vl), (rremR L c.n).1), (rremR L c.n).2) := by simp [docR, zVl, p8, p11, p14, p17, p21, p24, p27, p29]
                  refine xs_fin [.int .i64 0, .agg #[.int .i64 0, .int .i64 0, .int .i64 0, .string ByteArray.empty, .int .i64 0], .int .i64 ((rremR L c.n).1)] (stkA 68 b ((rremR L c.n).2) lim :: F) (SI.tmp 4 (SI.agg 5 32 1 (SI.tmp 6 SI.nil))) (fun _ h => h.re [0] [1, 1]) ?_
                  rw [hp]; exact ⟨rfl, rfl⟩
                ·
                  have p30 := of_decide_eq_false c28
                  refine k_seq ?_
                  refine k_reg ?_
                  refine s_lt t_cmp ?_
                  refine s_lt (t_pure (.bool (decide (c.kind = 8)))) ?_
                  refine s_nil ?_
                  refine xs_then ?_
                  refine k_cond (decide (c.kind = 8)) (fun c31 => ?_) (fun c31 => ?_)
                  ·
                    have p32 := of_decide_eq_true c31
                    refine k_seq ?_
                    refine k_reg ?_
                    refine s_lt (t_kern (.agg #[.int .i64 0, .int .i64 0, .int .i64 0, .string ByteArray.empty, .int .i64 0])) ?_
                    refine s_lt (t_pure (.pointer (some ⟨b, 0, none⟩))) ?_
                    refine s_lt (t_pure (.pointer (some ⟨g4, 1, none⟩))) ?_
                    refine s_lt (t_load 1 (.int .i64 c.n)) ?_
                    refine s_lt (t_pure (.pointer (some ⟨g4, 2, none⟩))) ?_
                    refine s_lt (t_load 1 (.int .i64 c.m)) ?_
                    refine s_call [2] (rrot_s c.n c.m) ?_
                    rintro _ _ ⟨rfl, rfl⟩
                    refine s_lt (t_pure (.int .i64 0)) ?_
                    refine s_store 1 #[.int .i64 0, .int .i64 0, .int .i64 0, .string ByteArray.empty, .int .i64 0] ?_
                    refine s_lt (t_pure (.int .i64 ((rotR L c.n c.m).1))) ?_
                    refine s_nil ?_
                    refine xs_then ?_
                    refine k_ret ?_
                    refine xs_retBlock ?_
                    refine xs_ret ?_
                    have hp : docR L lim c = ((0, (⟨0, 0, 0, ByteArray.empty, 0⟩ : Vl), (rotR L c.n c.m).1), (rotR L c.n c.m).2) := by simp [docR, zVl, p8, p11, p14, p17, p21, p24, p27, p30, p32]
                    refine xs_fin [.int .i64 0, .agg #[.int .i64 0, .int .i64 0, .int .i64 0, .string ByteArray.empty, .int .i64 0], .int .i64 ((rotR L c.n c.m).1)] (stkA 68 b ((rotR L c.n c.m).2) lim :: F) (SI.tmp 4 (SI.agg 5 32 1 (SI.tmp 6 SI.nil))) (fun _ h => h.re [0] [1, 1]) ?_
                    rw [hp]; exact ⟨rfl, rfl⟩
                  ·
                    have p33 := of_decide_eq_false c31
                    refine k_seq ?_
                    refine k_reg ?_
                    refine s_lt t_cmp ?_
                    refine s_lt (t_pure (.bool (decide (c.kind = 9)))) ?_
                    refine s_nil ?_
                    refine xs_then ?_
                    refine k_cond (decide (c.kind = 9)) (fun c34 => ?_) (fun c34 => ?_)
                    ·
                      have p35 := of_decide_eq_true c34
                      refine k_seq ?_
                      refine k_reg ?_
                      refine s_lt (t_kern (.agg #[.int .i64 0, .int .i64 0, .int .i64 0, .string ByteArray.empty, .int .i64 0])) ?_
                      refine s_lt (t_pure (.pointer (some ⟨b, 0, none⟩))) ?_
                      refine s_lt (t_pure (.pointer (some ⟨g4, 1, none⟩))) ?_
                      refine s_lt (t_load 1 (.int .i64 c.n)) ?_
                      refine s_lt (t_pure (.pointer (some ⟨g4, 2, none⟩))) ?_
                      refine s_lt (t_load 1 (.int .i64 c.m)) ?_
                      refine s_call [2] (rcopy_s c.n c.m) ?_
                      rintro _ _ ⟨rfl, rfl⟩
                      refine s_lt (t_pure (.int .i64 0)) ?_
                      refine s_store 1 #[.int .i64 0, .int .i64 0, .int .i64 0, .string ByteArray.empty, .int .i64 0] ?_
                      refine s_lt (t_pure (.int .i64 ((rcopyR L c.n c.m).1))) ?_
                      refine s_nil ?_
                      refine xs_then ?_
                      refine k_ret ?_
                      refine xs_retBlock ?_
                      refine xs_ret ?_
                      have hp : docR L lim c = ((0, (⟨0, 0, 0, ByteArray.empty, 0⟩ : Vl), (rcopyR L c.n c.m).1), (rcopyR L c.n c.m).2) := by simp [docR, zVl, p8, p11, p14, p17, p21, p24, p27, p30, p33, p35]
                      refine xs_fin [.int .i64 0, .agg #[.int .i64 0, .int .i64 0, .int .i64 0, .string ByteArray.empty, .int .i64 0], .int .i64 ((rcopyR L c.n c.m).1)] (stkA 68 b ((rcopyR L c.n c.m).2) lim :: F) (SI.tmp 4 (SI.agg 5 32 1 (SI.tmp 6 SI.nil))) (fun _ h => h.re [0] [1, 1]) ?_
                      rw [hp]; exact ⟨rfl, rfl⟩
                    ·
                      have p36 := of_decide_eq_false c34
                      refine k_skip ?_
                      refine xs_block ?_
                      refine xs_then ?_
                      refine k_seq ?_
                      refine k_reg ?_
                      refine s_lt (t_kern (.agg #[.int .i64 0, .int .i64 0, .int .i64 0, .string ByteArray.empty, .int .i64 0])) ?_
                      refine s_lt (t_pure (.pointer (some ⟨b, 0, none⟩))) ?_
                      refine s_lt (t_pure (.pointer (some ⟨g4, 1, none⟩))) ?_
                      refine s_lt (t_load 1 (.int .i64 c.n)) ?_
                      refine s_call [2] (rroom_s c.n) ?_
                      rintro _ _ ⟨rfl, rfl⟩
                      refine s_lt (t_pure (.int .i64 0)) ?_
                      refine s_store 1 #[.int .i64 0, .int .i64 0, .int .i64 0, .string ByteArray.empty, .int .i64 0] ?_
                      refine s_lt (t_pure (.int .i64 (roomR L lim c.n))) ?_
                      refine s_nil ?_
                      refine xs_then ?_
                      refine k_ret ?_
                      have hp : docR L lim c = ((0, (⟨0, 0, 0, ByteArray.empty, 0⟩ : Vl), (roomR L lim c.n)), L) := by simp [docR, zVl, p8, p11, p14, p17, p21, p24, p27, p30, p33, p36]
                      refine xs_fin [.int .i64 0, .agg #[.int .i64 0, .int .i64 0, .int .i64 0, .string ByteArray.empty, .int .i64 0], .int .i64 (roomR L lim c.n)] (stkA 68 b L lim :: F) (SI.tmp 4 (SI.agg 5 32 1 (SI.tmp 6 SI.nil))) (fun _ h => h.re [0] [1, 1]) ?_
                      rw [hp]; exact ⟨rfl, rfl⟩
theorem doc_n {Z : Zone} (c : Cl) : SF Try.prog 26 #[.pointer none, c.v] Z [] fun r Bs => r = .tuple #[.int .i64 0, zVl.v, .int .i64 1] ∧ Bs = [] := by
  refine sf_enter Try.func26 103 [(0, .pointer none), (1, .agg #[.int .i64 c.kind, .int .i64 c.n, .int .i64 c.m, .int .i64 c.vk, .int .i64 c.vp, .int .i64 c.vq, .string c.vs, .int .i64 c.vr])] (fun w0 => ?_)
  refine k_seq ?_
  refine k_reg ?_
  refine s_box #[.int .i64 c.kind, .int .i64 c.n, .int .i64 c.m, .int .i64 c.vk, .int .i64 c.vp, .int .i64 c.vq, .string c.vs, .int .i64 c.vr] (fun g1 => ?_)
  refine s_lt (t_pure (.int .i64 0)) ?_
  refine s_alloc (.agg #[.int .i64 0, .int .i64 0, .int .i64 0, .string ByteArray.empty, .int .i64 0]) #[.int .i64 0, .int .i64 0, .int .i64 0, .string ByteArray.empty, .int .i64 0] (fun g2 => ?_)
  refine s_lt (t_pure (.int .i64 0)) ?_
  refine s_nil ?_
  refine xs_then ?_
  refine k_seq ?_
  refine k_seq ?_
  refine k_reg ?_
  refine s_lt (t_pure (.pointer (some ⟨g1, 0, none⟩))) ?_
  refine s_lt (t_load 1 (.int .i64 c.kind)) ?_
  refine s_nil ?_
  refine xs_then ?_
  refine k_block ?_
  refine k_seq ?_
  refine k_reg ?_
  refine s_lt t_cmp ?_
  refine s_lt (t_pure (.bool (decide (c.kind = 0)))) ?_
  refine s_nil ?_
  refine xs_then ?_
  refine k_cond (decide (c.kind = 0)) (fun c3 => ?_) (fun c3 => ?_)
  ·
    have p4 := of_decide_eq_true c3
    refine k_seq ?_
    refine k_reg ?_
    refine s_lt (t_kern (.agg #[.int .i64 0, .int .i64 0, .int .i64 0, .string ByteArray.empty, .int .i64 0])) ?_
    refine s_lt (t_pure (.pointer none)) ?_
    refine s_lt (t_pure (.pointer (some ⟨g1, 3, none⟩))) ?_
    refine s_lt (t_loadA 1 #[.int .i64 c.vk, .int .i64 c.vp, .int .i64 c.vq, .string c.vs, .int .i64 c.vr]) ?_
    refine s_vcall (fun _ h => rpush_n c.val) ?_
    rintro _ rfl
    refine s_lt (t_pure (.int .i64 0)) ?_
    refine s_store 0 #[.int .i64 0, .int .i64 0, .int .i64 0, .string ByteArray.empty, .int .i64 0] ?_
    refine s_lt (t_pure (.int .i64 1)) ?_
    refine s_nil ?_
    refine xs_then ?_
    refine k_ret ?_
    refine xs_retBlock ?_
    refine xs_ret ?_
    refine xs_fin [.int .i64 0, .agg #[.int .i64 0, .int .i64 0, .int .i64 0, .string ByteArray.empty, .int .i64 0], .int .i64 1] [] (SI.tmp 4 (SI.agg 5 32 0 (SI.tmp 6 SI.nil))) (fun _ h => h.re [] [0, 0]) ⟨?_, rfl⟩
    rfl
  ·
    have p5 := of_decide_eq_false c3
    refine k_seq ?_
    refine k_reg ?_
    refine s_lt t_cmp ?_
    refine s_lt (t_pure (.bool (decide (c.kind = 1)))) ?_
    refine s_nil ?_
    refine xs_then ?_
    refine k_cond (decide (c.kind = 1)) (fun c6 => ?_) (fun c6 => ?_)
    ·
      have p7 := of_decide_eq_true c6
      refine k_seq ?_
      refine k_reg ?_
      refine s_lt (t_kern (.agg #[.int .i64 0, .int .i64 0, .int .i64 0, .string ByteArray.empty, .int .i64 0])) ?_
      refine s_lt (t_pure (.pointer none)) ?_
      refine s_lt (t_pure (.pointer (some ⟨g1, 1, none⟩))) ?_
      refine s_lt (t_load 1 (.int .i64 c.n)) ?_
      refine s_vcall (fun _ h => rpop_n c.n) ?_
      rintro _ rfl
      refine s_lt (t_pure (.int .i64 0)) ?_
      refine s_store 0 #[.int .i64 0, .int .i64 0, .int .i64 0, .string ByteArray.empty, .int .i64 0] ?_
      refine s_lt (t_pure (.int .i64 1)) ?_
      refine s_nil ?_
      refine xs_then ?_
      refine k_ret ?_
      refine xs_retBlock ?_
      refine xs_ret ?_
      refine xs_fin [.int .i64 0, .agg #[.int .i64 0, .int .i64 0, .int .i64 0, .string ByteArray.empty, .int .i64 0], .int .i64 1] [] (SI.tmp 4 (SI.agg 5 32 0 (SI.tmp 6 SI.nil))) (fun _ h => h.re [] [0, 0]) ⟨?_, rfl⟩
      rfl
    ·
      have p8 := of_decide_eq_false c6
      refine k_seq ?_
      refine k_reg ?_
      refine s_lt t_cmp ?_
      refine s_lt (t_pure (.bool (decide (c.kind = 2)))) ?_
      refine s_nil ?_
      refine xs_then ?_
      refine k_cond (decide (c.kind = 2)) (fun c9 => ?_) (fun c9 => ?_)
      ·
        have p10 := of_decide_eq_true c9
        refine k_seq ?_
        refine k_reg ?_
        refine s_lt (t_kern (.agg #[.int .i64 0, .int .i64 0, .int .i64 0, .string ByteArray.empty, .int .i64 0])) ?_
        refine s_lt (t_pure (.pointer none)) ?_
        refine s_lt (t_pure (.pointer (some ⟨g1, 1, none⟩))) ?_
        refine s_lt (t_load 1 (.int .i64 c.n)) ?_
        refine s_vcall (fun _ h => rsetTop_n c.n) ?_
        rintro _ rfl
        refine s_lt (t_pure (.int .i64 0)) ?_
        refine s_store 0 #[.int .i64 0, .int .i64 0, .int .i64 0, .string ByteArray.empty, .int .i64 0] ?_
        refine s_lt (t_pure (.int .i64 1)) ?_
        refine s_nil ?_
        refine xs_then ?_
        refine k_ret ?_
        refine xs_retBlock ?_
        refine xs_ret ?_
        refine xs_fin [.int .i64 0, .agg #[.int .i64 0, .int .i64 0, .int .i64 0, .string ByteArray.empty, .int .i64 0], .int .i64 1] [] (SI.tmp 4 (SI.agg 5 32 0 (SI.tmp 6 SI.nil))) (fun _ h => h.re [] [0, 0]) ⟨?_, rfl⟩
        rfl
      ·
        have p11 := of_decide_eq_false c9
        refine k_seq ?_
        refine k_reg ?_
        refine s_lt t_cmp ?_
        refine s_lt (t_pure (.bool (decide (c.kind = 3)))) ?_
        refine s_nil ?_
        refine xs_then ?_
        refine k_cond (decide (c.kind = 3)) (fun c12 => ?_) (fun c12 => ?_)
        ·
          have p13 := of_decide_eq_true c12
          refine k_seq ?_
          refine k_reg ?_
          refine s_lt (t_pure (.pointer none)) ?_
          refine s_lt (t_pure (.pointer (some ⟨g1, 1, none⟩))) ?_
          refine s_lt (t_load 1 (.int .i64 c.n)) ?_
          refine s_vcall (fun _ h => rab_n c.n) ?_
          rintro _ rfl
          refine s_lt (t_pure (.tuple #[.int .i64 0, .int .i64 1])) ?_
          refine s_lt (t_pure (.int .i64 0)) ?_
          refine s_lt (t_pure (.int .i64 1)) ?_
          refine s_lt (t_pure (.int .i64 0)) ?_
          refine s_lt (t_pure (.int .i64 1)) ?_
          refine s_nil ?_
          refine xs_then ?_
          refine k_seq ?_
          refine k_reg ?_
          refine s_lt (t_pure (.int .i64 0)) ?_
          refine s_lt (t_kern (.agg #[.int .i64 0, .int .i64 0, .int .i64 0, .string ByteArray.empty, .int .i64 0])) ?_
          refine s_lt (t_pure (.int .i64 1)) ?_
          refine s_lt (t_pure (.int .i64 0)) ?_
          refine s_store 0 #[.int .i64 0, .int .i64 0, .int .i64 0, .string ByteArray.empty, .int .i64 0] ?_
          refine s_lt (t_pure (.int .i64 1)) ?_
          refine s_nil ?_
          refine xs_then ?_
          refine k_ret ?_
          refine xs_retBlock ?_
          refine xs_ret ?_
          refine xs_fin [.int .i64 0, .agg #[.int .i64 0, .int .i64 0, .int .i64 0, .string ByteArray.empty, .int .i64 0], .int .i64 1] [] (SI.tmp 4 (SI.agg 5 32 0 (SI.tmp 6 SI.nil))) (fun _ h => h.re [] [0, 0]) ⟨?_, rfl⟩
          rfl
        ·
          have p14 := of_decide_eq_false c12
          refine k_seq ?_
          refine k_reg ?_
          refine s_lt t_cmp ?_
          refine s_lt (t_pure (.bool (decide (c.kind = 4)))) ?_
          refine s_nil ?_
          refine xs_then ?_
          refine k_cond (decide (c.kind = 4)) (fun c15 => ?_) (fun c15 => ?_)
          ·
            have p16 := of_decide_eq_true c15
            refine k_seq ?_
            refine k_reg ?_
            refine s_lt (t_pure (.pointer none)) ?_
            refine s_lt (t_pure (.pointer (some ⟨g1, 1, none⟩))) ?_
            refine s_lt (t_load 1 (.int .i64 c.n)) ?_
            refine s_vcall (fun _ h => rat_n c.n) ?_
            rintro _ rfl
            refine s_lt (t_pure (.tuple #[.agg #[.int .i64 zVl.kind, .int .i64 zVl.p, .int .i64 zVl.q, .string zVl.str, .int .i64 zVl.ref], .int .i64 1])) ?_
            refine s_lt (t_pure (.agg #[.int .i64 zVl.kind, .int .i64 zVl.p, .int .i64 zVl.q, .string zVl.str, .int .i64 zVl.ref])) ?_
            refine s_lt (t_pure (.int .i64 1)) ?_
            refine s_alloc (.agg #[.int .i64 0, .int .i64 0, .int .i64 0, .string ByteArray.empty, .int .i64 0]) #[.int .i64 0, .int .i64 0, .int .i64 0, .string ByteArray.empty, .int .i64 0] (fun g17 => ?_)
            refine s_store 0 #[.int .i64 zVl.kind, .int .i64 zVl.p, .int .i64 zVl.q, .string zVl.str, .int .i64 zVl.ref] ?_
            refine s_lt (t_pure (.int .i64 1)) ?_
            refine s_nil ?_
            refine xs_then ?_
            refine k_seq ?_
            refine k_draw ?_
            refine s_lt (t_loadA 0 #[.int .i64 zVl.kind, .int .i64 zVl.p, .int .i64 zVl.q, .string zVl.str, .int .i64 zVl.ref]) ?_
            refine s_lt (t_pure (.int .i64 1)) ?_
            refine s_lt (t_pure (.int .i64 0)) ?_
            refine s_store 1 #[.int .i64 zVl.kind, .int .i64 zVl.p, .int .i64 zVl.q, .string zVl.str, .int .i64 zVl.ref] ?_
            refine s_lt (t_pure (.int .i64 1)) ?_
            refine s_nil ?_
            refine x_dynS (fun _ h => by kernel_rfl) ?_
            refine xs_then ?_
            refine k_ret ?_
            refine xs_retBlock ?_
            refine xs_ret ?_
            refine xs_fin [.int .i64 0, .agg #[.int .i64 zVl.kind, .int .i64 zVl.p, .int .i64 zVl.q, .string zVl.str, .int .i64 zVl.ref], .int .i64 1] [] (SI.tmp 4 (SI.agg 5 32 1 (SI.tmp 6 SI.nil))) (fun _ h => h.re [] [0, 0, 0]) ⟨?_, rfl⟩
            rfl
          ·
            have p18 := of_decide_eq_false c15
            refine k_seq ?_
            refine k_reg ?_
            refine s_lt t_cmp ?_
            refine s_lt (t_pure (.bool (decide (c.kind = 5)))) ?_
            refine s_nil ?_
            refine xs_then ?_
            refine k_cond (decide (c.kind = 5)) (fun c19 => ?_) (fun c19 => ?_)
            ·
              have p20 := of_decide_eq_true c19
              refine k_seq ?_
              refine k_reg ?_
              refine s_lt (t_kern (.agg #[.int .i64 0, .int .i64 0, .int .i64 0, .string ByteArray.empty, .int .i64 0])) ?_
              refine s_lt (t_pure (.pointer none)) ?_
              refine s_lt (t_pure (.pointer (some ⟨g1, 1, none⟩))) ?_
              refine s_lt (t_load 1 (.int .i64 c.n)) ?_
              refine s_lt (t_pure (.pointer (some ⟨g1, 3, none⟩))) ?_
              refine s_lt (t_loadA 1 #[.int .i64 c.vk, .int .i64 c.vp, .int .i64 c.vq, .string c.vs, .int .i64 c.vr]) ?_
              refine s_vcall (fun _ h => rput_n c.n c.val) ?_
              rintro _ rfl
              refine s_lt (t_pure (.int .i64 0)) ?_
              refine s_store 0 #[.int .i64 0, .int .i64 0, .int .i64 0, .string ByteArray.empty, .int .i64 0] ?_
              refine s_lt (t_pure (.int .i64 1)) ?_
              refine s_nil ?_
              refine xs_then ?_
              refine k_ret ?_
              refine xs_retBlock ?_
              refine xs_ret ?_
              refine xs_fin [.int .i64 0, .agg #[.int .i64 0, .int .i64 0, .int .i64 0, .string ByteArray.empty, .int .i64 0], .int .i64 1] [] (SI.tmp 4 (SI.agg 5 32 0 (SI.tmp 6 SI.nil))) (fun _ h => h.re [] [0, 0]) ⟨?_, rfl⟩
              rfl
            ·
              have p21 := of_decide_eq_false c19
              refine k_seq ?_
              refine k_reg ?_
              refine s_lt t_cmp ?_
              refine s_lt (t_pure (.bool (decide (c.kind = 6)))) ?_
              refine s_nil ?_
              refine xs_then ?_
              refine k_cond (decide (c.kind = 6)) (fun c22 => ?_) (fun c22 => ?_)
              ·
                have p23 := of_decide_eq_true c22
                refine k_seq ?_
                refine k_reg ?_
                refine s_lt (t_kern (.agg #[.int .i64 0, .int .i64 0, .int .i64 0, .string ByteArray.empty, .int .i64 0])) ?_
                refine s_lt (t_pure (.pointer none)) ?_
                refine s_lt (t_pure (.pointer (some ⟨g1, 1, none⟩))) ?_
                refine s_lt (t_load 1 (.int .i64 c.n)) ?_
                refine s_vcall (fun _ h => rins_n c.n) ?_
                rintro _ rfl
                refine s_lt (t_pure (.int .i64 0)) ?_
                refine s_store 0 #[.int .i64 0, .int .i64 0, .int .i64 0, .string ByteArray.empty, .int .i64 0] ?_
                refine s_lt (t_pure (.int .i64 1)) ?_
                refine s_nil ?_
                refine xs_then ?_
                refine k_ret ?_
                refine xs_retBlock ?_
                refine xs_ret ?_
                refine xs_fin [.int .i64 0, .agg #[.int .i64 0, .int .i64 0, .int .i64 0, .string ByteArray.empty, .int .i64 0], .int .i64 1] [] (SI.tmp 4 (SI.agg 5 32 0 (SI.tmp 6 SI.nil))) (fun _ h => h.re [] [0, 0]) ⟨?_, rfl⟩
                rfl
              ·
                have p24 := of_decide_eq_false c22
                refine k_seq ?_
                refine k_reg ?_
                refine s_lt t_cmp ?_
                refine s_lt (t_pure (.bool (decide (c.kind = 7)))) ?_
                refine s_nil ?_
                refine xs_then ?_
                refine k_cond (decide (c.kind = 7)) (fun c25 => ?_) (fun c25 => ?_)
                ·
                  have p26 := of_decide_eq_true c25
                  refine k_seq ?_
                  refine k_reg ?_
                  refine s_lt (t_kern (.agg #[.int .i64 0, .int .i64 0, .int .i64 0, .string ByteArray.empty, .int .i64 0])) ?_
                  refine s_lt (t_pure (.pointer none)) ?_
                  refine s_lt (t_pure (.pointer (some ⟨g1, 1, none⟩))) ?_
                  refine s_lt (t_load 1 (.int .i64 c.n)) ?_
                  refine s_vcall (fun _ h => rrem_n c.n) ?_
                  rintro _ rfl
                  refine s_lt (t_pure (.int .i64 0)) ?_
                  refine s_store 0 #[.int .i64 0, .int .i64 0, .int .i64 0, .string ByteArray.empty, .int .i64 0] ?_
                  refine s_lt (t_pure (.int .i64 1)) ?_
                  refine s_nil ?_
                  refine xs_then ?_
                  refine k_ret ?_
                  refine xs_retBlock ?_
                  refine xs_ret ?_
                  refine xs_fin [.int .i64 0, .agg #[.int .i64 0, .int .i64 0, .int .i64 0, .string ByteArray.empty, .int .i64 0], .int .i64 1] [] (SI.tmp 4 (SI.agg 5 32 0 (SI.tmp 6 SI.nil))) (fun _ h => h.re [] [0, 0]) ⟨?_, rfl⟩
                  rfl
                ·
                  have p27 := of_decide_eq_false c25
                  refine k_seq ?_
                  refine k_reg ?_
                  refine s_lt t_cmp ?_
                  refine s_lt (t_pure (.bool (decide (c.kind = 8)))) ?_
                  refine s_nil ?_
                  refine xs_then ?_
                  refine k_cond (decide (c.kind = 8)) (fun c28 => ?_) (fun c28 => ?_)
                  ·
                    have p29 := of_decide_eq_true c28
                    refine k_seq ?_
                    refine k_reg ?_
                    refine s_lt (t_kern (.agg #[.int .i64 0, .int .i64 0, .int .i64 0, .string ByteArray.empty, .int .i64 0])) ?_
                    refine s_lt (t_pure (.pointer none)) ?_
                    refine s_lt (t_pure (.pointer (some ⟨g1, 1, none⟩))) ?_
                    refine s_lt (t_load 1 (.int .i64 c.n)) ?_
                    refine s_lt (t_pure (.pointer (some ⟨g1, 2, none⟩))) ?_
                    refine s_lt (t_load 1 (.int .i64 c.m)) ?_
                    refine s_vcall (fun _ h => rrot_n c.n c.m) ?_
                    rintro _ rfl
                    refine s_lt (t_pure (.int .i64 0)) ?_
                    refine s_store 0 #[.int .i64 0, .int .i64 0, .int .i64 0, .string ByteArray.empty, .int .i64 0] ?_
                    refine s_lt (t_pure (.int .i64 1)) ?_
                    refine s_nil ?_
                    refine xs_then ?_
                    refine k_ret ?_
                    refine xs_retBlock ?_
                    refine xs_ret ?_
                    refine xs_fin [.int .i64 0, .agg #[.int .i64 0, .int .i64 0, .int .i64 0, .string ByteArray.empty, .int .i64 0], .int .i64 1] [] (SI.tmp 4 (SI.agg 5 32 0 (SI.tmp 6 SI.nil))) (fun _ h => h.re [] [0, 0]) ⟨?_, rfl⟩
                    rfl
                  ·
                    have p30 := of_decide_eq_false c28
                    refine k_seq ?_
                    refine k_reg ?_
                    refine s_lt t_cmp ?_
                    refine s_lt (t_pure (.bool (decide (c.kind = 9)))) ?_
                    refine s_nil ?_
                    refine xs_then ?_
                    refine k_cond (decide (c.kind = 9)) (fun c31 => ?_) (fun c31 => ?_)
                    ·
                      have p32 := of_decide_eq_true c31
                      refine k_seq ?_
                      refine k_reg ?_
                      refine s_lt (t_kern (.agg #[.int .i64 0, .int .i64 0, .int .i64 0, .string ByteArray.empty, .int .i64 0])) ?_
                      refine s_lt (t_pure (.pointer none)) ?_
                      refine s_lt (t_pure (.pointer (some ⟨g1, 1, none⟩))) ?_
                      refine s_lt (t_load 1 (.int .i64 c.n)) ?_
                      refine s_lt (t_pure (.pointer (some ⟨g1, 2, none⟩))) ?_
                      refine s_lt (t_load 1 (.int .i64 c.m)) ?_
                      refine s_vcall (fun _ h => rcopy_n c.n c.m) ?_
                      rintro _ rfl
                      refine s_lt (t_pure (.int .i64 0)) ?_
                      refine s_store 0 #[.int .i64 0, .int .i64 0, .int .i64 0, .string ByteArray.empty, .int .i64 0] ?_
                      refine s_lt (t_pure (.int .i64 1)) ?_
                      refine s_nil ?_
                      refine xs_then ?_
                      refine k_ret ?_
                      refine xs_retBlock ?_
                      refine xs_ret ?_
                      refine xs_fin [.int .i64 0, .agg #[.int .i64 0, .int .i64 0, .int .i64 0, .string ByteArray.empty, .int .i64 0], .int .i64 1] [] (SI.tmp 4 (SI.agg 5 32 0 (SI.tmp 6 SI.nil))) (fun _ h => h.re [] [0, 0]) ⟨?_, rfl⟩
                      rfl
                    ·
                      have p33 := of_decide_eq_false c31
                      refine k_skip ?_
                      refine xs_block ?_
                      refine xs_then ?_
                      refine k_seq ?_
                      refine k_reg ?_
                      refine s_lt (t_kern (.agg #[.int .i64 0, .int .i64 0, .int .i64 0, .string ByteArray.empty, .int .i64 0])) ?_
                      refine s_lt (t_pure (.pointer none)) ?_
                      refine s_lt (t_pure (.pointer (some ⟨g1, 1, none⟩))) ?_
                      refine s_lt (t_load 1 (.int .i64 c.n)) ?_
                      refine s_vcall (fun _ h => rroom_n c.n) ?_
                      rintro _ rfl
                      refine s_lt (t_pure (.int .i64 0)) ?_
                      refine s_store 0 #[.int .i64 0, .int .i64 0, .int .i64 0, .string ByteArray.empty, .int .i64 0] ?_
                      refine s_lt (t_pure (.int .i64 1)) ?_
                      refine s_nil ?_
                      refine xs_then ?_
                      refine k_ret ?_
                      refine xs_fin [.int .i64 0, .agg #[.int .i64 0, .int .i64 0, .int .i64 0, .string ByteArray.empty, .int .i64 0], .int .i64 1] [] (SI.tmp 4 (SI.agg 5 32 0 (SI.tmp 6 SI.nil))) (fun _ h => h.re [] [0, 0]) ⟨?_, rfl⟩
                      rfl
theorem doc_e {Z : Zone} {F : List Asr} {b : Nat} {L : List Vl} {lim : Int} (c : Cl) (h : okL L) : SF Try.prog 26 #[.pointer (some ⟨b, 0, none⟩), c.v] Z (stkA 68 b L lim :: F) fun r Bs => r = .tuple #[.int .i64 (progR L lim c).1.1, (progR L lim c).1.2.1.v, .int .i64 (progR L lim c).1.2.2] ∧ Bs = stkA 68 b (progR L lim c).2 lim :: F := by
  have := doc_s (Z := Z) (F := F) (b := b) (L := L) (lim := lim) c; rw [doc_eq h] at this; exact this
end Go.Proofs.Ytnhbejiakfaohaa
