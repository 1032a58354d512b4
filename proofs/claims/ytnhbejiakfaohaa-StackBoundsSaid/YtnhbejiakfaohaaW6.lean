/-
  The chapter example, and stacks that are filled.
-/
import Derived.Test.YtnhbejiakfaohaaW5
set_option linter.unusedSimpArgs false
set_option linter.unusedVariables false
set_option maxRecDepth 100000
namespace Go.Proofs.Ytnhbejiakfaohaa
open Go.Hp Go.J Go.S
open Go.Mem (Ty KTy blk elemAt pre suf blk_pre blk_suf aget aset strK aggDesc)
section
variable {Z : Zone} {F : List Asr} {b : Nat} {L L' : List Vl} {lim : Int} {e : Int}
theorem pop_e (n : Int) (hp : popR L n = (e, L')) : SF Try.prog 31 #[.pointer (some ⟨b, 0, none⟩), .int .i64 n] Z (stkA 63 b L lim :: F) fun r Bs => r = .int .i64 e ∧ Bs = stkA 63 b L' lim :: F := by have := pop_s (Z := Z) (F := F) (b := b) (L := L) (lim := lim) n; rw [hp] at this; exact this
theorem setTop_e (n : Int) (hp : setTopR L lim n = (e, L')) : SF Try.prog 21 #[.pointer (some ⟨b, 0, none⟩), .int .i64 n] Z (stkA 63 b L lim :: F) fun r Bs => r = .int .i64 e ∧ Bs = stkA 63 b L' lim :: F := by have := setTop_s (Z := Z) (F := F) (b := b) (L := L) (lim := lim) n; rw [hp] at this; exact this
theorem put_e (i : Int) (v : Vl) (hp : putR L i v = (e, L')) : SF Try.prog 20 #[.pointer (some ⟨b, 0, none⟩), .int .i64 i, v.v] Z (stkA 63 b L lim :: F) fun r Bs => r = .int .i64 e ∧ Bs = stkA 63 b L' lim :: F := by have := put_s (Z := Z) (F := F) (b := b) (L := L) (lim := lim) i v; rw [hp] at this; exact this
theorem ins_e (i : Int) (hp : rotR L i 1 = (e, L')) : SF Try.prog 17 #[.pointer (some ⟨b, 0, none⟩), .int .i64 i] Z (stkA 63 b L lim :: F) fun r Bs => r = .int .i64 e ∧ Bs = stkA 63 b L' lim :: F := by have := ins_s (Z := Z) (F := F) (b := b) (L := L) (lim := lim) i; rw [hp] at this; exact this
theorem rem_e (i : Int) (hp : removeR L i = (e, L')) : SF Try.prog 18 #[.pointer (some ⟨b, 0, none⟩), .int .i64 i] Z (stkA 63 b L lim :: F) fun r Bs => r = .int .i64 e ∧ Bs = stkA 63 b L' lim :: F := by have := rem_s (Z := Z) (F := F) (b := b) (L := L) (lim := lim) i; rw [hp] at this; exact this
theorem rot_e (i n : Int) (hp : rotR L i n = (e, L')) : SF Try.prog 11 #[.pointer (some ⟨b, 0, none⟩), .int .i64 i, .int .i64 n] Z (stkA 63 b L lim :: F) fun r Bs => r = .int .i64 e ∧ Bs = stkA 63 b L' lim :: F := by have := rot_s (Z := Z) (F := F) (b := b) (L := L) (lim := lim) i n; rw [hp] at this; exact this
theorem at_e (i : Int) {y : Vl} (hp : atR L i = (y, e)) : SF Try.prog 12 #[.pointer (some ⟨b, 0, none⟩), .int .i64 i] Z (stkA 63 b L lim :: F) fun r Bs => r = .tuple #[y.v, .int .i64 e] ∧ Bs = stkA 63 b L lim :: F := by have := at_s (Z := Z) (F := F) (b := b) (L := L) (lim := lim) i; rw [hp] at this; exact this
theorem ab_e (i : Int) {x : Int} (hp : absR L i = (x, e)) : SF Try.prog 32 #[.pointer (some ⟨b, 0, none⟩), .int .i64 i] Z (stkA 63 b L lim :: F) fun r Bs => r = .tuple #[.int .i64 x, .int .i64 e] ∧ Bs = stkA 63 b L lim :: F := by have := ab_s (Z := Z) (F := F) (b := b) (L := L) (lim := lim) i; rw [hp] at this; exact this
end
theorem awake_s {Z : Zone} : SF Try.prog 10 #[] Z [] fun r Bs => r = .bool true ∧ Bs = [] := by
  refine sf_enter Try.func10 82 [] (fun w0 => ?_)
  refine k_seq ?_
  refine k_reg ?_
  refine s_lt (t_pure (.bool false)) ?_
  refine s_nil ?_
  refine xs_then ?_
  refine k_seq ?_
  refine k_reg ?_
  refine s_pcall (fun _ h => new_s 4) ?_
  rintro _ _ (⟨hn, rfl, rfl⟩ | ⟨b1, hn1, hn2, rfl, rfl⟩)
  · exact absurd hn (by omega)
  refine s_lt (t_pure (.tuple #[.pointer (some ⟨b1, 0, none⟩), .int .i64 0])) ?_
  refine s_lt (t_pure (.pointer (some ⟨b1, 0, none⟩))) ?_
  refine s_lt (t_pure (.int .i64 0)) ?_
  refine s_lt (t_pure (.pointer (some ⟨b1, 0, none⟩))) ?_
  refine s_lt (t_pure (.int .i64 0)) ?_
  refine s_nil ?_
  refine xs_then ?_
  refine k_seq ?_
  refine k_seq ?_
  refine k_reg ?_
  refine s_lt (t_pure (.pointer (some ⟨b1, 0, none⟩))) ?_
  refine s_lt (t_pure (.bool false)) ?_
  refine s_lt (t_pure (.bool false)) ?_
  refine s_lt (t_pure (.int .i64 0)) ?_
  refine s_lt (t_cmp (c := false)) ?_
  refine s_lt (t_pure (.bool false)) ?_
  refine s_nil ?_
  refine xs_then ?_
  refine k_false ?_
  refine k_skip ?_
  refine xs_then ?_
  refine k_seq ?_
  refine k_seq ?_
  refine k_reg ?_
  refine s_lt (t_pure (.int .i64 1)) ?_
  refine s_nil ?_
  refine xs_then ?_
  refine k_block ?_
  have e0 : ([] : List Vl) = LT 0 := rfl
  refine k_loop (ι := Nat) (fun t => t ≤ 4) (fun t => [(0, .bool false), (1, .pointer (some ⟨b1, 0, none⟩)), (3, .int .i64 ((t : Int) + 1))]) (fun t => [stkA 63 b1 (LT t) 4]) (fun t => 4 - t) 0 (Nat.zero_le _) (sub_of rfl ⟨⟨rfl, rfl⟩, ⟨⟨rfl, rfl⟩, ⟨⟨rfl, rfl⟩, trivial⟩⟩⟩) (fun _ h => h.re [0] []) ?_
  rintro t hi2
  show SK _ _ _ _ _ [(0, .bool false), (1, .pointer (some ⟨b1, 0, none⟩)), (3, .int .i64 ((t : Int) + 1))] _ [stkA 63 b1 (LT t) 4]
  refine k_seq ?_
  refine k_seq ?_
  refine k_reg ?_
  refine s_lt (t_pure (.int .i64 ((t : Int) + 1))) ?_
  refine s_lt t_cmp ?_
  refine s_nil ?_
  refine xs_then ?_
  refine k_cond (decide (((t : Int) + 1) ≤ 4)) (fun c3 => ?_) (fun c3 => ?_)
  ·
    have p4 := of_decide_eq_true c3
    refine k_skip ?_
    refine xs_then ?_
    refine k_seq ?_
    refine k_block ?_
    refine k_seq ?_
    refine k_reg ?_
    refine s_lt (t_pure (.pointer (some ⟨b1, 0, none⟩))) ?_
    refine s_lt (t_pure (.int .i64 ((t : Int) + 1))) ?_
    refine s_vcall (fun _ h => number_s ((t : Int) + 1)) ?_
    rintro _ rfl
    refine s_call [0] (push_e (L := (LT t)) (lim := 4) (v := (numV ((t : Int) + 1))) (show pushR (LT t) 4 (numV ((t : Int) + 1)) = (0, LT (t + 1)) from (push_fill (num_valid (by omega) (by omega)) (by rw [LT_len]; omega)).trans (by rw [LT_succ]))) ?_
    rintro _ _ ⟨rfl, rfl⟩
    refine s_lt (t_cmp (c := false)) ?_
    refine s_nil ?_
    refine xs_then ?_
    refine k_false ?_
    refine k_skip ?_
    refine xs_block ?_
    refine xs_then ?_
    refine k_reg ?_
    refine s_lt (t_pure (.int .i64 ((t : Int) + 1))) ?_
    refine s_lt (t_add ((t : Int) + 1) 1 (by (try simp only [List.length_nil, List.length_cons, List.length_append, List.length_take, List.length_drop, List.length_set, List.length_replicate]); omega)) ?_
    refine s_lt (t_pure (.int .i64 (((t : Int) + 1) + 1))) ?_
    refine s_nil ?_
    exact xs_round (t + 1) (by omega) (by omega) (sub_of rfl ⟨⟨rfl, rfl⟩, ⟨⟨rfl, rfl⟩, ⟨⟨rfl, rfl⟩, trivial⟩⟩⟩) (fun _ h => h.re [0] [])
  ·
    have p5 := of_decide_eq_false c3
    refine k_exit ?_
    obtain rfl : t = 4 := by omega
    refine xs_exit ?_
    refine xs_exit ?_
    refine xs_here ?_
    refine xs_then ?_
    refine k_seq ?_
    refine k_seq ?_
    refine k_reg ?_
    refine s_lt (t_pure (.pointer (some ⟨b1, 0, none⟩))) ?_
    refine s_vcall (fun _ h => number_s 5) ?_
    rintro _ rfl
    refine s_call [0] (push_e (L := (LT 4)) (lim := 4) (v := (numV 5)) (show pushR (LT 4) 4 (numV 5) = (17, LT 4) from rfl)) ?_
    rintro _ _ ⟨rfl, rfl⟩
    refine s_lt (t_cmp (c := false)) ?_
    refine s_lt (t_pure (.bool false)) ?_
    refine s_lt (t_pure (.pointer (some ⟨b1, 0, none⟩))) ?_
    refine s_call [0] (pop_e (L := (LT 4)) (lim := 4) 5 (show popR (LT 4) 5 = (18, LT 4) from rfl)) ?_
    rintro _ _ ⟨rfl, rfl⟩
    refine s_lt (t_cmp (c := false)) ?_
    refine s_lt (t_pure (.bool false)) ?_
    refine s_lt (t_pure (.bool false)) ?_
    refine s_lt (t_pure (.pointer (some ⟨b1, 0, none⟩))) ?_
    refine s_call [0] (ins_e (L := (LT 4)) (lim := 4) 2 (show rotR (LT 4) 2 1 = (0, [numV 1, numV 4, numV 2, numV 3]) from rfl)) ?_
    rintro _ _ ⟨rfl, rfl⟩
    refine s_lt (t_cmp (c := false)) ?_
    refine s_lt (t_pure (.bool false)) ?_
    refine s_lt (t_pure (.bool false)) ?_
    refine s_lt (t_pure (.pointer (some ⟨b1, 0, none⟩))) ?_
    refine s_call [0] (list_s) ?_
    rintro v6 _ rfl
    refine s_vcall (fun _ h => number_s 1) ?_
    rintro _ rfl
    refine s_vcall (fun _ h => number_s 4) ?_
    rintro _ rfl
    refine s_vcall (fun _ h => number_s 2) ?_
    rintro _ rfl
    refine s_vcall (fun _ h => number_s 3) ?_
    rintro _ rfl
    refine s_buildSlice (e := 32) [(0, .agg #[.int .i64 ((numV 1).kind), .int .i64 ((numV 1).p), .int .i64 ((numV 1).q), .string ((numV 1).str), .int .i64 ((numV 1).ref)]), (1, .agg #[.int .i64 ((numV 4).kind), .int .i64 ((numV 4).p), .int .i64 ((numV 4).q), .string ((numV 4).str), .int .i64 ((numV 4).ref)]), (2, .agg #[.int .i64 ((numV 2).kind), .int .i64 ((numV 2).p), .int .i64 ((numV 2).q), .string ((numV 2).str), .int .i64 ((numV 2).ref)]), (3, .agg #[.int .i64 ((numV 3).kind), .int .i64 ((numV 3).p), .int .i64 ((numV 3).q), .string ((numV 3).str), .int .i64 ((numV 3).ref)])] #[.int .i64 ((numV 1).kind), .int .i64 ((numV 1).p), .int .i64 ((numV 1).q), .string ((numV 1).str), .int .i64 ((numV 1).ref), .int .i64 ((numV 4).kind), .int .i64 ((numV 4).p), .int .i64 ((numV 4).q), .string ((numV 4).str), .int .i64 ((numV 4).ref), .int .i64 ((numV 2).kind), .int .i64 ((numV 2).p), .int .i64 ((numV 2).q), .string ((numV 2).str), .int .i64 ((numV 2).ref), .int .i64 ((numV 3).kind), .int .i64 ((numV 3).p), .int .i64 ((numV 3).q), .string ((numV 3).str), .int .i64 ((numV 3).ref)] (fun g7 => ?_) (hb := by kernel_rfl)
    refine s_vcall (fun _ h => same_s (Acc.kn (.own 1) h) (Acc.kn (.lit 0 VlT_ok [(numV 1), (numV 4), (numV 2), (numV 3)]) h)) ?_
    rintro u9 e8
    obtain rfl : u9 = .bool true := e8.trans (congrArg Value.bool (decide_eq_true rfl))
    refine s_lt (t_pure (.bool false)) ?_
    refine s_lt (t_pure (.bool false)) ?_
    refine s_nil ?_
    refine xs_then ?_
    refine k_false ?_
    refine k_skip ?_
    refine xs_then ?_
    refine k_seq ?_
    refine k_reg ?_
    refine s_lt (t_pure (.pointer (some ⟨b1, 0, none⟩))) ?_
    refine s_call [2] (ab_e (L := [numV 1, numV 4, numV 2, numV 3]) (lim := 4) (-2) (show absR [numV 1, numV 4, numV 2, numV 3] (-2) = (3, 0) from rfl)) ?_
    rintro _ _ ⟨rfl, rfl⟩
    refine s_lt (t_pure (.tuple #[.int .i64 3, .int .i64 0])) ?_
    refine s_lt (t_pure (.int .i64 3)) ?_
    refine s_lt (t_pure (.int .i64 0)) ?_
    refine s_lt (t_pure (.int .i64 3)) ?_
    refine s_lt (t_pure (.int .i64 0)) ?_
    refine s_nil ?_
    refine xs_then ?_
    refine k_seq ?_
    refine k_reg ?_
    refine s_lt (t_pure (.pointer (some ⟨b1, 0, none⟩))) ?_
    refine s_call [0] (at_e (L := [numV 1, numV 4, numV 2, numV 3]) (lim := 4) (-2) (show atR [numV 1, numV 4, numV 2, numV 3] (-2) = (numV 2, 0) from rfl)) ?_
    rintro _ _ ⟨rfl, rfl⟩
    refine s_lt (t_pure (.tuple #[.agg #[.int .i64 ((numV 2).kind), .int .i64 ((numV 2).p), .int .i64 ((numV 2).q), .string ((numV 2).str), .int .i64 ((numV 2).ref)], .int .i64 0])) ?_
    refine s_lt (t_pure (.agg #[.int .i64 ((numV 2).kind), .int .i64 ((numV 2).p), .int .i64 ((numV 2).q), .string ((numV 2).str), .int .i64 ((numV 2).ref)])) ?_
    refine s_lt (t_pure (.int .i64 0)) ?_
    refine s_alloc (.agg #[.int .i64 0, .int .i64 0, .int .i64 0, .string ByteArray.empty, .int .i64 0]) #[.int .i64 0, .int .i64 0, .int .i64 0, .string ByteArray.empty, .int .i64 0] (fun g10 => ?_)
    refine s_store 0 #[.int .i64 ((numV 2).kind), .int .i64 ((numV 2).p), .int .i64 ((numV 2).q), .string ((numV 2).str), .int .i64 ((numV 2).ref)] ?_
    refine s_lt (t_pure (.int .i64 0)) ?_
    refine s_nil ?_
    refine xs_then ?_
    refine k_seq ?_
    refine k_held [blkA g10 #[.int .i64 ((numV 2).kind), .int .i64 ((numV 2).p), .int .i64 ((numV 2).q), .string ((numV 2).str), .int .i64 ((numV 2).ref)] 32, blkA g7 #[.int .i64 ((numV 1).kind), .int .i64 ((numV 1).p), .int .i64 ((numV 1).q), .string ((numV 1).str), .int .i64 ((numV 1).ref), .int .i64 ((numV 4).kind), .int .i64 ((numV 4).p), .int .i64 ((numV 4).q), .string ((numV 4).str), .int .i64 ((numV 4).ref), .int .i64 ((numV 2).kind), .int .i64 ((numV 2).p), .int .i64 ((numV 2).q), .string ((numV 2).str), .int .i64 ((numV 2).ref), .int .i64 ((numV 3).kind), .int .i64 ((numV 3).p), .int .i64 ((numV 3).q), .string ((numV 3).str), .int .i64 ((numV 3).ref)] 32, own VlT v6 [numV 1, numV 4, numV 2, numV 3]] ?_
    refine h_lt 0 rfl (np_then np_finS) [0, 1, 1] (fun _ => (t_pure (.int .i64 3))) ?_
    refine h_lt 1 rfl (np_then np_finS) [0, 1, 1] (fun _ => (t_cmp (c := true))) ?_
    refine h_lt 2 rfl (np_then np_finS) [0, 1, 1] (fun _ => (t_pure (.bool true))) ?_
    refine h_lt 3 rfl (np_then np_finS) [0, 1, 1] (fun _ => (t_pure (.int .i64 0))) ?_
    refine h_lt 4 rfl (np_then np_finS) [0, 1, 1] (fun _ => (t_cmp (c := true))) ?_
    refine h_lt 5 rfl (np_then np_finS) [0, 1, 1] (fun _ => (t_pure (.bool true))) ?_
    refine h_lt 6 rfl (np_then np_finS) [0, 1, 1] (fun _ => (t_pure (.bool true))) ?_
    refine h_lt 7 rfl (np_then np_finS) [0, 1, 1] (fun _ => (t_loadA 0 #[.int .i64 ((numV 2).kind), .int .i64 ((numV 2).p), .int .i64 ((numV 2).q), .string ((numV 2).str), .int .i64 ((numV 2).ref)])) ?_
    refine h_stepS 8 ?_
    refine s_vcall (fun _ h => number_s 2) ?_
    rintro _ rfl
    refine s_nil (xs_held [0, 1, 1] ?_)
    refine h_lt 9 rfl (np_then np_finS) [0, 1, 1] (fun _ => (Lt.to (t_eqS (fun w => (eqVlT (numV 2) (numV 2) w).1)) (congrArg Value.bool (decide_eq_true rfl : (decide ((numV 2) = (numV 2))) = true)))) ?_
    refine h_lt 10 rfl (np_then np_finS) [0, 1, 1] (fun _ => (t_pure (.bool true))) ?_
    refine h_lt 11 rfl (np_then np_finS) [0, 1, 1] (fun _ => (t_pure (.bool true))) ?_
    refine h_lt 12 rfl (np_then np_finS) [0, 1, 1] (fun _ => (t_pure (.int .i64 0))) ?_
    refine h_lt 13 rfl (np_then np_finS) [0, 1, 1] (fun _ => (t_cmp (c := true))) ?_
    refine h_lt 14 rfl (np_then np_finS) [0, 1, 1] (fun _ => (t_pure (.bool true))) ?_
    refine h_lt 15 rfl (np_then np_finS) [0, 1, 1] (fun _ => (t_pure (.bool true))) ?_
    refine h_lt 16 rfl (np_then np_finS) [0, 1, 1] (fun _ => (t_pure (.pointer (some ⟨b1, 0, none⟩)))) ?_
    refine h_stepS 17 ?_
    refine s_call [1] (top_s) ?_
    rintro _ _ ⟨rfl, rfl⟩
    refine s_nil (xs_held [1, 1, 1] ?_)
    refine h_lt 18 rfl (np_then np_finS) [1, 1, 1] (fun _ => (Lt.to t_cmp (congrArg Value.bool (decide_eq_true rfl : (decide ((([numV 1, numV 4, numV 2, numV 3].length : Int)) = 4)) = true)))) ?_
    refine h_lt 19 rfl (np_then np_finS) [1, 1, 1] (fun _ => (t_pure (.bool true))) ?_
    refine h_lt 20 rfl (np_then np_finS) [1, 1, 1] (fun _ => (t_pure (.bool true))) ?_
    refine h_doneS ?_
    refine xs_then ?_
    refine k_ret ?_
    exact xs_fin [.bool true] [] (SI.tmp 0 SI.nil) (fun _ h => h.re [] [0, 0, 0, 0]) ⟨rfl, rfl⟩
theorem filled_s {Z : Zone} {lv : Value} {l : List Vl} (hL : Kn Z VlT lv l) : SF Try.prog 9 #[lv] Z [] fun r Bs => ∃ (b : Nat) (v : Value) (M : List Vl), r = .tuple #[.pointer (some ⟨b, 0, none⟩), v] ∧ Bs = [stkA 63 b M 1000, own VlT v M] ∧ okL M ∧ M.length ≤ 60 := by
  refine sf_enter Try.func9 46 [(0, lv)] (fun w0 => ?_)
  refine k_seq ?_
  refine k_reg ?_
  refine s_lt (t_pure (.pointer none)) ?_
  refine s_lt (t_pure (.slice none 0 0)) ?_
  refine s_nil ?_
  refine xs_then ?_
  refine k_seq ?_
  refine k_reg ?_
  refine s_pcall (fun _ h => new_s 1000) ?_
  rintro _ _ (⟨hn, rfl, rfl⟩ | ⟨b1, hn1, hn2, rfl, rfl⟩)
  · exact absurd hn (by omega)
  refine s_lt (t_pure (.tuple #[.pointer (some ⟨b1, 0, none⟩), .int .i64 0])) ?_
  refine s_lt (t_pure (.pointer (some ⟨b1, 0, none⟩))) ?_
  refine s_lt (t_pure (.int .i64 0)) ?_
  refine s_lt (t_pure (.pointer (some ⟨b1, 0, none⟩))) ?_
  refine s_lt (t_pure (.int .i64 0)) ?_
  refine s_nil ?_
  refine xs_then ?_
  refine k_seq ?_
  refine k_reg ?_
  refine s_buildSlice (e := 32) [] #[] (fun g2 => ?_) (hb := by kernel_rfl)
  refine s_lt (t_pure (.slice (some ⟨g2, 0, none⟩) 0 0)) ?_
  refine s_nil ?_
  refine xs_then ?_
  refine k_seq ?_
  refine k_seq ?_
  refine k_reg ?_
  refine s_lt (t_pure (.int .i64 0)) ?_
  refine s_nil ?_
  refine xs_then ?_
  refine k_block ?_
  refine k_mem (fun _ h => Holds.slice 0 h VlT_ok []) ?_
  refine k_loop (ι := Value × Nat) (fun (sx, i) => i ≤ l.length ∧ i ≤ 60) (fun (sx, i) => [(0, lv), (2, .pointer none), (3, (.slice none 0 0)), (4, .pointer (some ⟨b1, 0, none⟩)), (6, sx), (7, .int .i64 (i : Int))]) (fun (sx, i) => [stkA 63 b1 (fillL l i) 1000, own VlT sx (fillL l i)]) (fun (sx, i) => 60 - i) ((.slice (some ⟨g2, 0, none⟩) 0 0), 0) ⟨Nat.zero_le _, Nat.zero_le _⟩ (sub_of rfl ⟨⟨rfl, rfl⟩, ⟨⟨rfl, rfl⟩, ⟨⟨rfl, rfl⟩, ⟨⟨rfl, rfl⟩, ⟨⟨rfl, rfl⟩, ⟨⟨rfl, rfl⟩, trivial⟩⟩⟩⟩⟩⟩) (fun _ h => h.re [1, 0] []) ?_
  rintro ⟨sx, i⟩ hi3
  replace hi3 : i ≤ l.length ∧ i ≤ 60 := hi3
  show SK _ _ _ _ _ [(0, lv), (2, .pointer none), (3, (.slice none 0 0)), (4, .pointer (some ⟨b1, 0, none⟩)), (6, sx), (7, .int .i64 (i : Int))] _ [stkA 63 b1 (fillL l i) 1000, own VlT sx (fillL l i)]
  have hfl := fillL_len l i
  refine k_seq ?_
  refine k_cut (ι := Unit) (fun _ => True) (fun _ => [(0, lv), (2, .pointer none), (3, (.slice none 0 0)), (4, .pointer (some ⟨b1, 0, none⟩)), (6, sx), (7, .int .i64 (i : Int)), (13, .int .i64 (i : Int)), (14, lv), (15, .int .i64 (l.length : Int)), (16, .bool (decide ((i : Int) < (l.length : Int)))), (17, .bool (decide ((i : Int) < (l.length : Int)))), (20, .bool ((decide ((i : Int) < (l.length : Int))) && (decide ((i : Int) < 60))))]) (fun _ => [stkA 63 b1 (fillL l i) 1000, own VlT sx (fillL l i)]) ?_ (fun _ _ => ?_)
  ·
    refine k_reg ?_
    refine s_lt (t_pure (.int .i64 (i : Int))) ?_
    refine s_lt (t_pure lv) ?_
    refine s_lt (t_len VlT_ok Try.underlying22 (.zn hL)) ?_
    refine s_lt t_cmp ?_
    refine s_lt (t_pure (.bool (decide ((i : Int) < (l.length : Int))))) ?_
    refine s_fork 17 (decide ((i : Int) < (l.length : Int))) (fun c4 => ?_) (fun c4 => ?_)
    ·
      have p5 := of_decide_eq_true c4
      refine s_lt (t_pure (.int .i64 (i : Int))) ?_
      refine s_lt t_cmp ?_
      refine s_lt (t_pure (.bool (decide ((i : Int) < 60)))) ?_
      refine s_nil ?_
      exact xs_cut () trivial (sub_of rfl ⟨⟨rfl, rfl⟩, ⟨⟨rfl, rfl⟩, ⟨⟨rfl, rfl⟩, ⟨⟨rfl, rfl⟩, ⟨⟨rfl, rfl⟩, ⟨⟨rfl, rfl⟩, ⟨⟨rfl, rfl⟩, ⟨⟨rfl, rfl⟩, ⟨⟨rfl, rfl⟩, ⟨⟨rfl, rfl⟩, ⟨⟨rfl, show Value.bool true = Value.bool (decide ((i : Int) < (l.length : Int))) by first | (simp only [c4, Bool.true_and, Bool.false_and, Bool.and_true, Bool.and_false, Bool.true_or, Bool.or_true, Bool.false_or, Bool.or_false, Bool.not_true, Bool.not_false]; done) | simp [c4]⟩, ⟨⟨rfl, show Value.bool (decide ((i : Int) < 60)) = Value.bool ((decide ((i : Int) < (l.length : Int))) && (decide ((i : Int) < 60))) by first | (simp only [c4, Bool.true_and, Bool.false_and, Bool.and_true, Bool.and_false, Bool.true_or, Bool.or_true, Bool.false_or, Bool.or_false, Bool.not_true, Bool.not_false]; done) | simp [c4]⟩, trivial⟩⟩⟩⟩⟩⟩⟩⟩⟩⟩⟩⟩) (fun _ h => h.re [0, 0] [])
    ·
      have p6 := of_decide_eq_false c4
      refine s_skip ?_
      refine s_skip ?_
      refine s_lt (t_pure (.bool false)) ?_
      refine s_nil ?_
      exact xs_cut () trivial (sub_of rfl ⟨⟨rfl, rfl⟩, ⟨⟨rfl, rfl⟩, ⟨⟨rfl, rfl⟩, ⟨⟨rfl, rfl⟩, ⟨⟨rfl, rfl⟩, ⟨⟨rfl, rfl⟩, ⟨⟨rfl, rfl⟩, ⟨⟨rfl, rfl⟩, ⟨⟨rfl, rfl⟩, ⟨⟨rfl, rfl⟩, ⟨⟨rfl, show Value.bool false = Value.bool (decide ((i : Int) < (l.length : Int))) by first | (simp only [c4, Bool.true_and, Bool.false_and, Bool.and_true, Bool.and_false, Bool.true_or, Bool.or_true, Bool.false_or, Bool.or_false, Bool.not_true, Bool.not_false]; done) | simp [c4]⟩, ⟨⟨rfl, show Value.bool false = Value.bool ((decide ((i : Int) < (l.length : Int))) && (decide ((i : Int) < 60))) by first | (simp only [c4, Bool.true_and, Bool.false_and, Bool.and_true, Bool.and_false, Bool.true_or, Bool.or_true, Bool.false_or, Bool.or_false, Bool.not_true, Bool.not_false]; done) | simp [c4]⟩, trivial⟩⟩⟩⟩⟩⟩⟩⟩⟩⟩⟩⟩) (fun _ h => h.re [0, 0] [])
  ·
    refine k_cond ((decide ((i : Int) < (l.length : Int))) && (decide ((i : Int) < 60))) (fun c7 => ?_) (fun c7 => ?_)
    ·
      obtain ⟨c8, c9⟩ := and_t c7
      have p10 := of_decide_eq_true c8
      have p11 := of_decide_eq_true c9
      refine k_skip ?_
      refine xs_then ?_
      refine k_seq ?_
      refine k_block ?_
      refine k_seq ?_
      refine k_reg ?_
      refine s_lt (t_pure lv) ?_
      refine s_lt (t_pure (.int .i64 (i : Int))) ?_
      refine s_lt (t_index VlT_ok Try.underlying22 (.zn hL) (i : Int) i (by omega) (by (try simp only [List.length_nil, List.length_cons, List.length_append, List.length_take, List.length_drop, List.length_set, List.length_replicate]); omega) (by omega)) ?_
      obtain ⟨y12, hy13⟩ : ∃ y, l[i]? = some y := ⟨_, List.getElem?_eq_getElem (by (try simp only [List.length_nil, List.length_cons, List.length_append, List.length_take, List.length_drop, List.length_set, List.length_replicate]); omega)⟩
      refine s_lt (t_loadE VlT_ok (.zn hL) hy13) ?_
      refine s_vcall (fun _ h => rvalid_s y12) ?_
      rintro _ rfl
      refine s_lt (t_pure (.bool (validB y12))) ?_
      refine s_fork 28 (validB y12) (fun c14 => ?_) (fun c14 => ?_)
      ·
        refine s_lt (t_pure (.pointer (some ⟨b1, 0, none⟩))) ?_
        refine s_lt (t_pure lv) ?_
        refine s_lt (t_pure (.int .i64 (i : Int))) ?_
        refine s_lt (t_index VlT_ok Try.underlying22 (.zn hL) (i : Int) i (by omega) (by (try simp only [List.length_nil, List.length_cons, List.length_append, List.length_take, List.length_drop, List.length_set, List.length_replicate]); omega) (by omega)) ?_
        refine s_lt (t_loadE VlT_ok (.zn hL) hy13) ?_
        refine s_call [0] (push_e (L := (fillL l i)) (lim := 1000) (v := y12) (push_fill c14 (by have := fillL_len l i; omega))) ?_
        rintro _ _ ⟨rfl, rfl⟩
        refine s_lt (t_cmp (c := true)) ?_
        refine s_lt (t_pure (.bool true)) ?_
        refine s_nil ?_
        refine xs_then ?_
        refine k_true ?_
        refine k_reg ?_
        refine s_lt (t_pure sx) ?_
        refine s_lt (t_pure lv) ?_
        refine s_lt (t_pure (.int .i64 (i : Int))) ?_
        refine s_lt (t_index VlT_ok Try.underlying22 (.zn hL) (i : Int) i (by omega) (by (try simp only [List.length_nil, List.length_cons, List.length_append, List.length_take, List.length_drop, List.length_set, List.length_replicate]); omega) (by omega)) ?_
        refine s_lt (t_loadE VlT_ok (.zn hL) hy13) ?_
        refine s_buildSlice (e := 32) [(0, .agg #[.int .i64 y12.kind, .int .i64 y12.p, .int .i64 y12.q, .string y12.str, .int .i64 y12.ref])] #[.int .i64 y12.kind, .int .i64 y12.p, .int .i64 y12.q, .string y12.str, .int .i64 y12.ref] (fun g15 => ?_) (hb := by kernel_rfl)
        refine s_append (L := (fillL l i)) 2 VlT_ok Try.underlying22 (.lit 0 VlT_ok [y12]) (by show _ * 48 ≤ _; (try simp only [List.length_nil, List.length_cons, List.length_append, List.length_take, List.length_drop, List.length_set, List.length_replicate]); omega) (by (try simp only [List.length_nil, List.length_cons, List.length_append, List.length_take, List.length_drop, List.length_set, List.length_replicate]); omega) (fun v16 => ?_)
        refine s_lt (t_pure v16) ?_
        refine s_nil ?_
        refine xs_block ?_
        refine xs_then ?_
        refine k_reg ?_
        refine s_lt (t_pure (.int .i64 (i : Int))) ?_
        refine s_lt (t_add (i : Int) 1 (by (try simp only [List.length_nil, List.length_cons, List.length_append, List.length_take, List.length_drop, List.length_set, List.length_replicate]); omega)) ?_
        refine s_lt (t_pure (.int .i64 ((i : Int) + 1))) ?_
        refine s_nil ?_
        exact xs_round (v16, i + 1) (by show 60 - (i + 1) < 60 - i; omega) (by show i + 1 ≤ l.length ∧ i + 1 ≤ 60; omega) (sub_of rfl ⟨⟨rfl, rfl⟩, ⟨⟨rfl, rfl⟩, ⟨⟨rfl, rfl⟩, ⟨⟨rfl, rfl⟩, ⟨⟨rfl, rfl⟩, ⟨⟨rfl, rfl⟩, trivial⟩⟩⟩⟩⟩⟩) (fun _ h => by show Holds _ [stkA 63 b1 (fillL l (i + 1)) 1000, own VlT _ (fillL l (i + 1))] _; rw [fillL_yes hy13 c14]; exact h.re [1, 1] [2])
      ·
        refine s_skip ?_
        refine s_skip ?_
        refine s_skip ?_
        refine s_skip ?_
        refine s_skip ?_
        refine s_skip ?_
        refine s_skip ?_
        refine s_lt (t_pure (.bool false)) ?_
        refine s_nil ?_
        refine xs_then ?_
        refine k_false ?_
        refine k_skip ?_
        refine xs_block ?_
        refine xs_then ?_
        refine k_reg ?_
        refine s_lt (t_pure (.int .i64 (i : Int))) ?_
        refine s_lt (t_add (i : Int) 1 (by (try simp only [List.length_nil, List.length_cons, List.length_append, List.length_take, List.length_drop, List.length_set, List.length_replicate]); omega)) ?_
        refine s_lt (t_pure (.int .i64 ((i : Int) + 1))) ?_
        refine s_nil ?_
        exact xs_round (sx, i + 1) (by show 60 - (i + 1) < 60 - i; omega) (by show i + 1 ≤ l.length ∧ i + 1 ≤ 60; omega) (sub_of rfl ⟨⟨rfl, rfl⟩, ⟨⟨rfl, rfl⟩, ⟨⟨rfl, rfl⟩, ⟨⟨rfl, rfl⟩, ⟨⟨rfl, rfl⟩, ⟨⟨rfl, rfl⟩, trivial⟩⟩⟩⟩⟩⟩) (fun _ h => by show Holds _ [stkA 63 b1 (fillL l (i + 1)) 1000, own VlT _ (fillL l (i + 1))] _; rw [fillL_no hy13 c14]; exact h.re [0, 0] [])
    ·
      have p17 := c7
      simp only [Bool.and_eq_true, Bool.or_eq_true, Bool.and_eq_false_iff, Bool.or_eq_false_iff, Bool.not_eq_true', Bool.not_eq_false', decide_eq_true_eq, decide_eq_false_iff_not] at p17
      refine k_exit ?_
      refine xs_exit ?_
      refine xs_exit ?_
      refine xs_here ?_
      refine xs_then ?_
      refine k_seq ?_
      refine k_reg ?_
      refine s_lt (t_pure (.pointer (some ⟨b1, 0, none⟩))) ?_
      refine s_lt (t_pure sx) ?_
      refine s_lt (t_pure (.pointer (some ⟨b1, 0, none⟩))) ?_
      refine s_lt (t_pure sx) ?_
      refine s_nil ?_
      refine xs_then ?_
      refine k_ret ?_
      refine xs_fin [.pointer (some ⟨b1, 0, none⟩), sx] [stkA 63 b1 (fillL l i) 1000, own VlT sx (fillL l i)] (SI.tmp 2 (SI.tmp 3 SI.nil)) (fun _ h => h.re [0, 0] []) ⟨b1, _, fillL l i, rfl, rfl, fillL_ok _ _, ?_⟩
      have := fillL_len l i; omega
end Go.Proofs.Ytnhbejiakfaohaa
