/-
  The chapter example, and stacks that are filled.
-/
import Derived.Test.YtdakfjdbdopmbaaDoorKW5
set_option linter.unusedSimpArgs false
set_option linter.unusedVariables false
set_option maxRecDepth 100000
namespace Go.Proofs.YtdakfjdbdopmbaaDoor.St
open Go.Hp Go.J Go.S
open Go.Mem (Ty KTy blk elemAt pre suf blk_pre blk_suf aget aset strK aggDesc)
section
variable {Z : Zone} {F : List Asr} {b : Nat} {L L' : List Vl} {lim : Int} {e : Int}
theorem pop_e (n : Int) (hp : popR L n = (e, L')) : SF Tryd.prog 34 #[.pointer (some ⟨b, 0, none⟩), .int .i64 n] Z (stkA 78 b L lim :: F) fun r Bs => r = .int .i64 e ∧ Bs = stkA 78 b L' lim :: F := by have := pop_s (Z := Z) (F := F) (b := b) (L := L) (lim := lim) n; rw [hp] at this; exact this
theorem ins_e (i : Int) (hp : rotR L i 1 = (e, L')) : SF Tryd.prog 35 #[.pointer (some ⟨b, 0, none⟩), .int .i64 i] Z (stkA 78 b L lim :: F) fun r Bs => r = .int .i64 e ∧ Bs = stkA 78 b L' lim :: F := by have := ins_s (Z := Z) (F := F) (b := b) (L := L) (lim := lim) i; rw [hp] at this; exact this
theorem rot_e (i n : Int) (hp : rotR L i n = (e, L')) : SF Tryd.prog 46 #[.pointer (some ⟨b, 0, none⟩), .int .i64 i, .int .i64 n] Z (stkA 78 b L lim :: F) fun r Bs => r = .int .i64 e ∧ Bs = stkA 78 b L' lim :: F := by have := rot_s (Z := Z) (F := F) (b := b) (L := L) (lim := lim) i n; rw [hp] at this; exact this
theorem at_e (i : Int) {y : Vl} (hp : atR L i = (y, e)) : SF Tryd.prog 18 #[.pointer (some ⟨b, 0, none⟩), .int .i64 i] Z (stkA 78 b L lim :: F) fun r Bs => r = .tuple #[y.v, .int .i64 e] ∧ Bs = stkA 78 b L lim :: F := by have := at_s (Z := Z) (F := F) (b := b) (L := L) (lim := lim) i; rw [hp] at this; exact this
theorem ab_e (i : Int) {x : Int} (hp : absR L i = (x, e)) : SF Tryd.prog 38 #[.pointer (some ⟨b, 0, none⟩), .int .i64 i] Z (stkA 78 b L lim :: F) fun r Bs => r = .tuple #[.int .i64 x, .int .i64 e] ∧ Bs = stkA 78 b L lim :: F := by have := ab_s (Z := Z) (F := F) (b := b) (L := L) (lim := lim) i; rw [hp] at this; exact this
end
theorem awake_s {Z : Zone} : SF Tryd.prog 15 #[] Z [] fun r Bs => r = .bool true ∧ Bs = [] := by
  refine sf_enter Tryd.func15 82 [] (fun w0 => ?_)
  refine k_seq ?_
  refine k_reg ?_
  refine s_lt (t_pure (.bool false)) ?_
  refine s_nil ?_
  refine xs_then ?_
  refine k_seq ?_
  refine k_reg ?_
  refine s_pcall (fun _ h => new_s 4) ?_
  rintro _ _ (⟨hn, rfl, rfl⟩ | ⟨b1, hn1, hn2, rfl, rfl⟩)
  · exact absurd hn (by omega)
  refine s_lt (t_pure (.tuple #[.pointer (some ⟨b1, 0, none⟩), .int .i64 0])) ?_
  refine s_lt (t_pure (.pointer (some ⟨b1, 0, none⟩))) ?_
  refine s_lt (t_pure (.int .i64 0)) ?_
  refine s_lt (t_pure (.pointer (some ⟨b1, 0, none⟩))) ?_
  refine s_lt (t_pure (.int .i64 0)) ?_
  refine s_nil ?_
  refine xs_then ?_
  refine k_seq ?_
  refine k_seq ?_
  refine k_reg ?_
  refine s_lt (t_pure (.pointer (some ⟨b1, 0, none⟩))) ?_
  refine s_lt (t_pure (.bool false)) ?_
  refine s_lt (t_pure (.bool false)) ?_
  refine s_lt (t_pure (.int .i64 0)) ?_
  refine s_lt (t_cmp (c := false)) ?_
  refine s_lt (t_pure (.bool false)) ?_
  refine s_nil ?_
  refine xs_then ?_
  refine k_false ?_
  refine k_skip ?_
  refine xs_then ?_
  refine k_seq ?_
  refine k_seq ?_
  refine k_reg ?_
  refine s_lt (t_pure (.int .i64 1)) ?_
  refine s_nil ?_
  refine xs_then ?_
  refine k_block ?_
  have e0 : ([] : List Vl) = LT 0 := rfl
  refine k_loop (ι := Nat) (fun t => t ≤ 4) (fun t => [(0, .bool false), (1, .pointer (some ⟨b1, 0, none⟩)), (3, .int .i64 ((t : Int) + 1))]) (fun t => [stkA 78 b1 (LT t) 4]) (fun t => 4 - t) 0 (Nat.zero_le _) (sub_of rfl ⟨⟨rfl, rfl⟩, ⟨⟨rfl, rfl⟩, ⟨⟨rfl, rfl⟩, trivial⟩⟩⟩) (fun _ h => h.re [0] []) ?_
  rintro t hi2
  show SK _ _ _ _ _ [(0, .bool false), (1, .pointer (some ⟨b1, 0, none⟩)), (3, .int .i64 ((t : Int) + 1))] _ [stkA 78 b1 (LT t) 4]
  refine k_seq ?_
  refine k_seq ?_
  refine k_reg ?_
  refine s_lt (t_pure (.int .i64 ((t : Int) + 1))) ?_
  refine s_lt t_cmp ?_
  refine s_nil ?_
  refine xs_then ?_
  refine k_cond (decide (((t : Int) + 1) ≤ 4)) (fun c3 => ?_) (fun c3 => ?_)
  ·
    have p4 := of_decide_eq_true c3
    refine k_skip ?_
    refine xs_then ?_
    refine k_seq ?_
    refine k_block ?_
    refine k_seq ?_
    refine k_reg ?_
    refine s_lt (t_pure (.pointer (some ⟨b1, 0, none⟩))) ?_
    refine s_lt (t_pure (.int .i64 ((t : Int) + 1))) ?_
    refine s_vcall (fun _ h => number_s ((t : Int) + 1)) ?_
    rintro _ rfl
    refine s_call [0] (push_e (L := (LT t)) (lim := 4) (v := (numV ((t : Int) + 1))) (show pushR (LT t) 4 (numV ((t : Int) + 1)) = (0, LT (t + 1)) from (push_fill (num_valid (by omega) (by omega)) (by rw [LT_len]; omega)).trans (by rw [LT_succ]))) ?_
    rintro _ _ ⟨rfl, rfl⟩
    refine s_lt (t_cmp (c := false)) ?_
    refine s_nil ?_
    refine xs_then ?_
    refine k_false ?_
    refine k_skip ?_
    refine xs_block ?_
    refine xs_then ?_
    refine k_reg ?_
    refine s_lt (t_pure (.int .i64 ((t : Int) + 1))) ?_
    refine s_lt (t_add ((t : Int) + 1) 1 (by (try simp only [List.length_nil, List.length_cons, List.length_append, List.length_take, List.length_drop, List.length_set, List.length_replicate, List.length_reverse]); omega)) ?_
    refine s_lt (t_pure (.int .i64 (((t : Int) + 1) + 1))) ?_
    refine s_nil ?_
    exact xs_round (t + 1) (by omega) (by omega) (sub_of rfl ⟨⟨rfl, rfl⟩, ⟨⟨rfl, rfl⟩, ⟨⟨rfl, rfl⟩, trivial⟩⟩⟩) (fun _ h => h.re [0] [])
  ·
    have p5 := of_decide_eq_false c3
    refine k_exit ?_
    obtain rfl : t = 4 := by omega
    refine xs_exit ?_
    refine xs_exit ?_
    refine xs_here ?_
    refine xs_then ?_
    refine k_seq ?_
    refine k_seq ?_
    refine k_reg ?_
    refine s_lt (t_pure (.pointer (some ⟨b1, 0, none⟩))) ?_
    refine s_vcall (fun _ h => number_s 5) ?_
    rintro _ rfl
    refine s_call [0] (push_e (L := (LT 4)) (lim := 4) (v := (numV 5)) (show pushR (LT 4) 4 (numV 5) = (17, LT 4) from rfl)) ?_
    rintro _ _ ⟨rfl, rfl⟩
    refine s_lt (t_cmp (c := false)) ?_
    refine s_lt (t_pure (.bool false)) ?_
    refine s_lt (t_pure (.pointer (some ⟨b1, 0, none⟩))) ?_
    refine s_call [0] (pop_e (L := (LT 4)) (lim := 4) 5 (show popR (LT 4) 5 = (18, LT 4) from rfl)) ?_
    rintro _ _ ⟨rfl, rfl⟩
    refine s_lt (t_cmp (c := false)) ?_
    refine s_lt (t_pure (.bool false)) ?_
    refine s_lt (t_pure (.bool false)) ?_
    refine s_lt (t_pure (.pointer (some ⟨b1, 0, none⟩))) ?_
    refine s_call [0] (ins_e (L := (LT 4)) (lim := 4) 2 (show rotR (LT 4) 2 1 = (0, [numV 1, numV 4, numV 2, numV 3]) from rfl)) ?_
    rintro _ _ ⟨rfl, rfl⟩
    refine s_lt (t_cmp (c := false)) ?_
    refine s_lt (t_pure (.bool false)) ?_
    refine s_lt (t_pure (.bool false)) ?_
    refine s_lt (t_pure (.pointer (some ⟨b1, 0, none⟩))) ?_
    refine s_call [0] (list_s) ?_
    rintro v6 _ rfl
    refine s_vcall (fun _ h => number_s 1) ?_
    rintro _ rfl
    refine s_vcall (fun _ h => number_s 4) ?_
    rintro _ rfl
    refine s_vcall (fun _ h => number_s 2) ?_
    rintro _ rfl
    refine s_vcall (fun _ h => number_s 3) ?_
    rintro _ rfl
    refine s_buildSlice (e := 39) [(0, .agg #[.int .i64 ((numV 1).kind), .int .i64 ((numV 1).p), .int .i64 ((numV 1).q), .string ((numV 1).str), .int .i64 ((numV 1).ref)]), (1, .agg #[.int .i64 ((numV 4).kind), .int .i64 ((numV 4).p), .int .i64 ((numV 4).q), .string ((numV 4).str), .int .i64 ((numV 4).ref)]), (2, .agg #[.int .i64 ((numV 2).kind), .int .i64 ((numV 2).p), .int .i64 ((numV 2).q), .string ((numV 2).str), .int .i64 ((numV 2).ref)]), (3, .agg #[.int .i64 ((numV 3).kind), .int .i64 ((numV 3).p), .int .i64 ((numV 3).q), .string ((numV 3).str), .int .i64 ((numV 3).ref)])] #[.int .i64 ((numV 1).kind), .int .i64 ((numV 1).p), .int .i64 ((numV 1).q), .string ((numV 1).str), .int .i64 ((numV 1).ref), .int .i64 ((numV 4).kind), .int .i64 ((numV 4).p), .int .i64 ((numV 4).q), .string ((numV 4).str), .int .i64 ((numV 4).ref), .int .i64 ((numV 2).kind), .int .i64 ((numV 2).p), .int .i64 ((numV 2).q), .string ((numV 2).str), .int .i64 ((numV 2).ref), .int .i64 ((numV 3).kind), .int .i64 ((numV 3).p), .int .i64 ((numV 3).q), .string ((numV 3).str), .int .i64 ((numV 3).ref)] (fun g7 => ?_) (hb := by kernel_rfl)
    refine s_vcall (fun _ h => same_s (Acc.kn (.own 1) h) (Acc.kn (.lit 0 VlT_ok [(numV 1), (numV 4), (numV 2), (numV 3)]) h)) ?_
    rintro u9 e8
    obtain rfl : u9 = .bool true := e8.trans (congrArg Value.bool (decide_eq_true rfl))
    refine s_lt (t_pure (.bool false)) ?_
    refine s_lt (t_pure (.bool false)) ?_
    refine s_nil ?_
    refine xs_then ?_
    refine k_false ?_
    refine k_skip ?_
    refine xs_then ?_
    refine k_seq ?_
    refine k_reg ?_
    refine s_lt (t_pure (.pointer (some ⟨b1, 0, none⟩))) ?_
    refine s_call [2] (ab_e (L := [numV 1, numV 4, numV 2, numV 3]) (lim := 4) (-2) (show absR [numV 1, numV 4, numV 2, numV 3] (-2) = (3, 0) from rfl)) ?_
    rintro _ _ ⟨rfl, rfl⟩
    refine s_lt (t_pure (.tuple #[.int .i64 3, .int .i64 0])) ?_
    refine s_lt (t_pure (.int .i64 3)) ?_
    refine s_lt (t_pure (.int .i64 0)) ?_
    refine s_lt (t_pure (.int .i64 3)) ?_
    refine s_lt (t_pure (.int .i64 0)) ?_
    refine s_nil ?_
    refine xs_then ?_
    refine k_seq ?_
    refine k_reg ?_
    refine s_lt (t_pure (.pointer (some ⟨b1, 0, none⟩))) ?_
    refine s_call [0] (at_e (L := [numV 1, numV 4, numV 2, numV 3]) (lim := 4) (-2) (show atR [numV 1, numV 4, numV 2, numV 3] (-2) = (numV 2, 0) from rfl)) ?_
    rintro _ _ ⟨rfl, rfl⟩
    refine s_lt (t_pure (.tuple #[.agg #[.int .i64 ((numV 2).kind), .int .i64 ((numV 2).p), .int .i64 ((numV 2).q), .string ((numV 2).str), .int .i64 ((numV 2).ref)], .int .i64 0])) ?_
    refine s_lt (t_pure (.agg #[.int .i64 ((numV 2).kind), .int .i64 ((numV 2).p), .int .i64 ((numV 2).q), .string ((numV 2).str), .int .i64 ((numV 2).ref)])) ?_
    refine s_lt (t_pure (.int .i64 0)) ?_
    refine s_alloc (.agg #[.int .i64 0, .int .i64 0, .int .i64 0, .string ByteArray.empty, .int .i64 0]) #[.int .i64 0, .int .i64 0, .int .i64 0, .string ByteArray.empty, .int .i64 0] (fun g10 => ?_)
    refine s_store 0 #[.int .i64 ((numV 2).kind), .int .i64 ((numV 2).p), .int .i64 ((numV 2).q), .string ((numV 2).str), .int .i64 ((numV 2).ref)] ?_
    refine s_lt (t_pure (.int .i64 0)) ?_
    refine s_nil ?_
    refine xs_then ?_
    refine k_seq ?_
    refine k_held [blkA g10 #[.int .i64 ((numV 2).kind), .int .i64 ((numV 2).p), .int .i64 ((numV 2).q), .string ((numV 2).str), .int .i64 ((numV 2).ref)] 39, blkA g7 #[.int .i64 ((numV 1).kind), .int .i64 ((numV 1).p), .int .i64 ((numV 1).q), .string ((numV 1).str), .int .i64 ((numV 1).ref), .int .i64 ((numV 4).kind), .int .i64 ((numV 4).p), .int .i64 ((numV 4).q), .string ((numV 4).str), .int .i64 ((numV 4).ref), .int .i64 ((numV 2).kind), .int .i64 ((numV 2).p), .int .i64 ((numV 2).q), .string ((numV 2).str), .int .i64 ((numV 2).ref), .int .i64 ((numV 3).kind), .int .i64 ((numV 3).p), .int .i64 ((numV 3).q), .string ((numV 3).str), .int .i64 ((numV 3).ref)] 39, own VlT v6 [numV 1, numV 4, numV 2, numV 3]] ?_
    refine h_lt 0 rfl (np_then np_finS) [0, 1, 1] (fun _ => (t_pure (.int .i64 3))) ?_
    refine h_lt 1 rfl (np_then np_finS) [0, 1, 1] (fun _ => (t_cmp (c := true))) ?_
    refine h_lt 2 rfl (np_then np_finS) [0, 1, 1] (fun _ => (t_pure (.bool true))) ?_
    refine h_lt 3 rfl (np_then np_finS) [0, 1, 1] (fun _ => (t_pure (.int .i64 0))) ?_
    refine h_lt 4 rfl (np_then np_finS) [0, 1, 1] (fun _ => (t_cmp (c := true))) ?_
    refine h_lt 5 rfl (np_then np_finS) [0, 1, 1] (fun _ => (t_pure (.bool true))) ?_
    refine h_lt 6 rfl (np_then np_finS) [0, 1, 1] (fun _ => (t_pure (.bool true))) ?_
    refine h_lt 7 rfl (np_then np_finS) [0, 1, 1] (fun _ => (t_loadA 0 #[.int .i64 ((numV 2).kind), .int .i64 ((numV 2).p), .int .i64 ((numV 2).q), .string ((numV 2).str), .int .i64 ((numV 2).ref)])) ?_
    refine h_stepS 8 ?_
    refine s_vcall (fun _ h => number_s 2) ?_
    rintro _ rfl
    refine s_nil (xs_held [0, 1, 1] ?_)
    refine h_lt 9 rfl (np_then np_finS) [0, 1, 1] (fun _ => (Lt.to (t_eqS (fun w => (eqVlT (numV 2) (numV 2) w).1)) (congrArg Value.bool (decide_eq_true rfl : (decide ((numV 2) = (numV 2))) = true)))) ?_
    refine h_lt 10 rfl (np_then np_finS) [0, 1, 1] (fun _ => (t_pure (.bool true))) ?_
    refine h_lt 11 rfl (np_then np_finS) [0, 1, 1] (fun _ => (t_pure (.bool true))) ?_
    refine h_lt 12 rfl (np_then np_finS) [0, 1, 1] (fun _ => (t_pure (.int .i64 0))) ?_
    refine h_lt 13 rfl (np_then np_finS) [0, 1, 1] (fun _ => (t_cmp (c := true))) ?_
    refine h_lt 14 rfl (np_then np_finS) [0, 1, 1] (fun _ => (t_pure (.bool true))) ?_
    refine h_lt 15 rfl (np_then np_finS) [0, 1, 1] (fun _ => (t_pure (.bool true))) ?_
    refine h_lt 16 rfl (np_then np_finS) [0, 1, 1] (fun _ => (t_pure (.pointer (some ⟨b1, 0, none⟩)))) ?_
    refine h_stepS 17 ?_
    refine s_call [1] (top_s) ?_
    rintro _ _ ⟨rfl, rfl⟩
    refine s_nil (xs_held [1, 1, 1] ?_)
    refine h_lt 18 rfl (np_then np_finS) [1, 1, 1] (fun _ => (Lt.to t_cmp (congrArg Value.bool (decide_eq_true rfl : (decide ((([numV 1, numV 4, numV 2, numV 3].length : Int)) = 4)) = true)))) ?_
    refine h_lt 19 rfl (np_then np_finS) [1, 1, 1] (fun _ => (t_pure (.bool true))) ?_
    refine h_lt 20 rfl (np_then np_finS) [1, 1, 1] (fun _ => (t_pure (.bool true))) ?_
    refine h_doneS ?_
    refine xs_then ?_
    refine k_ret ?_
    exact xs_fin [.bool true] [] (SI.tmp 0 SI.nil) (fun _ h => h.re [] [0, 0, 0, 0]) ⟨rfl, rfl⟩
end Go.Proofs.YtdakfjdbdopmbaaDoor.St
