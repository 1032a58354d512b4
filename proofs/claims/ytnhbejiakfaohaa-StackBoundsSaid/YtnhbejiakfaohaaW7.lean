/-
  StackNone, StackTurns, StackEnds, StackShares: the walks of the statements.
-/
import Derived.Test.YtnhbejiakfaohaaW6
import Derived.Test.YtnhbejiakfaohaaL4
set_option linter.unusedSimpArgs false
set_option linter.unusedVariables false
set_option maxRecDepth 100000
namespace Go.Proofs.Ytnhbejiakfaohaa
open Go.Hp Go.J Go.S
open Go.Mem (Ty KTy blk elemAt pre suf blk_pre blk_suf aget aset strK aggDesc)
theorem none_s {Z : Zone} (c : Cl) : SF Try.prog 8 #[.agg #[.int .i64 c.kind, .int .i64 c.n, .int .i64 c.m, .int .i64 c.vk, .int .i64 c.vp, .int .i64 c.vq, .string c.vs, .int .i64 c.vr]] Z [] fun r Bs => r = .bool true ∧ Bs = [] := by
  refine sf_enter Try.func8 39 [(0, .agg #[.int .i64 c.kind, .int .i64 c.n, .int .i64 c.m, .int .i64 c.vk, .int .i64 c.vp, .int .i64 c.vq, .string c.vs, .int .i64 c.vr])] (fun w0 => ?_)
  refine k_seq ?_
  refine k_reg ?_
  refine s_box #[.int .i64 c.kind, .int .i64 c.n, .int .i64 c.m, .int .i64 c.vk, .int .i64 c.vp, .int .i64 c.vq, .string c.vs, .int .i64 c.vr] (fun g1 => ?_)
  refine s_lt (t_pure (.bool false)) ?_
  refine s_nil ?_
  refine xs_then ?_
  refine k_seq ?_
  refine k_reg ?_
  refine s_lt (t_pure (.pointer none)) ?_
  refine s_nil ?_
  refine xs_then ?_
  refine k_seq ?_
  refine k_reg ?_
  refine s_lt (t_pure (.pointer none)) ?_
  refine s_lt (t_loadA 0 #[.int .i64 c.kind, .int .i64 c.n, .int .i64 c.m, .int .i64 c.vk, .int .i64 c.vp, .int .i64 c.vq, .string c.vs, .int .i64 c.vr]) ?_
  refine s_vcall (fun _ h => prog_n c) ?_
  rintro _ rfl
  refine s_lt (t_pure (.tuple #[.int .i64 0, .agg #[.int .i64 zVl.kind, .int .i64 zVl.p, .int .i64 zVl.q, .string zVl.str, .int .i64 zVl.ref], .int .i64 1])) ?_
  refine s_lt (t_pure (.int .i64 0)) ?_
  refine s_lt (t_pure (.agg #[.int .i64 zVl.kind, .int .i64 zVl.p, .int .i64 zVl.q, .string zVl.str, .int .i64 zVl.ref])) ?_
  refine s_lt (t_pure (.int .i64 1)) ?_
  refine s_alloc (.agg #[.int .i64 0, .int .i64 0, .int .i64 0, .string ByteArray.empty, .int .i64 0]) #[.int .i64 0, .int .i64 0, .int .i64 0, .string ByteArray.empty, .int .i64 0] (fun g2 => ?_)
  refine s_lt (t_pure (.int .i64 0)) ?_
  refine s_store 0 #[.int .i64 zVl.kind, .int .i64 zVl.p, .int .i64 zVl.q, .string zVl.str, .int .i64 zVl.ref] ?_
  refine s_lt (t_pure (.int .i64 1)) ?_
  refine s_nil ?_
  refine xs_then ?_
  refine k_seq ?_
  refine k_reg ?_
  refine s_lt (t_pure (.int .i64 0)) ?_
  refine s_lt (t_cmp (c := true)) ?_
  refine s_lt (t_pure (.bool true)) ?_
  refine s_lt (t_loadA 0 #[.int .i64 zVl.kind, .int .i64 zVl.p, .int .i64 zVl.q, .string zVl.str, .int .i64 zVl.ref]) ?_
  refine s_lt (t_kern (.agg #[.int .i64 0, .int .i64 0, .int .i64 0, .string ByteArray.empty, .int .i64 0])) ?_
  refine s_lt (Lt.to (t_eqS (fun w => (eqVlT zVl (⟨0, 0, 0, ByteArray.empty, 0⟩ : Vl) w).1)) (congrArg Value.bool (decide_eq_true rfl : (decide (zVl = (⟨0, 0, 0, ByteArray.empty, 0⟩ : Vl))) = true))) ?_
  refine s_lt (t_pure (.bool true)) ?_
  refine s_lt (t_pure (.bool true)) ?_
  refine s_lt (t_pure (.int .i64 1)) ?_
  refine s_lt (t_cmp (c := true)) ?_
  refine s_lt (t_pure (.bool true)) ?_
  refine s_lt (t_pure (.bool true)) ?_
  refine s_lt (t_pure (.pointer none)) ?_
  refine s_vcall (fun _ h => top_n) ?_
  rintro _ rfl
  refine s_lt (t_cmp (c := true)) ?_
  refine s_lt (t_pure (.bool true)) ?_
  refine s_lt (t_pure (.bool true)) ?_
  refine s_lt (t_pure (.pointer none)) ?_
  refine s_pcall (fun _ h => list_n) ?_
  rintro v3 _ rfl
  refine s_lt (t_len VlT_ok Try.underlying22 (.own 0)) ?_
  refine s_lt (Lt.to t_cmp (congrArg Value.bool (decide_eq_true rfl : (decide (([].length : Int) = 0)) = true))) ?_
  refine s_lt (t_pure (.bool true)) ?_
  refine s_lt (t_pure (.bool true)) ?_
  refine s_vcall (fun _ h => awake_s) ?_
  rintro _ rfl
  refine s_lt (t_pure (.bool true)) ?_
  refine s_lt (t_pure (.bool true)) ?_
  refine s_nil ?_
  refine xs_then ?_
  refine k_ret ?_
  exact xs_fin [.bool true] [] (SI.tmp 2 SI.nil) (fun _ h => h.re [] [0, 0, 0]) ⟨rfl, rfl⟩
theorem turns_s {Z : Zone} {lv : Value} {l : List Vl} (hL : Kn Z VlT lv l) (i n : Int) (hi0 : 0 ≤ i) (hi1 : i ≤ 255) (hn0 : -2147483648 ≤ n) (hn1 : n ≤ 2147483647) : SF Try.prog 3 #[lv, .int .u8 i, .int .i32 n] Z [] fun r Bs => r = .bool true ∧ Bs = [] := by
  refine sf_enter Try.func3 86 [(0, lv), (1, .int .u8 i), (2, .int .i32 n)] (fun w0 => ?_)
  refine k_seq ?_
  refine k_reg ?_
  refine s_lt (t_pure (.bool false)) ?_
  refine s_nil ?_
  refine xs_then ?_
  refine k_seq ?_
  refine k_reg ?_
  refine s_lt (t_pure lv) ?_
  refine s_pcall (fun _ h => filled_s (Acc.kn (.zn hL) h)) ?_
  rintro _ _ ⟨b1, v2, M3, rfl, rfl, hM4, hM5⟩
  refine s_lt (t_pure (.tuple #[.pointer (some ⟨b1, 0, none⟩), v2])) ?_
  refine s_lt (t_pure (.pointer (some ⟨b1, 0, none⟩))) ?_
  refine s_lt (t_pure v2) ?_
  refine s_lt (t_pure (.pointer (some ⟨b1, 0, none⟩))) ?_
  refine s_lt (t_pure v2) ?_
  refine s_nil ?_
  refine xs_then ?_
  refine k_seq ?_
  refine k_seq ?_
  refine k_reg ?_
  refine s_lt (t_pure (.pointer (some ⟨b1, 0, none⟩))) ?_
  refine s_lt (t_pure (.bool false)) ?_
  refine s_nil ?_
  refine xs_then ?_
  refine k_false ?_
  refine k_skip ?_
  refine xs_then ?_
  refine k_seq ?_
  refine k_reg ?_
  refine s_lt (t_pure (.int .u8 i)) ?_
  refine s_lt (t_conv i (by rw [IntKind.wrap_i64]; omega) Try.underlying5 Try.underlying3) ?_
  refine s_lt (Lt.to (v' := .int .i64 (i % 60)) (t_rem i 60 (by omega)) (congrArg (Value.int .i64) (Int.tmod_eq_emod_of_nonneg (by omega)))) ?_
  refine s_lt (t_pure (.int .i64 (i % 60))) ?_
  refine s_nil ?_
  refine xs_then ?_
  refine k_seq ?_
  refine k_seq ?_
  refine k_reg ?_
  refine s_lt (t_pure (.int .i64 (i % 60))) ?_
  refine s_lt (t_pure v2) ?_
  refine s_lt (t_len VlT_ok Try.underlying22 (.own 1)) ?_
  refine s_lt t_cmp ?_
  refine s_nil ?_
  refine xs_then ?_
  refine k_cond (decide ((M3.length : Int) ≤ (i % 60))) (fun c7 => ?_) (fun c7 => ?_)
  ·
    have p8 := of_decide_eq_true c7
    refine k_seq ?_
    refine k_reg ?_
    refine s_vcall (fun _ h => awake_s) ?_
    rintro _ rfl
    refine s_lt (t_pure (.bool true)) ?_
    refine s_nil ?_
    refine xs_then ?_
    refine k_ret ?_
    refine xs_ret ?_
    exact xs_fin [.bool true] [] (SI.tmp 6 SI.nil) (fun _ h => h.re [] [0, 0]) ⟨rfl, rfl⟩
  ·
    have p9 := of_decide_eq_false c7
    obtain ⟨k, hk⟩ : ∃ k : Nat, (k : Int) = i % 60 := ⟨(i % 60).toNat, by omega⟩
    rw [← hk]
    obtain ⟨y, hy⟩ : ∃ y, M3[k]? = some y := ⟨_, List.getElem?_eq_getElem (by omega)⟩
    refine k_skip ?_
    refine xs_then ?_
    refine k_seq ?_
    refine k_seq ?_
    refine k_reg ?_
    refine s_lt (t_pure (.pointer (some ⟨b1, 0, none⟩))) ?_
    refine s_lt (t_pure (.int .i64 (k : Int))) ?_
    refine s_lt (t_add (k : Int) 1 (by (try simp only [List.length_nil, List.length_cons, List.length_append, List.length_take, List.length_drop, List.length_set, List.length_replicate]); omega)) ?_
    refine s_lt (t_pure (.int .i32 n)) ?_
    refine s_lt (t_conv n (by rw [IntKind.wrap_i64]; omega) Try.underlying21 Try.underlying3) ?_
    refine s_call [0] (rot_e (L := M3) (lim := 1000) ((k : Int) + 1) n (turn1 M3 k _ n (by omega) (by omega))) ?_
    rintro _ _ ⟨rfl, rfl⟩
    refine s_lt (t_cmp (c := false)) ?_
    refine s_nil ?_
    refine xs_then ?_
    refine k_false ?_
    refine k_skip ?_
    refine xs_then ?_
    refine k_seq ?_
    refine k_reg ?_
    refine s_lt (t_pure v2) ?_
    refine s_lt (t_len VlT_ok Try.underlying22 (.own 1)) ?_
    refine s_lt (t_pure (.int .i64 (k : Int))) ?_
    refine s_lt (t_sub (M3.length : Int) (k : Int) (by (try simp only [List.length_nil, List.length_cons, List.length_append, List.length_take, List.length_drop, List.length_set, List.length_replicate]); omega)) ?_
    refine s_lt (t_pure (.int .i64 ((M3.length : Int) - (k : Int)))) ?_
    refine s_nil ?_
    refine xs_then ?_
    refine k_seq ?_
    refine k_reg ?_
    refine s_lt (t_pure (.int .i32 n)) ?_
    refine s_lt (t_conv n (by rw [IntKind.wrap_i64]; omega) Try.underlying21 Try.underlying3) ?_
    refine s_lt (t_pure (.int .i64 ((M3.length : Int) - (k : Int)))) ?_
    have ht10 : (0 : Int) < ((M3.length : Int) - (k : Int)) := by omega
    have ht11 := Int.tmod_lt_of_pos n ht10; have ht12 := Int.lt_tmod_of_pos n ht10
    refine s_lt (t_rem n ((M3.length : Int) - (k : Int)) (by omega)) ?_
    refine s_lt (t_pure (.int .i64 ((M3.length : Int) - (k : Int)))) ?_
    refine s_lt (t_add (Int.tmod n ((M3.length : Int) - (k : Int))) ((M3.length : Int) - (k : Int)) (by (try simp only [List.length_nil, List.length_cons, List.length_append, List.length_take, List.length_drop, List.length_set, List.length_replicate]); omega)) ?_
    refine s_lt (t_pure (.int .i64 ((M3.length : Int) - (k : Int)))) ?_
    have ht13 : (0 : Int) < ((M3.length : Int) - (k : Int)) := by omega
    have ht14 := Int.emod_nonneg n (b := ((M3.length : Int) - (k : Int))) (by omega); have ht15 := Int.emod_lt_of_pos n ht13
    refine s_lt (Lt.to (v' := .int .i64 (n % ((M3.length : Int) - (k : Int)))) (t_rem ((Int.tmod n ((M3.length : Int) - (k : Int))) + ((M3.length : Int) - (k : Int))) ((M3.length : Int) - (k : Int)) (by omega)) (congrArg (Value.int .i64) (tmm _ _ ht13))) ?_
    refine s_lt (t_pure (.int .i64 (n % ((M3.length : Int) - (k : Int))))) ?_
    refine s_nil ?_
    refine xs_then ?_
    refine k_seq ?_
    refine k_reg ?_
    refine s_lt (t_pure (.pointer (some ⟨b1, 0, none⟩))) ?_
    refine s_lt (t_pure (.int .i64 (k : Int))) ?_
    refine s_lt (t_add (k : Int) 1 (by (try simp only [List.length_nil, List.length_cons, List.length_append, List.length_take, List.length_drop, List.length_set, List.length_replicate]); omega)) ?_
    refine s_lt (t_pure (.int .i64 (n % ((M3.length : Int) - (k : Int))))) ?_
    refine s_lt (t_add ((k : Int) + 1) (n % ((M3.length : Int) - (k : Int))) (by (try simp only [List.length_nil, List.length_cons, List.length_append, List.length_take, List.length_drop, List.length_set, List.length_replicate]); omega)) ?_
    refine s_call [0] (at_e (L := (M3.take k ++ rotL (M3.drop k) n)) (lim := 1000) (((k : Int) + 1) + (n % ((M3.length : Int) - (k : Int)))) (turn2 M3 k _ n (by omega) hy (by omega))) ?_
    rintro _ _ ⟨rfl, rfl⟩
    refine s_lt (t_pure (.tuple #[.agg #[.int .i64 y.kind, .int .i64 y.p, .int .i64 y.q, .string y.str, .int .i64 y.ref], .int .i64 0])) ?_
    refine s_lt (t_pure (.agg #[.int .i64 y.kind, .int .i64 y.p, .int .i64 y.q, .string y.str, .int .i64 y.ref])) ?_
    refine s_lt (t_pure (.int .i64 0)) ?_
    refine s_alloc (.agg #[.int .i64 0, .int .i64 0, .int .i64 0, .string ByteArray.empty, .int .i64 0]) #[.int .i64 0, .int .i64 0, .int .i64 0, .string ByteArray.empty, .int .i64 0] (fun g16 => ?_)
    refine s_store 0 #[.int .i64 y.kind, .int .i64 y.p, .int .i64 y.q, .string y.str, .int .i64 y.ref] ?_
    refine s_lt (t_pure (.int .i64 0)) ?_
    refine s_nil ?_
    refine xs_then ?_
    refine k_seq ?_
    refine k_seq ?_
    refine k_draw ?_
    refine s_lt (t_pure (.int .i64 0)) ?_
    refine s_lt (t_cmp (c := false)) ?_
    refine s_lt (t_pure (.bool false)) ?_
    refine s_lt (t_loadA 0 #[.int .i64 y.kind, .int .i64 y.p, .int .i64 y.q, .string y.str, .int .i64 y.ref]) ?_
    refine s_lt (t_pure v2) ?_
    refine s_lt (t_pure (.int .i64 (k : Int))) ?_
    refine s_lt (t_index VlT_ok Try.underlying22 (.own 2) (k : Int) k (by omega) (by (try simp only [List.length_nil, List.length_cons, List.length_append, List.length_take, List.length_drop, List.length_set, List.length_replicate]); omega) (by omega)) ?_
    refine s_lt (t_loadE VlT_ok (.own 2) hy) ?_
    refine s_lt (Lt.to (t_eqS (fun w => (eqVlT y y w).2)) (congrArg Value.bool ((congrArg Bool.not (decide_eq_true rfl : (decide (y = y)) = true)).trans rfl : (!(decide (y = y))) = false))) ?_
    refine s_lt (t_pure (.bool false)) ?_
    refine s_lt (t_pure (.bool false)) ?_
    refine s_lt (t_pure (.pointer (some ⟨b1, 0, none⟩))) ?_
    refine s_lt (t_pure (.int .i64 (k : Int))) ?_
    refine s_lt (t_pure v2) ?_
    refine s_fact (fun H h => ((Acc.own (T := VlT) (L := M3) 2 rfl) H h).form) (fun hf17 => ?_)
    refine s_lt (t_len VlT_ok Try.underlying22 (.own 2)) ?_
    refine s_lt (t_sub (k : Int) (M3.length : Int) (by (try simp only [List.length_nil, List.length_cons, List.length_append, List.length_take, List.length_drop, List.length_set, List.length_replicate]); omega)) ?_
    refine s_lt (t_pure (.int .i32 n)) ?_
    refine s_lt (t_conv n (by rw [IntKind.wrap_i64]; omega) Try.underlying21 Try.underlying3) ?_
    refine s_lt (t_neg n (by omega)) ?_
    refine s_call [1] (rot_e (L := (M3.take k ++ rotL (M3.drop k) n)) (lim := 1000) ((k : Int) - (M3.length : Int)) (-n) (turn3 M3 k _ n (by omega) (by omega))) ?_
    rintro _ _ ⟨rfl, rfl⟩
    refine s_lt (t_cmp (c := false)) ?_
    refine s_lt (t_pure (.bool false)) ?_
    refine s_nil ?_
    refine x_dynS (fun _ h => by obtain ⟨_, _, e⟩ := hf17; subst e; kernel_rfl) ?_
    refine xs_then ?_
    refine k_false ?_
    refine k_skip ?_
    refine xs_then ?_
    refine k_seq ?_
    refine k_reg ?_
    refine s_lt (t_pure (.pointer (some ⟨b1, 0, none⟩))) ?_
    refine s_call [0] (list_s) ?_
    rintro v18 _ rfl
    refine s_lt (t_pure v2) ?_
    refine s_vcall (fun _ h => same_s (Acc.kn (.own 0) h) (Acc.kn (.own 3) h)) ?_
    rintro u20 e19
    obtain rfl : u20 = .bool true := e19.trans (congrArg Value.bool (decide_eq_true rfl))
    refine s_lt (t_pure (.bool true)) ?_
    refine s_vcall (fun _ h => awake_s) ?_
    rintro _ rfl
    refine s_lt (t_pure (.bool true)) ?_
    refine s_lt (t_pure (.bool true)) ?_
    refine s_nil ?_
    refine xs_then ?_
    refine k_ret ?_
    exact xs_fin [.bool true] [] (SI.tmp 6 SI.nil) (fun _ h => h.re [] [0, 0, 0, 0]) ⟨rfl, rfl⟩
theorem ends_s {Z : Zone} {lv : Value} {l : List Vl} (hL : Kn Z VlT lv l) (v : Vl) (i : Int) (hi0 : 0 ≤ i) (hi1 : i ≤ 255) : SF Try.prog 4 #[lv, .agg #[.int .i64 v.kind, .int .i64 v.p, .int .i64 v.q, .string v.str, .int .i64 v.ref], .int .u8 i] Z [] fun r Bs => r = .bool true ∧ Bs = [] := by
  refine sf_enter Try.func4 93 [(0, lv), (1, .agg #[.int .i64 v.kind, .int .i64 v.p, .int .i64 v.q, .string v.str, .int .i64 v.ref]), (2, .int .u8 i)] (fun w0 => ?_)
  refine k_seq ?_
  refine k_reg ?_
  refine s_box #[.int .i64 v.kind, .int .i64 v.p, .int .i64 v.q, .string v.str, .int .i64 v.ref] (fun g1 => ?_)
  refine s_lt (t_pure (.bool false)) ?_
  refine s_nil ?_
  refine xs_then ?_
  refine k_seq ?_
  refine k_reg ?_
  refine s_lt (t_pure lv) ?_
  refine s_pcall (fun _ h => filled_s (Acc.kn (.zn hL) h)) ?_
  rintro _ _ ⟨b2, v3, M4, rfl, rfl, hM5, hM6⟩
  refine s_lt (t_pure (.tuple #[.pointer (some ⟨b2, 0, none⟩), v3])) ?_
  refine s_lt (t_pure (.pointer (some ⟨b2, 0, none⟩))) ?_
  refine s_lt (t_pure v3) ?_
  refine s_lt (t_pure (.pointer (some ⟨b2, 0, none⟩))) ?_
  refine s_lt (t_pure v3) ?_
  refine s_nil ?_
  refine xs_then ?_
  refine k_seq ?_
  refine k_seq ?_
  refine k_reg ?_
  refine s_lt (t_pure (.pointer (some ⟨b2, 0, none⟩))) ?_
  refine s_lt (t_pure (.bool false)) ?_
  refine s_nil ?_
  refine xs_then ?_
  refine k_false ?_
  refine k_skip ?_
  refine xs_then ?_
  refine k_seq ?_
  refine k_cut (ι := Unit) (fun _ => True) (fun _ => [(2, .int .u8 i), (4, .pointer (some ⟨g1, 0, none⟩)), (6, .bool false), (7, .pointer (some ⟨b2, 0, none⟩)), (8, v3), (29, .bool ((decide ((4106 : Int) < (v.str.size : Int))) || (!(validB v))))]) (fun _ => [stkA 63 b2 M4 1000, own VlT v3 M4, blkA g1 #[.int .i64 v.kind, .int .i64 v.p, .int .i64 v.q, .string v.str, .int .i64 v.ref] 32]) ?_ (fun _ _ => ?_)
  ·
    refine k_reg ?_
    refine s_lt (t_pure (.pointer (some ⟨g1, 3, none⟩))) ?_
    refine s_lt (t_load 2 (.string v.str)) ?_
    refine s_lt (t_kern (.int .i64 (v.str.size : Int))) ?_
    refine s_lt t_cmp ?_
    refine s_lt (t_pure (.bool (decide ((4106 : Int) < (v.str.size : Int))))) ?_
    refine s_fork 25 (decide ((4106 : Int) < (v.str.size : Int))) (fun c7 => ?_) (fun c7 => ?_)
    ·
      have p8 := of_decide_eq_true c7
      refine s_skip ?_
      refine s_skip ?_
      refine s_skip ?_
      refine s_lt (t_pure (.bool true)) ?_
      refine s_nil ?_
      exact xs_cut () trivial (sub_of rfl ⟨⟨rfl, rfl⟩, ⟨⟨rfl, rfl⟩, ⟨⟨rfl, rfl⟩, ⟨⟨rfl, rfl⟩, ⟨⟨rfl, rfl⟩, ⟨⟨rfl, show Value.bool true = Value.bool ((decide ((4106 : Int) < (v.str.size : Int))) || (!(validB v))) by first | (simp only [c7, Bool.true_and, Bool.false_and, Bool.and_true, Bool.and_false, Bool.true_or, Bool.or_true, Bool.false_or, Bool.or_false, Bool.not_true, Bool.not_false]; done) | simp [c7]⟩, trivial⟩⟩⟩⟩⟩⟩) (fun _ h => h.re [0, 0, 0] [])
    ·
      have p9 := of_decide_eq_false c7
      refine s_lt (t_loadA 2 #[.int .i64 v.kind, .int .i64 v.p, .int .i64 v.q, .string v.str, .int .i64 v.ref]) ?_
      refine s_vcall (fun _ h => rvalid_s v) ?_
      rintro _ rfl
      refine s_lt (t_pure (.bool (!(validB v)))) ?_
      refine s_lt (t_pure (.bool (!(validB v)))) ?_
      refine s_nil ?_
      exact xs_cut () trivial (sub_of rfl ⟨⟨rfl, rfl⟩, ⟨⟨rfl, rfl⟩, ⟨⟨rfl, rfl⟩, ⟨⟨rfl, rfl⟩, ⟨⟨rfl, rfl⟩, ⟨⟨rfl, show Value.bool (!(validB v)) = Value.bool ((decide ((4106 : Int) < (v.str.size : Int))) || (!(validB v))) by first | (simp only [c7, Bool.true_and, Bool.false_and, Bool.and_true, Bool.and_false, Bool.true_or, Bool.or_true, Bool.false_or, Bool.or_false, Bool.not_true, Bool.not_false]; done) | simp [c7]⟩, trivial⟩⟩⟩⟩⟩⟩) (fun _ h => h.re [0, 0, 0] [])
  ·
    refine k_cond ((decide ((4106 : Int) < (v.str.size : Int))) || (!(validB v))) (fun c10 => ?_) (fun c10 => ?_)
    ·
      have p11 := c10
      simp only [Bool.and_eq_true, Bool.or_eq_true, Bool.and_eq_false_iff, Bool.or_eq_false_iff, Bool.not_eq_true', Bool.not_eq_false', decide_eq_true_eq, decide_eq_false_iff_not] at p11
      refine k_seq ?_
      refine k_reg ?_
      refine s_vcall (fun _ h => awake_s) ?_
      rintro _ rfl
      refine s_lt (t_pure (.bool true)) ?_
      refine s_nil ?_
      refine xs_then ?_
      refine k_ret ?_
      refine xs_ret ?_
      exact xs_fin [.bool true] [] (SI.tmp 6 SI.nil) (fun _ h => h.re [] [0, 0, 0]) ⟨rfl, rfl⟩
    ·
      obtain ⟨c12, c13⟩ := or_f c10
      have p14 := of_decide_eq_false c12
      have c15 := not_f c13
      refine k_skip ?_
      refine xs_then ?_
      refine k_seq ?_
      refine k_reg ?_
      refine s_lt (t_pure (.int .u8 i)) ?_
      refine s_lt (t_conv i (by rw [IntKind.wrap_i64]; omega) Try.underlying5 Try.underlying3) ?_
      refine s_lt (t_pure v3) ?_
      refine s_lt (t_len VlT_ok Try.underlying22 (.own 1)) ?_
      refine s_lt (t_add (M4.length : Int) 1 (by (try simp only [List.length_nil, List.length_cons, List.length_append, List.length_take, List.length_drop, List.length_set, List.length_replicate]); omega)) ?_
      have ht16 : (0 : Int) < ((M4.length : Int) + 1) := by omega
      have ht17 := Int.emod_nonneg i (b := ((M4.length : Int) + 1)) (by omega); have ht18 := Int.emod_lt_of_pos i ht16
      refine s_lt (Lt.to (v' := .int .i64 (i % ((M4.length : Int) + 1))) (t_rem i ((M4.length : Int) + 1) (by omega)) (congrArg (Value.int .i64) (Int.tmod_eq_emod_of_nonneg (by omega)))) ?_
      obtain ⟨k, hk⟩ : ∃ k : Nat, (k : Int) = i % ((M4.length : Int) + 1) := ⟨(i % ((M4.length : Int) + 1)).toNat, by omega⟩
      rw [← hk]
      refine s_lt (t_add (k : Int) 1 (by (try simp only [List.length_nil, List.length_cons, List.length_append, List.length_take, List.length_drop, List.length_set, List.length_replicate]); omega)) ?_
      refine s_lt (t_pure (.int .i64 ((k : Int) + 1))) ?_
      refine s_nil ?_
      refine xs_then ?_
      refine k_seq ?_
      refine k_seq ?_
      refine k_reg ?_
      refine s_lt (t_pure (.pointer (some ⟨b2, 0, none⟩))) ?_
      refine s_lt (t_loadA 2 #[.int .i64 v.kind, .int .i64 v.p, .int .i64 v.q, .string v.str, .int .i64 v.ref]) ?_
      refine s_call [0] (push_e (L := M4) (lim := 1000) (v := v) (push_fill c15 (by omega))) ?_
      rintro _ _ ⟨rfl, rfl⟩
      refine s_lt (t_cmp (c := false)) ?_
      refine s_lt (t_pure (.bool false)) ?_
      refine s_lt (t_pure (.pointer (some ⟨b2, 0, none⟩))) ?_
      refine s_lt (t_pure (.int .i64 ((k : Int) + 1))) ?_
      refine s_call [0] (ins_e (L := (M4 ++ [v])) (lim := 1000) ((k : Int) + 1) (ends1 M4 v k _ (by omega) (by omega))) ?_
      rintro _ _ ⟨rfl, rfl⟩
      refine s_lt (t_cmp (c := false)) ?_
      refine s_lt (t_pure (.bool false)) ?_
      refine s_nil ?_
      refine xs_then ?_
      refine k_false ?_
      refine k_skip ?_
      refine xs_then ?_
      refine k_seq ?_
      refine k_reg ?_
      refine s_lt (t_pure (.pointer (some ⟨b2, 0, none⟩))) ?_
      refine s_lt (t_pure (.int .i64 ((k : Int) + 1))) ?_
      refine s_call [0] (at_e (L := (insL M4 k v)) (lim := 1000) ((k : Int) + 1) (ends2 M4 v k _ (by omega) (by omega))) ?_
      rintro _ _ ⟨rfl, rfl⟩
      refine s_lt (t_pure (.tuple #[.agg #[.int .i64 v.kind, .int .i64 v.p, .int .i64 v.q, .string v.str, .int .i64 v.ref], .int .i64 0])) ?_
      refine s_lt (t_pure (.agg #[.int .i64 v.kind, .int .i64 v.p, .int .i64 v.q, .string v.str, .int .i64 v.ref])) ?_
      refine s_lt (t_pure (.int .i64 0)) ?_
      refine s_alloc (.agg #[.int .i64 0, .int .i64 0, .int .i64 0, .string ByteArray.empty, .int .i64 0]) #[.int .i64 0, .int .i64 0, .int .i64 0, .string ByteArray.empty, .int .i64 0] (fun g19 => ?_)
      refine s_store 0 #[.int .i64 v.kind, .int .i64 v.p, .int .i64 v.q, .string v.str, .int .i64 v.ref] ?_
      refine s_lt (t_pure (.int .i64 0)) ?_
      refine s_nil ?_
      refine xs_then ?_
      refine k_seq ?_
      refine k_reg ?_
      refine s_lt (t_pure (.pointer (some ⟨b2, 0, none⟩))) ?_
      refine s_lt (t_pure (.int .i64 ((k : Int) + 1))) ?_
      refine s_lt (t_pure v3) ?_
      refine s_lt (t_len VlT_ok Try.underlying22 (.own 2)) ?_
      refine s_lt (t_sub ((k : Int) + 1) (M4.length : Int) (by (try simp only [List.length_nil, List.length_cons, List.length_append, List.length_take, List.length_drop, List.length_set, List.length_replicate]); omega)) ?_
      refine s_lt (t_sub (((k : Int) + 1) - (M4.length : Int)) 2 (by (try simp only [List.length_nil, List.length_cons, List.length_append, List.length_take, List.length_drop, List.length_set, List.length_replicate]); omega)) ?_
      refine s_call [1] (at_e (L := (insL M4 k v)) (lim := 1000) ((((k : Int) + 1) - (M4.length : Int)) - 2) (ends3 M4 v k _ (by omega) (by omega))) ?_
      rintro _ _ ⟨rfl, rfl⟩
      refine s_lt (t_pure (.tuple #[.agg #[.int .i64 v.kind, .int .i64 v.p, .int .i64 v.q, .string v.str, .int .i64 v.ref], .int .i64 0])) ?_
      refine s_lt (t_pure (.agg #[.int .i64 v.kind, .int .i64 v.p, .int .i64 v.q, .string v.str, .int .i64 v.ref])) ?_
      refine s_lt (t_pure (.int .i64 0)) ?_
      refine s_alloc (.agg #[.int .i64 0, .int .i64 0, .int .i64 0, .string ByteArray.empty, .int .i64 0]) #[.int .i64 0, .int .i64 0, .int .i64 0, .string ByteArray.empty, .int .i64 0] (fun g20 => ?_)
      refine s_store 0 #[.int .i64 v.kind, .int .i64 v.p, .int .i64 v.q, .string v.str, .int .i64 v.ref] ?_
      refine s_lt (t_pure (.int .i64 0)) ?_
      refine s_nil ?_
      refine xs_then ?_
      refine k_seq ?_
      refine k_seq ?_
      refine k_reg ?_
      refine s_lt (t_pure (.int .i64 0)) ?_
      refine s_lt (t_cmp (c := false)) ?_
      refine s_lt (t_pure (.bool false)) ?_
      refine s_lt (t_pure (.int .i64 0)) ?_
      refine s_lt (t_cmp (c := false)) ?_
      refine s_lt (t_pure (.bool false)) ?_
      refine s_lt (t_pure (.bool false)) ?_
      refine s_lt (t_loadA 2 #[.int .i64 v.kind, .int .i64 v.p, .int .i64 v.q, .string v.str, .int .i64 v.ref]) ?_
      refine s_lt (t_loadA 4 #[.int .i64 v.kind, .int .i64 v.p, .int .i64 v.q, .string v.str, .int .i64 v.ref]) ?_
      refine s_lt (Lt.to (t_eqS (fun w => (eqVlT v v w).2)) (congrArg Value.bool ((congrArg Bool.not (decide_eq_true rfl : (decide (v = v)) = true)).trans rfl : (!(decide (v = v))) = false))) ?_
      refine s_lt (t_pure (.bool false)) ?_
      refine s_lt (t_pure (.bool false)) ?_
      refine s_lt (t_loadA 0 #[.int .i64 v.kind, .int .i64 v.p, .int .i64 v.q, .string v.str, .int .i64 v.ref]) ?_
      refine s_lt (t_loadA 4 #[.int .i64 v.kind, .int .i64 v.p, .int .i64 v.q, .string v.str, .int .i64 v.ref]) ?_
      refine s_lt (Lt.to (t_eqS (fun w => (eqVlT v v w).2)) (congrArg Value.bool ((congrArg Bool.not (decide_eq_true rfl : (decide (v = v)) = true)).trans rfl : (!(decide (v = v))) = false))) ?_
      refine s_lt (t_pure (.bool false)) ?_
      refine s_lt (t_pure (.bool false)) ?_
      refine s_lt (t_pure (.pointer (some ⟨b2, 0, none⟩))) ?_
      refine s_lt (t_pure (.int .i64 ((k : Int) + 1))) ?_
      refine s_call [1] (rem_e (L := (insL M4 k v)) (lim := 1000) ((k : Int) + 1) (ends4 M4 v k _ (by omega) (by omega))) ?_
      rintro _ _ ⟨rfl, rfl⟩
      refine s_lt (t_cmp (c := false)) ?_
      refine s_lt (t_pure (.bool false)) ?_
      refine s_nil ?_
      refine xs_then ?_
      refine k_false ?_
      refine k_skip ?_
      refine xs_then ?_
      refine k_seq ?_
      refine k_reg ?_
      refine s_lt (t_pure (.pointer (some ⟨b2, 0, none⟩))) ?_
      refine s_call [0] (list_s) ?_
      rintro v21 _ rfl
      refine s_lt (t_pure v3) ?_
      refine s_vcall (fun _ h => same_s (Acc.kn (.own 0) h) (Acc.kn (.own 4) h)) ?_
      rintro u23 e22
      obtain rfl : u23 = .bool true := e22.trans (congrArg Value.bool (decide_eq_true rfl))
      refine s_lt (t_pure (.bool true)) ?_
      refine s_vcall (fun _ h => awake_s) ?_
      rintro _ rfl
      refine s_lt (t_pure (.bool true)) ?_
      refine s_lt (t_pure (.bool true)) ?_
      refine s_nil ?_
      refine xs_then ?_
      refine k_ret ?_
      exact xs_fin [.bool true] [] (SI.tmp 6 SI.nil) (fun _ h => h.re [] [0, 0, 0, 0, 0, 0]) ⟨rfl, rfl⟩
end Go.Proofs.Ytnhbejiakfaohaa
