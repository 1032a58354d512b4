/-
  StackShares, StackCalls, StackBounds: the walks of the statements.
-/
import Derived.Test.YtnhbejiakfaohaaW7
import Derived.Test.YtnhbejiakfaohaaL5
set_option linter.unusedSimpArgs false
set_option linter.unusedVariables false
set_option maxRecDepth 100000
namespace Go.Proofs.Ytnhbejiakfaohaa
open Go.Hp Go.J Go.S
open Go.Mem (Ty KTy blk elemAt pre suf blk_pre blk_suf aget aset strK aggDesc)
theorem shares_s {Z : Zone} {lv : Value} {l : List Vl} (hL : Kn Z VlT lv l) (n : Int) (hi0 : 0 ≤ n) (hi1 : n ≤ 255) : SF Try.prog 5 #[lv, .int .u8 n] Z [] fun r Bs => r = .bool true ∧ Bs = [] := by
  refine sf_enter Try.func5 63 [(0, lv), (1, .int .u8 n)] (fun w0 => ?_)
  refine k_seq ?_
  refine k_reg ?_
  refine s_lt (t_pure (.bool false)) ?_
  refine s_nil ?_
  refine xs_then ?_
  refine k_seq ?_
  refine k_reg ?_
  refine s_lt (t_pure lv) ?_
  refine s_pcall (fun _ h => filled_s (Acc.kn (.zn hL) h)) ?_
  rintro _ _ ⟨b1, v2, M3, rfl, rfl, hM4, hM5⟩
  refine s_lt (t_pure (.tuple #[.pointer (some ⟨b1, 0, none⟩), v2])) ?_
  refine s_lt (t_pure (.pointer (some ⟨b1, 0, none⟩))) ?_
  refine s_lt (t_pure v2) ?_
  refine s_lt (t_pure (.pointer (some ⟨b1, 0, none⟩))) ?_
  refine s_lt (t_pure v2) ?_
  refine s_nil ?_
  refine xs_then ?_
  refine k_seq ?_
  refine k_seq ?_
  refine k_reg ?_
  refine s_lt (t_pure (.pointer (some ⟨b1, 0, none⟩))) ?_
  refine s_lt (t_pure (.bool false)) ?_
  refine s_nil ?_
  refine xs_then ?_
  refine k_false ?_
  refine k_skip ?_
  refine xs_then ?_
  refine k_seq ?_
  refine k_reg ?_
  refine s_lt (t_pure (.pointer (some ⟨b1, 0, none⟩))) ?_
  refine s_call [0] (list_s) ?_
  rintro v6 _ rfl
  refine s_lt (t_pure v6) ?_
  refine s_nil ?_
  refine xs_then ?_
  refine k_seq ?_
  refine k_seq ?_
  refine k_reg ?_
  refine s_lt (t_pure v2) ?_
  refine s_lt (t_len VlT_ok Try.underlying22 (.own 2)) ?_
  refine s_lt t_cmp ?_
  refine s_nil ?_
  refine xs_then ?_
  refine k_cond (decide ((M3.length : Int) = 0)) (fun c7 => ?_) (fun c7 => ?_)
  ·
    have p8 := of_decide_eq_true c7
    refine k_seq ?_
    refine k_reg ?_
    refine s_lt (t_pure v6) ?_
    refine s_lt (t_len VlT_ok Try.underlying22 (.own 0)) ?_
    refine s_lt (Lt.to t_cmp (congrArg Value.bool (decide_eq_true (by omega) : (decide ((M3.length : Int) = 0)) = true))) ?_
    refine s_lt (t_pure (.bool true)) ?_
    refine s_vcall (fun _ h => awake_s) ?_
    rintro _ rfl
    refine s_lt (t_pure (.bool true)) ?_
    refine s_lt (t_pure (.bool true)) ?_
    refine s_nil ?_
    refine xs_then ?_
    refine k_ret ?_
    refine xs_ret ?_
    exact xs_fin [.bool true] [] (SI.tmp 4 SI.nil) (fun _ h => h.re [] [0, 0, 0]) ⟨rfl, rfl⟩
  ·
    have p9 := of_decide_eq_false c7
    refine k_skip ?_
    refine xs_then ?_
    refine k_seq ?_
    refine k_reg ?_
    refine s_lt (t_pure (.int .u8 n)) ?_
    refine s_lt (t_conv n (by rw [IntKind.wrap_i64]; omega) Try.underlying5 Try.underlying3) ?_
    refine s_lt (t_pure v2) ?_
    refine s_lt (t_len VlT_ok Try.underlying22 (.own 2)) ?_
    have ht10 : (0 : Int) < (M3.length : Int) := by omega
    have ht11 := Int.emod_nonneg n (b := (M3.length : Int)) (by omega); have ht12 := Int.emod_lt_of_pos n ht10
    refine s_lt (Lt.to (v' := .int .i64 (n % (M3.length : Int))) (t_rem n (M3.length : Int) (by omega)) (congrArg (Value.int .i64) (Int.tmod_eq_emod_of_nonneg (by omega)))) ?_
    obtain ⟨k, hk⟩ : ∃ k : Nat, (k : Int) = n % (M3.length : Int) := ⟨(n % (M3.length : Int)).toNat, by omega⟩
    rw [← hk]
    refine s_lt (t_pure (.int .i64 (k : Int))) ?_
    refine s_nil ?_
    refine xs_then ?_
    refine k_seq ?_
    refine k_reg ?_
    refine s_lt (t_pure v6) ?_
    refine s_lt (t_pure (.int .i64 (k : Int))) ?_
    refine s_vcall (fun _ h => number_s 77) ?_
    rintro _ rfl
    refine s_lt (t_index VlT_ok Try.underlying22 (.own 0) (k : Int) k (by omega) (by (try simp only [List.length_nil, List.length_cons, List.length_append, List.length_take, List.length_drop, List.length_set, List.length_replicate]); omega) (by omega)) ?_
    obtain ⟨y13, hy14⟩ : ∃ y, M3[k]? = some y := ⟨_, List.getElem?_eq_getElem (by (try simp only [List.length_nil, List.length_cons, List.length_append, List.length_take, List.length_drop, List.length_set, List.length_replicate]); omega)⟩
    refine s_storeE 0 0 (numV 77) VlT_ok hy14 ?_
    refine s_nil ?_
    refine xs_then ?_
    refine k_seq ?_
    refine k_seq ?_
    refine k_reg ?_
    refine s_lt (t_pure (.pointer (some ⟨b1, 0, none⟩))) ?_
    refine s_call [1] (list_s) ?_
    rintro v15 _ rfl
    refine s_lt (t_pure v2) ?_
    refine s_vcall (fun _ h => same_s (Acc.kn (.own 0) h) (Acc.kn (.own 3) h)) ?_
    rintro u17 e16
    obtain rfl : u17 = .bool true := e16.trans (congrArg Value.bool (decide_eq_true rfl))
    refine s_lt (t_pure (.bool false)) ?_
    refine s_nil ?_
    refine xs_then ?_
    refine k_false ?_
    refine k_skip ?_
    refine xs_then ?_
    refine k_seq ?_
    refine k_reg ?_
    refine s_lt (t_pure (.pointer (some ⟨b1, 0, none⟩))) ?_
    refine s_call [1] (list_s) ?_
    rintro v18 _ rfl
    refine s_lt (t_pure v18) ?_
    refine s_nil ?_
    refine xs_then ?_
    refine k_seq ?_
    refine k_reg ?_
    refine s_lt (t_pure (.pointer (some ⟨b1, 0, none⟩))) ?_
    refine s_lt (t_pure (.int .i64 (k : Int))) ?_
    refine s_lt (t_add (k : Int) 1 (by (try simp only [List.length_nil, List.length_cons, List.length_append, List.length_take, List.length_drop, List.length_set, List.length_replicate]); omega)) ?_
    refine s_vcall (fun _ h => number_s 78) ?_
    rintro _ rfl
    refine s_call [1] (put_e (L := M3) (lim := 1000) ((k : Int) + 1) (numV 78) (put_of (k := k) (by omega) (by omega) (num_valid (by omega) (by omega)))) ?_
    rintro _ _ ⟨rfl, rfl⟩
    refine s_lt (t_cmp (c := true)) ?_
    refine s_lt (t_pure (.bool true)) ?_
    refine s_lt (t_pure (.pointer (some ⟨b1, 0, none⟩))) ?_
    refine s_call [0] (setTop_e (L := (M3.set k (numV 78))) (lim := 1000) 0 (setTop0 _)) ?_
    rintro _ _ ⟨rfl, rfl⟩
    refine s_lt (t_cmp (c := true)) ?_
    refine s_lt (t_pure (.bool true)) ?_
    refine s_lt (t_pure (.bool true)) ?_
    refine s_lt (t_pure v18) ?_
    refine s_lt (t_pure v2) ?_
    refine s_vcall (fun _ h => same_s (Acc.kn (.own 1) h) (Acc.kn (.own 4) h)) ?_
    rintro u20 e19
    obtain rfl : u20 = .bool true := e19.trans (congrArg Value.bool (decide_eq_true rfl))
    refine s_lt (t_pure (.bool true)) ?_
    refine s_lt (t_pure (.bool true)) ?_
    refine s_vcall (fun _ h => awake_s) ?_
    rintro _ rfl
    refine s_lt (t_pure (.bool true)) ?_
    refine s_lt (t_pure (.bool true)) ?_
    refine s_nil ?_
    refine xs_then ?_
    refine k_ret ?_
    exact xs_fin [.bool true] [] (SI.tmp 4 SI.nil) (fun _ h => h.re [] [0, 0, 0, 0, 0]) ⟨rfl, rfl⟩
theorem calls_s {Z : Zone} {lv : Value} {l : List Cl} (hL : Kn Z ClT lv l) (limit : Int) : SF Try.prog 6 #[.int .i64 limit, lv] Z [] fun r Bs => r = .bool true ∧ Bs = [] := by
  refine sf_enter Try.func6 94 [(0, .int .i64 limit), (1, lv)] (fun w0 => ?_)
  refine k_fact (fun H h => (hL.get h).len_le) (fun lL => ?_)
  refine k_seq ?_
  refine k_reg ?_
  refine s_lt (t_pure (.bool false)) ?_
  refine s_nil ?_
  refine xs_then ?_
  refine k_seq ?_
  refine k_seq ?_
  refine k_reg ?_
  refine s_lt (t_pure lv) ?_
  refine s_vcall (fun _ h => long_s (Acc.kn (.zn hL) h)) ?_
  rintro _ ⟨x1, rfl, hx2⟩
  refine s_nil ?_
  refine xs_then ?_
  refine k_cond x1 (fun c3 => ?_) (fun c3 => ?_)
  ·
    refine k_seq ?_
    refine k_reg ?_
    refine s_vcall (fun _ h => awake_s) ?_
    rintro _ rfl
    refine s_lt (t_pure (.bool true)) ?_
    refine s_nil ?_
    refine xs_then ?_
    refine k_ret ?_
    refine xs_ret ?_
    exact xs_fin [.bool true] [] (SI.tmp 4 SI.nil) (fun _ h => h.re [] []) ⟨rfl, rfl⟩
  ·
    have hll := hx2 c3
    refine k_skip ?_
    refine xs_then ?_
    refine k_seq ?_
    refine k_reg ?_
    refine s_lt (t_pure (.int .i64 limit)) ?_
    refine s_pcall (fun _ h => new_s limit) ?_
    rintro _ _ (⟨hn, rfl, rfl⟩ | ⟨b4, hn1, hn2, rfl, rfl⟩)
    ·
      refine s_lt (t_pure (.tuple #[.pointer none, .int .i64 2])) ?_
      refine s_lt (t_pure (.pointer none)) ?_
      refine s_lt (t_pure (.int .i64 2)) ?_
      refine s_lt (t_pure (.pointer none)) ?_
      refine s_lt (t_pure (.int .i64 2)) ?_
      refine s_nil ?_
      refine xs_then ?_
      refine k_seq ?_
      refine k_reg ?_
      refine s_lt (t_pure (.int .i64 limit)) ?_
      refine s_pcall (fun _ h => rnew_s limit) ?_
      rintro _ _ (⟨hm, rfl, rfl⟩ | ⟨b5, hm1, hm2, rfl, rfl⟩)
      rotate_left
      · exact absurd ⟨hm1, hm2⟩ hn
      refine s_lt (t_pure (.tuple #[.pointer none, .int .i64 2])) ?_
      refine s_lt (t_pure (.pointer none)) ?_
      refine s_lt (t_pure (.int .i64 2)) ?_
      refine s_lt (t_pure (.pointer none)) ?_
      refine s_lt (t_pure (.int .i64 2)) ?_
      refine s_nil ?_
      refine xs_then ?_
      refine k_seq ?_
      refine k_seq ?_
      refine k_reg ?_
      refine s_lt (t_pure (.int .i64 2)) ?_
      refine s_lt (t_pure (.int .i64 2)) ?_
      refine s_lt (t_cmp (c := false)) ?_
      refine s_lt (t_pure (.bool false)) ?_
      refine s_lt (t_pure (.pointer none)) ?_
      refine s_lt (t_pure (.bool true)) ?_
      refine s_lt (t_pure (.pointer none)) ?_
      refine s_lt (t_pure (.bool true)) ?_
      refine s_lt (t_pure (.bool false)) ?_
      refine s_lt (t_pure (.bool false)) ?_
      refine s_nil ?_
      refine xs_then ?_
      refine k_false ?_
      refine k_skip ?_
      refine xs_then ?_
      refine k_seq ?_
      refine k_seq ?_
      refine k_reg ?_
      refine s_lt (t_pure lv) ?_
      refine s_lt (t_len ClT_ok Try.underlying45 (.zn hL)) ?_
      refine s_lt (t_pure (.int .i64 0)) ?_
      refine s_nil ?_
      refine xs_then ?_
      refine k_block ?_
      refine k_loop (ι := Nat) (fun i => i ≤ l.length) (fun i => [(1, lv), (4, .bool false), (5, .pointer none), (7, .pointer none), (40, .int .i64 (l.length : Int)), (41, .int .i64 (i : Int))]) (fun i => []) (fun i => l.length - i) 0 (Nat.zero_le _) (sub_of rfl ⟨⟨rfl, rfl⟩, ⟨⟨rfl, rfl⟩, ⟨⟨rfl, rfl⟩, ⟨⟨rfl, rfl⟩, ⟨⟨rfl, rfl⟩, ⟨⟨rfl, rfl⟩, trivial⟩⟩⟩⟩⟩⟩) (fun _ h => h.re [] []) ?_
      rintro i hi6
      show SK _ _ _ _ _ [(1, lv), (4, .bool false), (5, .pointer none), (7, .pointer none), (40, .int .i64 (l.length : Int)), (41, .int .i64 (i : Int))] _ []
      refine k_seq ?_
      refine k_reg ?_
      refine s_lt t_cmp ?_
      refine s_nil ?_
      refine xs_then ?_
      refine k_seq ?_
      refine k_cond (decide ((i : Int) < (l.length : Int))) (fun c7 => ?_) (fun c7 => ?_)
      ·
        have p8 := of_decide_eq_true c7
        refine k_skip ?_
        refine xs_then ?_
        refine k_seq ?_
        refine k_block ?_
        refine k_seq ?_
        refine k_reg ?_
        refine s_lt (t_pure (.int .i64 (i : Int))) ?_
        refine s_lt (t_pure (.int .i64 (i : Int))) ?_
        refine s_nil ?_
        refine xs_then ?_
        refine k_seq ?_
        refine k_reg ?_
        refine s_lt (t_pure (.pointer none)) ?_
        refine s_lt (t_pure lv) ?_
        refine s_lt (t_pure (.int .i64 (i : Int))) ?_
        refine s_lt (t_index ClT_ok Try.underlying45 (.zn hL) (i : Int) i (by omega) (by (try simp only [List.length_nil, List.length_cons, List.length_append, List.length_take, List.length_drop, List.length_set, List.length_replicate]); omega) (by omega)) ?_
        obtain ⟨y9, hy10⟩ : ∃ y, l[i]? = some y := ⟨_, List.getElem?_eq_getElem (by (try simp only [List.length_nil, List.length_cons, List.length_append, List.length_take, List.length_drop, List.length_set, List.length_replicate]); omega)⟩
        refine s_lt (t_loadE ClT_ok (.zn hL) hy10) ?_
        refine s_vcall (fun _ h => prog_n y9) ?_
        rintro _ rfl
        refine s_lt (t_pure (.tuple #[.int .i64 0, .agg #[.int .i64 zVl.kind, .int .i64 zVl.p, .int .i64 zVl.q, .string zVl.str, .int .i64 zVl.ref], .int .i64 1])) ?_
        refine s_lt (t_pure (.int .i64 0)) ?_
        refine s_lt (t_pure (.agg #[.int .i64 zVl.kind, .int .i64 zVl.p, .int .i64 zVl.q, .string zVl.str, .int .i64 zVl.ref])) ?_
        refine s_lt (t_pure (.int .i64 1)) ?_
        refine s_alloc (.agg #[.int .i64 0, .int .i64 0, .int .i64 0, .string ByteArray.empty, .int .i64 0]) #[.int .i64 0, .int .i64 0, .int .i64 0, .string ByteArray.empty, .int .i64 0] (fun g11 => ?_)
        refine s_lt (t_pure (.int .i64 0)) ?_
        refine s_store 0 #[.int .i64 zVl.kind, .int .i64 zVl.p, .int .i64 zVl.q, .string zVl.str, .int .i64 zVl.ref] ?_
        refine s_lt (t_pure (.int .i64 1)) ?_
        refine s_nil ?_
        refine xs_then ?_
        refine k_seq ?_
        refine k_reg ?_
        refine s_lt (t_pure (.pointer none)) ?_
        refine s_lt (t_pure lv) ?_
        refine s_lt (t_pure (.int .i64 (i : Int))) ?_
        refine s_lt (t_index ClT_ok Try.underlying45 (.zn hL) (i : Int) i (by omega) (by (try simp only [List.length_nil, List.length_cons, List.length_append, List.length_take, List.length_drop, List.length_set, List.length_replicate]); omega) (by omega)) ?_
        refine s_lt (t_loadE ClT_ok (.zn hL) hy10) ?_
        refine s_vcall (fun _ h => doc_n y9) ?_
        rintro _ rfl
        refine s_lt (t_pure (.tuple #[.int .i64 0, .agg #[.int .i64 zVl.kind, .int .i64 zVl.p, .int .i64 zVl.q, .string zVl.str, .int .i64 zVl.ref], .int .i64 1])) ?_
        refine s_lt (t_pure (.int .i64 0)) ?_
        refine s_lt (t_pure (.agg #[.int .i64 zVl.kind, .int .i64 zVl.p, .int .i64 zVl.q, .string zVl.str, .int .i64 zVl.ref])) ?_
        refine s_lt (t_pure (.int .i64 1)) ?_
        refine s_alloc (.agg #[.int .i64 0, .int .i64 0, .int .i64 0, .string ByteArray.empty, .int .i64 0]) #[.int .i64 0, .int .i64 0, .int .i64 0, .string ByteArray.empty, .int .i64 0] (fun g12 => ?_)
        refine s_lt (t_pure (.int .i64 0)) ?_
        refine s_store 0 #[.int .i64 zVl.kind, .int .i64 zVl.p, .int .i64 zVl.q, .string zVl.str, .int .i64 zVl.ref] ?_
        refine s_lt (t_pure (.int .i64 1)) ?_
        refine s_nil ?_
        refine xs_then ?_
        refine k_seq ?_
        refine k_reg ?_
        refine s_lt (t_pure (.int .i64 0)) ?_
        refine s_lt (t_pure (.int .i64 0)) ?_
        refine s_lt (t_cmp (c := false)) ?_
        refine s_lt (t_pure (.bool false)) ?_
        refine s_lt (t_loadA 1 #[.int .i64 zVl.kind, .int .i64 zVl.p, .int .i64 zVl.q, .string zVl.str, .int .i64 zVl.ref]) ?_
        refine s_lt (t_loadA 0 #[.int .i64 zVl.kind, .int .i64 zVl.p, .int .i64 zVl.q, .string zVl.str, .int .i64 zVl.ref]) ?_
        refine s_lt (Lt.to (t_eqS (fun w => (eqVlT zVl zVl w).2)) (congrArg Value.bool ((congrArg Bool.not (decide_eq_true rfl : (decide (zVl = zVl)) = true)).trans rfl : (!(decide (zVl = zVl))) = false))) ?_
        refine s_lt (t_pure (.bool false)) ?_
        refine s_lt (t_pure (.bool false)) ?_
        refine s_lt (t_pure (.int .i64 1)) ?_
        refine s_lt (t_pure (.int .i64 1)) ?_
        refine s_lt (t_cmp (c := false)) ?_
        refine s_lt (t_pure (.bool false)) ?_
        refine s_lt (t_pure (.bool false)) ?_
        refine s_lt (t_pure (.pointer none)) ?_
        refine s_vcall (fun _ h => top_n) ?_
        rintro _ rfl
        refine s_lt (t_pure (.pointer none)) ?_
        refine s_vcall (fun _ h => rtop_n) ?_
        rintro _ rfl
        refine s_lt (t_cmp (c := false)) ?_
        refine s_lt (t_pure (.bool false)) ?_
        refine s_lt (t_pure (.bool false)) ?_
        refine s_lt (t_pure (.pointer none)) ?_
        refine s_pcall (fun _ h => list_n) ?_
        rintro v13 _ rfl
        refine s_lt (t_pure (.pointer none)) ?_
        refine s_pcall (fun _ h => rlist_n) ?_
        rintro v14 _ rfl
        refine s_vcall (fun _ h => same_s (Acc.kn (.own 1) h) (Acc.kn (.own 0) h)) ?_
        rintro u16 e15
        obtain rfl : u16 = .bool true := e15.trans (congrArg Value.bool (decide_eq_true rfl))
        refine s_lt (t_pure (.bool false)) ?_
        refine s_lt (t_pure (.bool false)) ?_
        refine s_nil ?_
        refine xs_then ?_
        refine k_false ?_
        refine k_skip ?_
        refine xs_block ?_
        refine xs_then ?_
        refine k_reg ?_
        refine s_lt (t_add (i : Int) 1 (by (try simp only [List.length_nil, List.length_cons, List.length_append, List.length_take, List.length_drop, List.length_set, List.length_replicate]); omega)) ?_
        refine s_lt (t_pure (.int .i64 ((i : Int) + 1))) ?_
        refine s_nil ?_
        exact xs_round (i + 1) (by omega) (by omega) (sub_of rfl ⟨⟨rfl, rfl⟩, ⟨⟨rfl, rfl⟩, ⟨⟨rfl, rfl⟩, ⟨⟨rfl, rfl⟩, ⟨⟨rfl, rfl⟩, ⟨⟨rfl, rfl⟩, trivial⟩⟩⟩⟩⟩⟩) (fun _ h => h.re [] [0, 0, 0, 0])
      ·
        have p17 := of_decide_eq_false c7
        refine k_exit ?_
        refine xs_exit ?_
        refine xs_exit ?_
        refine xs_here ?_
        refine xs_then ?_
        refine k_seq ?_
        refine k_reg ?_
        refine s_vcall (fun _ h => awake_s) ?_
        rintro _ rfl
        refine s_lt (t_pure (.bool true)) ?_
        refine s_nil ?_
        refine xs_then ?_
        refine k_ret ?_
        exact xs_fin [.bool true] [] (SI.tmp 4 SI.nil) (fun _ h => h.re [] []) ⟨rfl, rfl⟩
    ·
      refine s_lt (t_pure (.tuple #[.pointer (some ⟨b4, 0, none⟩), .int .i64 0])) ?_
      refine s_lt (t_pure (.pointer (some ⟨b4, 0, none⟩))) ?_
      refine s_lt (t_pure (.int .i64 0)) ?_
      refine s_lt (t_pure (.pointer (some ⟨b4, 0, none⟩))) ?_
      refine s_lt (t_pure (.int .i64 0)) ?_
      refine s_nil ?_
      refine xs_then ?_
      refine k_seq ?_
      refine k_reg ?_
      refine s_lt (t_pure (.int .i64 limit)) ?_
      refine s_pcall (fun _ h => rnew_s limit) ?_
      rintro _ _ (⟨hm, rfl, rfl⟩ | ⟨b18, hm1, hm2, rfl, rfl⟩)
      · exact absurd ⟨hn1, hn2⟩ hm
      refine s_lt (t_pure (.tuple #[.pointer (some ⟨b18, 0, none⟩), .int .i64 0])) ?_
      refine s_lt (t_pure (.pointer (some ⟨b18, 0, none⟩))) ?_
      refine s_lt (t_pure (.int .i64 0)) ?_
      refine s_lt (t_pure (.pointer (some ⟨b18, 0, none⟩))) ?_
      refine s_lt (t_pure (.int .i64 0)) ?_
      refine s_nil ?_
      refine xs_then ?_
      refine k_seq ?_
      refine k_seq ?_
      refine k_reg ?_
      refine s_lt (t_pure (.int .i64 0)) ?_
      refine s_lt (t_pure (.int .i64 0)) ?_
      refine s_lt (t_cmp (c := false)) ?_
      refine s_lt (t_pure (.bool false)) ?_
      refine s_lt (t_pure (.pointer (some ⟨b4, 0, none⟩))) ?_
      refine s_lt (t_pure (.bool false)) ?_
      refine s_lt (t_pure (.pointer (some ⟨b18, 0, none⟩))) ?_
      refine s_lt (t_pure (.bool false)) ?_
      refine s_lt (t_pure (.bool false)) ?_
      refine s_lt (t_pure (.bool false)) ?_
      refine s_nil ?_
      refine xs_then ?_
      refine k_false ?_
      refine k_skip ?_
      refine xs_then ?_
      refine k_seq ?_
      refine k_seq ?_
      refine k_reg ?_
      refine s_lt (t_pure lv) ?_
      refine s_lt (t_len ClT_ok Try.underlying45 (.zn hL)) ?_
      refine s_lt (t_pure (.int .i64 0)) ?_
      refine s_nil ?_
      refine xs_then ?_
      refine k_block ?_
      refine k_loop (ι := Nat × List Vl) (fun (i, L) => i ≤ l.length ∧ okL L) (fun (i, L) => [(1, lv), (4, .bool false), (5, .pointer (some ⟨b4, 0, none⟩)), (7, .pointer (some ⟨b18, 0, none⟩)), (40, .int .i64 (l.length : Int)), (41, .int .i64 (i : Int))]) (fun (i, L) => [stkA 68 b18 L limit, stkA 63 b4 L limit]) (fun (i, L) => l.length - i) (0, []) ⟨Nat.zero_le _, fun _ h => by cases h⟩ (sub_of rfl ⟨⟨rfl, rfl⟩, ⟨⟨rfl, rfl⟩, ⟨⟨rfl, rfl⟩, ⟨⟨rfl, rfl⟩, ⟨⟨rfl, rfl⟩, ⟨⟨rfl, rfl⟩, trivial⟩⟩⟩⟩⟩⟩) (fun _ h => h.re [0, 0] []) ?_
      rintro ⟨i, L⟩ hi19
      replace hi19 : i ≤ l.length ∧ okL L := hi19
      show SK _ _ _ _ _ [(1, lv), (4, .bool false), (5, .pointer (some ⟨b4, 0, none⟩)), (7, .pointer (some ⟨b18, 0, none⟩)), (40, .int .i64 (l.length : Int)), (41, .int .i64 (i : Int))] _ [stkA 68 b18 L limit, stkA 63 b4 L limit]
      obtain ⟨hi, hok⟩ := hi19
      refine k_fact (fun H h => stk_len h) (fun hl => ?_)
      obtain ⟨_, _, hln⟩ := hl
      have hpl := fun c => prog_len (c := c) hln
      refine k_seq ?_
      refine k_reg ?_
      refine s_lt t_cmp ?_
      refine s_nil ?_
      refine xs_then ?_
      refine k_seq ?_
      refine k_cond (decide ((i : Int) < (l.length : Int))) (fun c20 => ?_) (fun c20 => ?_)
      ·
        have p21 := of_decide_eq_true c20
        refine k_skip ?_
        refine xs_then ?_
        refine k_seq ?_
        refine k_block ?_
        refine k_seq ?_
        refine k_reg ?_
        refine s_lt (t_pure (.int .i64 (i : Int))) ?_
        refine s_lt (t_pure (.int .i64 (i : Int))) ?_
        refine s_nil ?_
        refine xs_then ?_
        refine k_seq ?_
        refine k_reg ?_
        refine s_lt (t_pure (.pointer (some ⟨b4, 0, none⟩))) ?_
        refine s_lt (t_pure lv) ?_
        refine s_lt (t_pure (.int .i64 (i : Int))) ?_
        refine s_lt (t_index ClT_ok Try.underlying45 (.zn hL) (i : Int) i (by omega) (by (try simp only [List.length_nil, List.length_cons, List.length_append, List.length_take, List.length_drop, List.length_set, List.length_replicate]); omega) (by omega)) ?_
        obtain ⟨y22, hy23⟩ : ∃ y, l[i]? = some y := ⟨_, List.getElem?_eq_getElem (by (try simp only [List.length_nil, List.length_cons, List.length_append, List.length_take, List.length_drop, List.length_set, List.length_replicate]); omega)⟩
        refine s_lt (t_loadE ClT_ok (.zn hL) hy23) ?_
        refine s_call [1] (prog_s y22) ?_
        rintro _ _ ⟨rfl, rfl⟩
        refine s_lt (t_pure (.tuple #[.int .i64 ((progR L limit y22).1.1), .agg #[.int .i64 (((progR L limit y22).1.2.1).kind), .int .i64 (((progR L limit y22).1.2.1).p), .int .i64 (((progR L limit y22).1.2.1).q), .string (((progR L limit y22).1.2.1).str), .int .i64 (((progR L limit y22).1.2.1).ref)], .int .i64 ((progR L limit y22).1.2.2)])) ?_
        refine s_lt (t_pure (.int .i64 ((progR L limit y22).1.1))) ?_
        refine s_lt (t_pure (.agg #[.int .i64 (((progR L limit y22).1.2.1).kind), .int .i64 (((progR L limit y22).1.2.1).p), .int .i64 (((progR L limit y22).1.2.1).q), .string (((progR L limit y22).1.2.1).str), .int .i64 (((progR L limit y22).1.2.1).ref)])) ?_
        refine s_lt (t_pure (.int .i64 ((progR L limit y22).1.2.2))) ?_
        refine s_alloc (.agg #[.int .i64 0, .int .i64 0, .int .i64 0, .string ByteArray.empty, .int .i64 0]) #[.int .i64 0, .int .i64 0, .int .i64 0, .string ByteArray.empty, .int .i64 0] (fun g24 => ?_)
        refine s_lt (t_pure (.int .i64 ((progR L limit y22).1.1))) ?_
        refine s_store 0 #[.int .i64 (((progR L limit y22).1.2.1).kind), .int .i64 (((progR L limit y22).1.2.1).p), .int .i64 (((progR L limit y22).1.2.1).q), .string (((progR L limit y22).1.2.1).str), .int .i64 (((progR L limit y22).1.2.1).ref)] ?_
        refine s_lt (t_pure (.int .i64 ((progR L limit y22).1.2.2))) ?_
        refine s_nil ?_
        refine xs_then ?_
        refine k_seq ?_
        refine k_reg ?_
        refine s_lt (t_pure (.pointer (some ⟨b18, 0, none⟩))) ?_
        refine s_lt (t_pure lv) ?_
        refine s_lt (t_pure (.int .i64 (i : Int))) ?_
        refine s_lt (t_index ClT_ok Try.underlying45 (.zn hL) (i : Int) i (by omega) (by (try simp only [List.length_nil, List.length_cons, List.length_append, List.length_take, List.length_drop, List.length_set, List.length_replicate]); omega) (by omega)) ?_
        refine s_lt (t_loadE ClT_ok (.zn hL) hy23) ?_
        refine s_call [2] (doc_e y22 (hok)) ?_
        rintro _ _ ⟨rfl, rfl⟩
        refine s_lt (t_pure (.tuple #[.int .i64 ((progR L limit y22).1.1), .agg #[.int .i64 (((progR L limit y22).1.2.1).kind), .int .i64 (((progR L limit y22).1.2.1).p), .int .i64 (((progR L limit y22).1.2.1).q), .string (((progR L limit y22).1.2.1).str), .int .i64 (((progR L limit y22).1.2.1).ref)], .int .i64 ((progR L limit y22).1.2.2)])) ?_
        refine s_lt (t_pure (.int .i64 ((progR L limit y22).1.1))) ?_
        refine s_lt (t_pure (.agg #[.int .i64 (((progR L limit y22).1.2.1).kind), .int .i64 (((progR L limit y22).1.2.1).p), .int .i64 (((progR L limit y22).1.2.1).q), .string (((progR L limit y22).1.2.1).str), .int .i64 (((progR L limit y22).1.2.1).ref)])) ?_
        refine s_lt (t_pure (.int .i64 ((progR L limit y22).1.2.2))) ?_
        refine s_alloc (.agg #[.int .i64 0, .int .i64 0, .int .i64 0, .string ByteArray.empty, .int .i64 0]) #[.int .i64 0, .int .i64 0, .int .i64 0, .string ByteArray.empty, .int .i64 0] (fun g25 => ?_)
        refine s_lt (t_pure (.int .i64 ((progR L limit y22).1.1))) ?_
        refine s_store 0 #[.int .i64 (((progR L limit y22).1.2.1).kind), .int .i64 (((progR L limit y22).1.2.1).p), .int .i64 (((progR L limit y22).1.2.1).q), .string (((progR L limit y22).1.2.1).str), .int .i64 (((progR L limit y22).1.2.1).ref)] ?_
        refine s_lt (t_pure (.int .i64 ((progR L limit y22).1.2.2))) ?_
        refine s_nil ?_
        refine xs_then ?_
        refine k_seq ?_
        refine k_reg ?_
        refine s_lt (t_pure (.int .i64 ((progR L limit y22).1.1))) ?_
        refine s_lt (t_pure (.int .i64 ((progR L limit y22).1.1))) ?_
        refine s_lt (Lt.to t_cmp (congrArg Value.bool (decide_eq_false (fun h => h rfl) : (decide ((progR L limit y22).1.1 ≠ (progR L limit y22).1.1)) = false))) ?_
        refine s_lt (t_pure (.bool false)) ?_
        refine s_lt (t_loadA 2 #[.int .i64 (((progR L limit y22).1.2.1).kind), .int .i64 (((progR L limit y22).1.2.1).p), .int .i64 (((progR L limit y22).1.2.1).q), .string (((progR L limit y22).1.2.1).str), .int .i64 (((progR L limit y22).1.2.1).ref)]) ?_
        refine s_lt (t_loadA 0 #[.int .i64 (((progR L limit y22).1.2.1).kind), .int .i64 (((progR L limit y22).1.2.1).p), .int .i64 (((progR L limit y22).1.2.1).q), .string (((progR L limit y22).1.2.1).str), .int .i64 (((progR L limit y22).1.2.1).ref)]) ?_
        refine s_lt (Lt.to (t_eqS (fun w => (eqVlT ((progR L limit y22).1.2.1) ((progR L limit y22).1.2.1) w).2)) (congrArg Value.bool ((congrArg Bool.not (decide_eq_true rfl : (decide ((progR L limit y22).1.2.1 = (progR L limit y22).1.2.1)) = true)).trans rfl : (!(decide ((progR L limit y22).1.2.1 = (progR L limit y22).1.2.1))) = false))) ?_
        refine s_lt (t_pure (.bool false)) ?_
        refine s_lt (t_pure (.bool false)) ?_
        refine s_lt (t_pure (.int .i64 ((progR L limit y22).1.2.2))) ?_
        refine s_lt (t_pure (.int .i64 ((progR L limit y22).1.2.2))) ?_
        refine s_lt (Lt.to t_cmp (congrArg Value.bool (decide_eq_false (fun h => h rfl) : (decide ((progR L limit y22).1.2.2 ≠ (progR L limit y22).1.2.2)) = false))) ?_
        refine s_lt (t_pure (.bool false)) ?_
        refine s_lt (t_pure (.bool false)) ?_
        refine s_lt (t_pure (.pointer (some ⟨b4, 0, none⟩))) ?_
        refine s_call [3] (top_s) ?_
        rintro _ _ ⟨rfl, rfl⟩
        refine s_lt (t_pure (.pointer (some ⟨b18, 0, none⟩))) ?_
        refine s_call [2] (rtop_s) ?_
        rintro _ _ ⟨rfl, rfl⟩
        refine s_lt (Lt.to t_cmp (congrArg Value.bool (decide_eq_false (fun h => h rfl) : (decide (((((progR L limit y22).2).length : Int)) ≠ ((((progR L limit y22).2).length : Int)))) = false))) ?_
        refine s_lt (t_pure (.bool false)) ?_
        refine s_lt (t_pure (.bool false)) ?_
        refine s_lt (t_pure (.pointer (some ⟨b4, 0, none⟩))) ?_
        refine s_call [1] (list_s) ?_
        rintro v26 _ rfl
        refine s_lt (t_pure (.pointer (some ⟨b18, 0, none⟩))) ?_
        refine s_call [2] (rlist_s) ?_
        rintro v27 _ rfl
        refine s_vcall (fun _ h => same_s (Acc.kn (.own 2) h) (Acc.kn (.own 0) h)) ?_
        rintro u29 e28
        obtain rfl : u29 = .bool true := e28.trans (congrArg Value.bool (decide_eq_true rfl))
        refine s_lt (t_pure (.bool false)) ?_
        refine s_lt (t_pure (.bool false)) ?_
        refine s_nil ?_
        refine xs_then ?_
        refine k_false ?_
        refine k_skip ?_
        refine xs_block ?_
        refine xs_then ?_
        refine k_reg ?_
        refine s_lt (t_add (i : Int) 1 (by (try simp only [List.length_nil, List.length_cons, List.length_append, List.length_take, List.length_drop, List.length_set, List.length_replicate]); omega)) ?_
        refine s_lt (t_pure (.int .i64 ((i : Int) + 1))) ?_
        refine s_nil ?_
        exact xs_round (i + 1, (progR L limit y22).2) (by show l.length - (i + 1) < l.length - i; omega) ⟨by omega, ok_prog hok limit y22⟩ (sub_of rfl ⟨⟨rfl, rfl⟩, ⟨⟨rfl, rfl⟩, ⟨⟨rfl, rfl⟩, ⟨⟨rfl, rfl⟩, ⟨⟨rfl, rfl⟩, ⟨⟨rfl, rfl⟩, trivial⟩⟩⟩⟩⟩⟩) (fun _ h => h.re [1, 2] [2, 2, 2, 2])
      ·
        have p30 := of_decide_eq_false c20
        refine k_exit ?_
        refine xs_exit ?_
        refine xs_exit ?_
        refine xs_here ?_
        refine xs_then ?_
        refine k_seq ?_
        refine k_reg ?_
        refine s_vcall (fun _ h => awake_s) ?_
        rintro _ rfl
        refine s_lt (t_pure (.bool true)) ?_
        refine s_nil ?_
        refine xs_then ?_
        refine k_ret ?_
        exact xs_fin [.bool true] [] (SI.tmp 4 SI.nil) (fun _ h => h.re [] [0, 0]) ⟨rfl, rfl⟩
theorem bounds_s {Z : Zone} {lv : Value} {l : List Cl} (hL : Kn Z ClT lv l) (limit : Int) : SF Try.prog 7 #[.int .i64 limit, lv] Z [] fun r Bs => r = .bool true ∧ Bs = [] := by
  refine sf_enter Try.func7 97 [(0, .int .i64 limit), (1, lv)] (fun w0 => ?_)
  refine k_fact (fun H h => (hL.get h).len_le) (fun lL => ?_)
  refine k_seq ?_
  refine k_reg ?_
  refine s_lt (t_pure (.bool false)) ?_
  refine s_nil ?_
  refine xs_then ?_
  refine k_seq ?_
  refine k_reg ?_
  refine s_lt (t_pure (.int .i64 limit)) ?_
  refine s_pcall (fun _ h => new_s limit) ?_
  rintro _ _ (⟨hn, rfl, rfl⟩ | ⟨b1, hn1, hn2, rfl, rfl⟩)
  ·
    refine s_lt (t_pure (.tuple #[.pointer none, .int .i64 2])) ?_
    refine s_lt (t_pure (.pointer none)) ?_
    refine s_lt (t_pure (.int .i64 2)) ?_
    refine s_lt (t_pure (.pointer none)) ?_
    refine s_lt (t_pure (.int .i64 2)) ?_
    refine s_nil ?_
    refine xs_then ?_
    refine k_seq ?_
    refine k_cut (ι := Unit) (fun _ => True) (fun _ => [(0, .int .i64 limit), (1, lv), (4, .bool false), (5, .pointer none), (26, .bool false)]) (fun _ => []) ?_ (fun _ _ => ?_)
    ·
      refine k_reg ?_
      refine s_lt (t_pure (.int .i64 2)) ?_
      refine s_lt (t_cmp (c := false)) ?_
      refine s_lt (t_pure (.int .i64 limit)) ?_
      refine s_lt t_cmp ?_
      refine s_lt (t_pure (.bool (decide ((1 : Int) ≤ limit)))) ?_
      refine s_fork 22 (decide ((1 : Int) ≤ limit)) (fun c2 => ?_) (fun c2 => ?_)
      ·
        have p3 := of_decide_eq_true c2
        refine s_lt (t_pure (.int .i64 limit)) ?_
        refine s_lt t_cmp ?_
        refine s_lt (t_pure (.bool (decide (limit ≤ 1000)))) ?_
        refine s_lt (Lt.to (t_pure (.bool (false != (decide (limit ≤ 1000))))) (congrArg Value.bool (by simp; omega : (false != (decide (limit ≤ 1000))) = false))) ?_
        refine s_nil ?_
        exact xs_cut () trivial (sub_of rfl ⟨⟨rfl, rfl⟩, ⟨⟨rfl, rfl⟩, ⟨⟨rfl, rfl⟩, ⟨⟨rfl, rfl⟩, ⟨⟨rfl, rfl⟩, trivial⟩⟩⟩⟩⟩) (fun _ h => h.re [] [])
      ·
        have p4 := of_decide_eq_false c2
        refine s_skip ?_
        refine s_skip ?_
        refine s_lt (t_pure (.bool false)) ?_
        refine s_lt (t_pure (.bool false)) ?_
        refine s_nil ?_
        exact xs_cut () trivial (sub_of rfl ⟨⟨rfl, rfl⟩, ⟨⟨rfl, rfl⟩, ⟨⟨rfl, rfl⟩, ⟨⟨rfl, rfl⟩, ⟨⟨rfl, rfl⟩, trivial⟩⟩⟩⟩⟩) (fun _ h => h.re [] [])
    ·
      refine k_false ?_
      refine k_skip ?_
      refine xs_then ?_
      refine k_seq ?_
      refine k_cut (ι := Unit) (fun _ => True) (fun _ => [(0, .int .i64 limit), (1, lv), (4, .bool false), (5, .pointer none), (32, .bool true)]) (fun _ => []) ?_ (fun _ _ => ?_)
      ·
        refine k_reg ?_
        refine s_lt (t_pure lv) ?_
        refine s_vcall (fun _ h => long_s (Acc.kn (.zn hL) h)) ?_
        rintro _ ⟨x5, rfl, hx6⟩
        refine s_lt (t_pure (.bool x5)) ?_
        refine s_fork 29 x5 (fun c7 => ?_) (fun c7 => ?_)
        ·
          refine s_skip ?_
          refine s_skip ?_
          refine s_lt (t_pure (.bool true)) ?_
          refine s_nil ?_
          exact xs_cut () trivial (sub_of rfl ⟨⟨rfl, rfl⟩, ⟨⟨rfl, rfl⟩, ⟨⟨rfl, rfl⟩, ⟨⟨rfl, rfl⟩, ⟨⟨rfl, rfl⟩, trivial⟩⟩⟩⟩⟩) (fun _ h => h.re [] [])
        ·
          refine s_lt (t_pure (.pointer none)) ?_
          refine s_lt (t_pure (.bool true)) ?_
          refine s_lt (t_pure (.bool true)) ?_
          refine s_nil ?_
          exact xs_cut () trivial (sub_of rfl ⟨⟨rfl, rfl⟩, ⟨⟨rfl, rfl⟩, ⟨⟨rfl, rfl⟩, ⟨⟨rfl, rfl⟩, ⟨⟨rfl, rfl⟩, trivial⟩⟩⟩⟩⟩) (fun _ h => h.re [] [])
      ·
        refine k_true ?_
        refine k_seq ?_
        refine k_reg ?_
        refine s_vcall (fun _ h => awake_s) ?_
        rintro _ rfl
        refine s_lt (t_pure (.bool true)) ?_
        refine s_nil ?_
        refine xs_then ?_
        refine k_ret ?_
        refine xs_ret ?_
        exact xs_fin [.bool true] [] (SI.tmp 4 SI.nil) (fun _ h => h.re [] []) ⟨rfl, rfl⟩
  ·
    refine s_lt (t_pure (.tuple #[.pointer (some ⟨b1, 0, none⟩), .int .i64 0])) ?_
    refine s_lt (t_pure (.pointer (some ⟨b1, 0, none⟩))) ?_
    refine s_lt (t_pure (.int .i64 0)) ?_
    refine s_lt (t_pure (.pointer (some ⟨b1, 0, none⟩))) ?_
    refine s_lt (t_pure (.int .i64 0)) ?_
    refine s_nil ?_
    refine xs_then ?_
    refine k_seq ?_
    refine k_seq ?_
    refine k_reg ?_
    refine s_lt (t_pure (.int .i64 0)) ?_
    refine s_lt (t_cmp (c := true)) ?_
    refine s_lt (t_pure (.int .i64 limit)) ?_
    refine s_lt (Lt.to t_cmp (congrArg Value.bool (decide_eq_true (by omega) : (decide ((1 : Int) ≤ limit)) = true))) ?_
    refine s_lt (t_pure (.bool true)) ?_
    refine s_lt (t_pure (.int .i64 limit)) ?_
    refine s_lt (Lt.to t_cmp (congrArg Value.bool (decide_eq_true (by omega) : (decide (limit ≤ 1000)) = true))) ?_
    refine s_lt (t_pure (.bool true)) ?_
    refine s_lt (t_pure (.bool false)) ?_
    refine s_nil ?_
    refine xs_then ?_
    refine k_false ?_
    refine k_skip ?_
    refine xs_then ?_
    refine k_seq ?_
    refine k_seq ?_
    refine k_reg ?_
    refine s_lt (t_pure lv) ?_
    refine s_vcall (fun _ h => long_s (Acc.kn (.zn hL) h)) ?_
    rintro _ ⟨x8, rfl, hx9⟩
    refine s_lt (t_pure (.bool x8)) ?_
    refine s_fork 29 x8 (fun c10 => ?_) (fun c10 => ?_)
    ·
      refine s_skip ?_
      refine s_skip ?_
      refine s_lt (t_pure (.bool true)) ?_
      refine s_nil ?_
      refine xs_then ?_
      refine k_true ?_
      refine k_seq ?_
      refine k_reg ?_
      refine s_vcall (fun _ h => awake_s) ?_
      rintro _ rfl
      refine s_lt (t_pure (.bool true)) ?_
      refine s_nil ?_
      refine xs_then ?_
      refine k_ret ?_
      refine xs_ret ?_
      exact xs_fin [.bool true] [] (SI.tmp 4 SI.nil) (fun _ h => h.re [] [0]) ⟨rfl, rfl⟩
    ·
      refine s_lt (t_pure (.pointer (some ⟨b1, 0, none⟩))) ?_
      refine s_lt (t_pure (.bool false)) ?_
      refine s_lt (t_pure (.bool false)) ?_
      refine s_nil ?_
      refine xs_then ?_
      refine k_false ?_
      refine k_skip ?_
      refine xs_then ?_
      refine k_seq ?_
      refine k_seq ?_
      refine k_reg ?_
      refine s_lt (t_pure lv) ?_
      refine s_lt (t_len ClT_ok Try.underlying45 (.zn hL)) ?_
      refine s_lt (t_pure (.int .i64 0)) ?_
      refine s_nil ?_
      refine xs_then ?_
      refine k_block ?_
      refine k_loop (ι := Nat × List Vl) (fun (i, L) => i ≤ l.length ∧ okL L) (fun (i, L) => [(0, .int .i64 limit), (1, lv), (4, .bool false), (5, .pointer (some ⟨b1, 0, none⟩)), (35, .int .i64 (l.length : Int)), (36, .int .i64 (i : Int))]) (fun (i, L) => [stkA 63 b1 L limit]) (fun (i, L) => l.length - i) (0, []) ⟨Nat.zero_le _, fun _ h => by cases h⟩ (sub_of rfl ⟨⟨rfl, rfl⟩, ⟨⟨rfl, rfl⟩, ⟨⟨rfl, rfl⟩, ⟨⟨rfl, rfl⟩, ⟨⟨rfl, rfl⟩, ⟨⟨rfl, rfl⟩, trivial⟩⟩⟩⟩⟩⟩) (fun _ h => h.re [0] []) ?_
      rintro ⟨i, L⟩ hi11
      replace hi11 : i ≤ l.length ∧ okL L := hi11
      show SK _ _ _ _ _ [(0, .int .i64 limit), (1, lv), (4, .bool false), (5, .pointer (some ⟨b1, 0, none⟩)), (35, .int .i64 (l.length : Int)), (36, .int .i64 (i : Int))] _ [stkA 63 b1 L limit]
      obtain ⟨hi, hok⟩ := hi11
      refine k_fact (fun H h => stk_len h) (fun hl => ?_)
      obtain ⟨_, _, hln⟩ := hl
      have hpl := fun c => prog_len (c := c) hln
      refine k_seq ?_
      refine k_reg ?_
      refine s_lt t_cmp ?_
      refine s_nil ?_
      refine xs_then ?_
      refine k_seq ?_
      refine k_cond (decide ((i : Int) < (l.length : Int))) (fun c12 => ?_) (fun c12 => ?_)
      ·
        have p13 := of_decide_eq_true c12
        refine k_skip ?_
        refine xs_then ?_
        refine k_seq ?_
        refine k_block ?_
        refine k_seq ?_
        refine k_reg ?_
        refine s_lt (t_pure (.int .i64 (i : Int))) ?_
        refine s_lt (t_pure (.int .i64 (i : Int))) ?_
        refine s_nil ?_
        refine xs_then ?_
        refine k_seq ?_
        refine k_reg ?_
        refine s_lt (t_pure (.pointer (some ⟨b1, 0, none⟩))) ?_
        refine s_call [0] (list_s) ?_
        rintro v14 _ rfl
        refine s_lt (t_pure v14) ?_
        refine s_nil ?_
        refine xs_then ?_
        refine k_seq ?_
        refine k_reg ?_
        refine s_lt (t_pure (.pointer (some ⟨b1, 0, none⟩))) ?_
        refine s_call [1] (room_s 1) ?_
        rintro _ _ ⟨rfl, rfl⟩
        refine s_lt (t_pure (.int .i64 (roomR L limit 1))) ?_
        refine s_nil ?_
        refine xs_then ?_
        refine k_seq ?_
        refine k_reg ?_
        refine s_lt (t_pure (.pointer (some ⟨b1, 0, none⟩))) ?_
        refine s_lt (t_pure lv) ?_
        refine s_lt (t_pure (.int .i64 (i : Int))) ?_
        refine s_lt (t_index ClT_ok Try.underlying45 (.zn hL) (i : Int) i (by omega) (by (try simp only [List.length_nil, List.length_cons, List.length_append, List.length_take, List.length_drop, List.length_set, List.length_replicate]); omega) (by omega)) ?_
        obtain ⟨y15, hy16⟩ : ∃ y, l[i]? = some y := ⟨_, List.getElem?_eq_getElem (by (try simp only [List.length_nil, List.length_cons, List.length_append, List.length_take, List.length_drop, List.length_set, List.length_replicate]); omega)⟩
        refine s_lt (t_loadE ClT_ok (.zn hL) hy16) ?_
        refine s_call [0] (prog_s y15) ?_
        rintro _ _ ⟨rfl, rfl⟩
        refine s_lt (t_pure (.tuple #[.int .i64 ((progR L limit y15).1.1), .agg #[.int .i64 (((progR L limit y15).1.2.1).kind), .int .i64 (((progR L limit y15).1.2.1).p), .int .i64 (((progR L limit y15).1.2.1).q), .string (((progR L limit y15).1.2.1).str), .int .i64 (((progR L limit y15).1.2.1).ref)], .int .i64 ((progR L limit y15).1.2.2)])) ?_
        refine s_lt (t_pure (.int .i64 ((progR L limit y15).1.1))) ?_
        refine s_lt (t_pure (.agg #[.int .i64 (((progR L limit y15).1.2.1).kind), .int .i64 (((progR L limit y15).1.2.1).p), .int .i64 (((progR L limit y15).1.2.1).q), .string (((progR L limit y15).1.2.1).str), .int .i64 (((progR L limit y15).1.2.1).ref)])) ?_
        refine s_lt (t_pure (.int .i64 ((progR L limit y15).1.2.2))) ?_
        refine s_alloc (.agg #[.int .i64 0, .int .i64 0, .int .i64 0, .string ByteArray.empty, .int .i64 0]) #[.int .i64 0, .int .i64 0, .int .i64 0, .string ByteArray.empty, .int .i64 0] (fun g17 => ?_)
        refine s_lt (t_pure (.int .i64 ((progR L limit y15).1.1))) ?_
        refine s_store 0 #[.int .i64 (((progR L limit y15).1.2.1).kind), .int .i64 (((progR L limit y15).1.2.1).p), .int .i64 (((progR L limit y15).1.2.1).q), .string (((progR L limit y15).1.2.1).str), .int .i64 (((progR L limit y15).1.2.1).ref)] ?_
        refine s_lt (t_pure (.int .i64 ((progR L limit y15).1.2.2))) ?_
        refine s_nil ?_
        refine xs_then ?_
        refine k_seq ?_
        refine k_seq ?_
        refine k_reg ?_
        refine s_lt (t_pure (.int .i64 ((progR L limit y15).1.2.2))) ?_
        refine s_lt t_cmp ?_
        refine s_lt (t_pure (.bool (decide ((progR L limit y15).1.2.2 ≠ 0)))) ?_
        refine s_fork 55 (decide ((progR L limit y15).1.2.2 ≠ 0)) (fun c18 => ?_) (fun c18 => ?_)
        ·
          have p19 := of_decide_eq_true c18
          refine s_lt (t_pure v14) ?_
          refine s_lt (t_pure (.pointer (some ⟨b1, 0, none⟩))) ?_
          refine s_call [1] (list_s) ?_
          rintro v20 _ rfl
          refine s_vcall (fun _ h => same_s (Acc.kn (.own 3) h) (Acc.kn (.own 0) h)) ?_
          rintro u22 e21
          obtain rfl : u22 = .bool true := e21.trans (congrArg Value.bool (decide_eq_true (prog_err p19).symm))
          refine s_lt (t_pure (.bool false)) ?_
          refine s_lt (t_pure (.bool false)) ?_
          refine s_lt (t_pure (.bool false)) ?_
          refine s_lt (t_pure (.pointer (some ⟨b1, 0, none⟩))) ?_
          refine s_call [1] (top_s) ?_
          rintro _ _ ⟨rfl, rfl⟩
          refine s_lt (t_pure (.int .i64 limit)) ?_
          refine s_lt (Lt.to t_cmp (congrArg Value.bool (decide_eq_false (by have := hpl y15; omega) : (decide (limit < ((((progR L limit y15).2).length : Int)))) = false))) ?_
          refine s_lt (t_pure (.bool false)) ?_
          refine s_lt (t_pure (.bool false)) ?_
          refine s_lt (t_pure (.pointer (some ⟨b1, 0, none⟩))) ?_
          refine s_call [0] (top_s) ?_
          rintro _ _ ⟨rfl, rfl⟩
          refine s_lt (t_pure (.pointer (some ⟨b1, 0, none⟩))) ?_
          refine s_call [0] (list_s) ?_
          rintro v23 _ rfl
          refine s_lt (t_len VlT_ok Try.underlying22 (.own 0)) ?_
          refine s_lt (Lt.to t_cmp (congrArg Value.bool (decide_eq_false (fun h => h rfl) : (decide (((((progR L limit y15).2).length : Int)) ≠ (((progR L limit y15).2).length : Int))) = false))) ?_
          refine s_lt (t_pure (.bool false)) ?_
          refine s_nil ?_
          refine xs_then ?_
          refine k_false ?_
          refine k_skip ?_
          refine xs_then ?_
          refine k_cut (ι := Unit) (fun _ => True) (fun _ => [(0, .int .i64 limit), (1, lv), (4, .bool false), (5, .pointer (some ⟨b1, 0, none⟩)), (7, .int .i64 (i : Int)), (8, v14), (9, .int .i64 (roomR L limit 1)), (11, .pointer (some ⟨g17, 0, none⟩)), (12, .int .i64 ((progR L limit y15).1.2.2)), (35, .int .i64 (l.length : Int)), (36, .int .i64 (i : Int)), (37, .bool (decide ((i : Int) < (l.length : Int)))), (38, .int .i64 (i : Int)), (39, .pointer (some ⟨b1, 0, none⟩)), (40, v14), (41, .pointer (some ⟨b1, 0, none⟩)), (42, .int .i64 (roomR L limit 1)), (43, .tuple #[.int .i64 ((progR L limit y15).1.1), .agg #[.int .i64 (((progR L limit y15).1.2.1).kind), .int .i64 (((progR L limit y15).1.2.1).p), .int .i64 (((progR L limit y15).1.2.1).q), .string (((progR L limit y15).1.2.1).str), .int .i64 (((progR L limit y15).1.2.1).ref)], .int .i64 ((progR L limit y15).1.2.2)]), (44, .pointer (some ⟨b1, 0, none⟩)), (45, lv), (46, .int .i64 (i : Int)), (47, .pointer (some (elemAt ClT.size lv i))), (48, .agg #[.int .i64 y15.kind, .int .i64 y15.n, .int .i64 y15.m, .int .i64 y15.vk, .int .i64 y15.vp, .int .i64 y15.vq, .string y15.vs, .int .i64 y15.vr]), (49, .tuple #[.int .i64 ((progR L limit y15).1.1), .agg #[.int .i64 (((progR L limit y15).1.2.1).kind), .int .i64 (((progR L limit y15).1.2.1).p), .int .i64 (((progR L limit y15).1.2.1).q), .string (((progR L limit y15).1.2.1).str), .int .i64 (((progR L limit y15).1.2.1).ref)], .int .i64 ((progR L limit y15).1.2.2)]), (50, .int .i64 ((progR L limit y15).1.1)), (51, .agg #[.int .i64 (((progR L limit y15).1.2.1).kind), .int .i64 (((progR L limit y15).1.2.1).p), .int .i64 (((progR L limit y15).1.2.1).q), .string (((progR L limit y15).1.2.1).str), .int .i64 (((progR L limit y15).1.2.1).ref)]), (52, .int .i64 ((progR L limit y15).1.2.2)), (53, .int .i64 ((progR L limit y15).1.2.2)), (54, .bool (decide ((progR L limit y15).1.2.2 ≠ 0))), (55, .bool true), (56, v14), (57, .pointer (some ⟨b1, 0, none⟩)), (58, v20), (59, .bool true), (60, .bool false), (61, .bool false), (62, .bool false), (63, .pointer (some ⟨b1, 0, none⟩)), (64, .int .i64 ((((progR L limit y15).2).length : Int))), (65, .int .i64 limit), (66, .bool false), (67, .bool false), (68, .bool false), (69, .pointer (some ⟨b1, 0, none⟩)), (70, .int .i64 ((((progR L limit y15).2).length : Int))), (71, .pointer (some ⟨b1, 0, none⟩)), (72, v23), (73, .int .i64 (((progR L limit y15).2).length : Int)), (74, .bool false), (75, .bool false), (76, lv), (77, .int .i64 (i : Int)), (78, .pointer (some (elemAt ClT.size lv i))), (79, .pointer (some (elemAt ClT.size lv i))), (80, .int .i64 y15.kind), (81, .bool (decide (y15.kind = 0))), (82, .bool (decide (y15.kind = 0))), (89, .bool ((decide (y15.kind = 0)) && (validB y15.val))), (90, .bool ((decide (y15.kind = 0)) && (validB y15.val))), (94, .bool false)]) (fun _ => [own VlT v23 ((progR L limit y15).2), stkA 63 b1 ((progR L limit y15).2) limit, own VlT v20 ((progR L limit y15).2), blkA g17 #[.int .i64 (((progR L limit y15).1.2.1).kind), .int .i64 (((progR L limit y15).1.2.1).p), .int .i64 (((progR L limit y15).1.2.1).q), .string (((progR L limit y15).1.2.1).str), .int .i64 (((progR L limit y15).1.2.1).ref)] 32, own VlT v14 L]) ?_ (fun _ _ => ?_)
          ·
            refine k_reg ?_
            refine s_lt (t_pure lv) ?_
            refine s_lt (t_pure (.int .i64 (i : Int))) ?_
            refine s_lt (t_index ClT_ok Try.underlying45 (.zn hL) (i : Int) i (by omega) (by (try simp only [List.length_nil, List.length_cons, List.length_append, List.length_take, List.length_drop, List.length_set, List.length_replicate]); omega) (by omega)) ?_
            refine s_lt (t_pure (.pointer (some (elemAt ClT.size lv i)))) ?_
            refine s_lt (t_loadF 0 ClT_ok (.zn hL) hy16) ?_
            refine s_lt t_cmp ?_
            refine s_lt (t_pure (.bool (decide (y15.kind = 0)))) ?_
            refine s_fork 82 (decide (y15.kind = 0)) (fun c24 => ?_) (fun c24 => ?_)
            ·
              have p25 := of_decide_eq_true c24
              refine s_lt (t_pure lv) ?_
              refine s_lt (t_pure (.int .i64 (i : Int))) ?_
              refine s_lt (t_index ClT_ok Try.underlying45 (.zn hL) (i : Int) i (by omega) (by (try simp only [List.length_nil, List.length_cons, List.length_append, List.length_take, List.length_drop, List.length_set, List.length_replicate]); omega) (by omega)) ?_
              refine s_lt (t_pure (.pointer (some ((elemAt ClT.size lv i).add 3)))) ?_
              refine s_lt (t_loadG 3 #[.int .i64 y15.vk, .int .i64 y15.vp, .int .i64 y15.vq, .string y15.vs, .int .i64 y15.vr] ClT_ok (.zn hL) hy16) ?_
              refine s_vcall (fun _ h => rvalid_s y15.val) ?_
              rintro _ rfl
              refine s_lt (t_pure (.bool (validB y15.val))) ?_
              refine s_lt (t_pure (.bool (validB y15.val))) ?_
              refine s_fork 90 (validB y15.val) (fun c26 => ?_) (fun c26 => ?_)
              ·
                refine s_lt (t_pure (.int .i64 ((progR L limit y15).1.2.2))) ?_
                refine s_lt (t_pure (.int .i64 (roomR L limit 1))) ?_
                refine s_lt (Lt.to t_cmp (congrArg Value.bool (decide_eq_false (not_not_intro (prog_room p25 c26)) : (decide ((progR L limit y15).1.2.2 ≠ (roomR L limit 1))) = false))) ?_
                refine s_lt (t_pure (.bool false)) ?_
                refine s_nil ?_
                exact xs_cut () trivial (sub_of rfl ⟨⟨rfl, rfl⟩, ⟨⟨rfl, rfl⟩, ⟨⟨rfl, rfl⟩, ⟨⟨rfl, rfl⟩, ⟨⟨rfl, rfl⟩, ⟨⟨rfl, rfl⟩, ⟨⟨rfl, rfl⟩, ⟨⟨rfl, rfl⟩, ⟨⟨rfl, rfl⟩, ⟨⟨rfl, rfl⟩, ⟨⟨rfl, rfl⟩, ⟨⟨rfl, rfl⟩, ⟨⟨rfl, rfl⟩, ⟨⟨rfl, rfl⟩, ⟨⟨rfl, rfl⟩, ⟨⟨rfl, rfl⟩, ⟨⟨rfl, rfl⟩, ⟨⟨rfl, rfl⟩, ⟨⟨rfl, rfl⟩, ⟨⟨rfl, rfl⟩, ⟨⟨rfl, rfl⟩, ⟨⟨rfl, rfl⟩, ⟨⟨rfl, rfl⟩, ⟨⟨rfl, rfl⟩, ⟨⟨rfl, rfl⟩, ⟨⟨rfl, rfl⟩, ⟨⟨rfl, rfl⟩, ⟨⟨rfl, rfl⟩, ⟨⟨rfl, rfl⟩, ⟨⟨rfl, rfl⟩, ⟨⟨rfl, rfl⟩, ⟨⟨rfl, rfl⟩, ⟨⟨rfl, rfl⟩, ⟨⟨rfl, rfl⟩, ⟨⟨rfl, rfl⟩, ⟨⟨rfl, rfl⟩, ⟨⟨rfl, rfl⟩, ⟨⟨rfl, rfl⟩, ⟨⟨rfl, rfl⟩, ⟨⟨rfl, rfl⟩, ⟨⟨rfl, rfl⟩, ⟨⟨rfl, rfl⟩, ⟨⟨rfl, rfl⟩, ⟨⟨rfl, rfl⟩, ⟨⟨rfl, rfl⟩, ⟨⟨rfl, rfl⟩, ⟨⟨rfl, rfl⟩, ⟨⟨rfl, rfl⟩, ⟨⟨rfl, rfl⟩, ⟨⟨rfl, rfl⟩, ⟨⟨rfl, rfl⟩, ⟨⟨rfl, rfl⟩, ⟨⟨rfl, rfl⟩, ⟨⟨rfl, rfl⟩, ⟨⟨rfl, rfl⟩, ⟨⟨rfl, rfl⟩, ⟨⟨rfl, show Value.bool true = Value.bool (decide (y15.kind = 0)) by first | (simp only [c24, c26, Bool.true_and, Bool.false_and, Bool.and_true, Bool.and_false, Bool.true_or, Bool.or_true, Bool.false_or, Bool.or_false, Bool.not_true, Bool.not_false]; done) | simp [c24, c26]⟩, ⟨⟨rfl, show Value.bool (validB y15.val) = Value.bool ((decide (y15.kind = 0)) && (validB y15.val)) by first | (simp only [c24, c26, Bool.true_and, Bool.false_and, Bool.and_true, Bool.and_false, Bool.true_or, Bool.or_true, Bool.false_or, Bool.or_false, Bool.not_true, Bool.not_false]; done) | simp [c24, c26]⟩, ⟨⟨rfl, show Value.bool true = Value.bool ((decide (y15.kind = 0)) && (validB y15.val)) by first | (simp only [c24, c26, Bool.true_and, Bool.false_and, Bool.and_true, Bool.and_false, Bool.true_or, Bool.or_true, Bool.false_or, Bool.or_false, Bool.not_true, Bool.not_false]; done) | simp [c24, c26]⟩, ⟨⟨rfl, rfl⟩, trivial⟩⟩⟩⟩⟩⟩⟩⟩⟩⟩⟩⟩⟩⟩⟩⟩⟩⟩⟩⟩⟩⟩⟩⟩⟩⟩⟩⟩⟩⟩⟩⟩⟩⟩⟩⟩⟩⟩⟩⟩⟩⟩⟩⟩⟩⟩⟩⟩⟩⟩⟩⟩⟩⟩⟩⟩⟩⟩⟩⟩) (fun _ h => h.re [0, 0, 0, 0, 0] [])
              ·
                refine s_skip ?_
                refine s_skip ?_
                refine s_skip ?_
                refine s_lt (t_pure (.bool false)) ?_
                refine s_nil ?_
                exact xs_cut () trivial (sub_of rfl ⟨⟨rfl, rfl⟩, ⟨⟨rfl, rfl⟩, ⟨⟨rfl, rfl⟩, ⟨⟨rfl, rfl⟩, ⟨⟨rfl, rfl⟩, ⟨⟨rfl, rfl⟩, ⟨⟨rfl, rfl⟩, ⟨⟨rfl, rfl⟩, ⟨⟨rfl, rfl⟩, ⟨⟨rfl, rfl⟩, ⟨⟨rfl, rfl⟩, ⟨⟨rfl, rfl⟩, ⟨⟨rfl, rfl⟩, ⟨⟨rfl, rfl⟩, ⟨⟨rfl, rfl⟩, ⟨⟨rfl, rfl⟩, ⟨⟨rfl, rfl⟩, ⟨⟨rfl, rfl⟩, ⟨⟨rfl, rfl⟩, ⟨⟨rfl, rfl⟩, ⟨⟨rfl, rfl⟩, ⟨⟨rfl, rfl⟩, ⟨⟨rfl, rfl⟩, ⟨⟨rfl, rfl⟩, ⟨⟨rfl, rfl⟩, ⟨⟨rfl, rfl⟩, ⟨⟨rfl, rfl⟩, ⟨⟨rfl, rfl⟩, ⟨⟨rfl, rfl⟩, ⟨⟨rfl, rfl⟩, ⟨⟨rfl, rfl⟩, ⟨⟨rfl, rfl⟩, ⟨⟨rfl, rfl⟩, ⟨⟨rfl, rfl⟩, ⟨⟨rfl, rfl⟩, ⟨⟨rfl, rfl⟩, ⟨⟨rfl, rfl⟩, ⟨⟨rfl, rfl⟩, ⟨⟨rfl, rfl⟩, ⟨⟨rfl, rfl⟩, ⟨⟨rfl, rfl⟩, ⟨⟨rfl, rfl⟩, ⟨⟨rfl, rfl⟩, ⟨⟨rfl, rfl⟩, ⟨⟨rfl, rfl⟩, ⟨⟨rfl, rfl⟩, ⟨⟨rfl, rfl⟩, ⟨⟨rfl, rfl⟩, ⟨⟨rfl, rfl⟩, ⟨⟨rfl, rfl⟩, ⟨⟨rfl, rfl⟩, ⟨⟨rfl, rfl⟩, ⟨⟨rfl, rfl⟩, ⟨⟨rfl, rfl⟩, ⟨⟨rfl, rfl⟩, ⟨⟨rfl, rfl⟩, ⟨⟨rfl, show Value.bool true = Value.bool (decide (y15.kind = 0)) by first | (simp only [c24, c26, Bool.true_and, Bool.false_and, Bool.and_true, Bool.and_false, Bool.true_or, Bool.or_true, Bool.false_or, Bool.or_false, Bool.not_true, Bool.not_false]; done) | simp [c24, c26]⟩, ⟨⟨rfl, show Value.bool (validB y15.val) = Value.bool ((decide (y15.kind = 0)) && (validB y15.val)) by first | (simp only [c24, c26, Bool.true_and, Bool.false_and, Bool.and_true, Bool.and_false, Bool.true_or, Bool.or_true, Bool.false_or, Bool.or_false, Bool.not_true, Bool.not_false]; done) | simp [c24, c26]⟩, ⟨⟨rfl, show Value.bool false = Value.bool ((decide (y15.kind = 0)) && (validB y15.val)) by first | (simp only [c24, c26, Bool.true_and, Bool.false_and, Bool.and_true, Bool.and_false, Bool.true_or, Bool.or_true, Bool.false_or, Bool.or_false, Bool.not_true, Bool.not_false]; done) | simp [c24, c26]⟩, ⟨⟨rfl, rfl⟩, trivial⟩⟩⟩⟩⟩⟩⟩⟩⟩⟩⟩⟩⟩⟩⟩⟩⟩⟩⟩⟩⟩⟩⟩⟩⟩⟩⟩⟩⟩⟩⟩⟩⟩⟩⟩⟩⟩⟩⟩⟩⟩⟩⟩⟩⟩⟩⟩⟩⟩⟩⟩⟩⟩⟩⟩⟩⟩⟩⟩⟩) (fun _ h => h.re [0, 0, 0, 0, 0] [])
            ·
              have p27 := of_decide_eq_false c24
              refine s_skip ?_
              refine s_skip ?_
              refine s_skip ?_
              refine s_skip ?_
              refine s_skip ?_
              refine s_skip ?_
              refine s_lt (t_pure (.bool false)) ?_
              refine s_lt (t_pure (.bool false)) ?_
              refine s_skip ?_
              refine s_skip ?_
              refine s_skip ?_
              refine s_lt (t_pure (.bool false)) ?_
              refine s_nil ?_
              exact xs_cut () trivial (sub_of rfl ⟨⟨rfl, rfl⟩, ⟨⟨rfl, rfl⟩, ⟨⟨rfl, rfl⟩, ⟨⟨rfl, rfl⟩, ⟨⟨rfl, rfl⟩, ⟨⟨rfl, rfl⟩, ⟨⟨rfl, rfl⟩, ⟨⟨rfl, rfl⟩, ⟨⟨rfl, rfl⟩, ⟨⟨rfl, rfl⟩, ⟨⟨rfl, rfl⟩, ⟨⟨rfl, rfl⟩, ⟨⟨rfl, rfl⟩, ⟨⟨rfl, rfl⟩, ⟨⟨rfl, rfl⟩, ⟨⟨rfl, rfl⟩, ⟨⟨rfl, rfl⟩, ⟨⟨rfl, rfl⟩, ⟨⟨rfl, rfl⟩, ⟨⟨rfl, rfl⟩, ⟨⟨rfl, rfl⟩, ⟨⟨rfl, rfl⟩, ⟨⟨rfl, rfl⟩, ⟨⟨rfl, rfl⟩, ⟨⟨rfl, rfl⟩, ⟨⟨rfl, rfl⟩, ⟨⟨rfl, rfl⟩, ⟨⟨rfl, rfl⟩, ⟨⟨rfl, rfl⟩, ⟨⟨rfl, rfl⟩, ⟨⟨rfl, rfl⟩, ⟨⟨rfl, rfl⟩, ⟨⟨rfl, rfl⟩, ⟨⟨rfl, rfl⟩, ⟨⟨rfl, rfl⟩, ⟨⟨rfl, rfl⟩, ⟨⟨rfl, rfl⟩, ⟨⟨rfl, rfl⟩, ⟨⟨rfl, rfl⟩, ⟨⟨rfl, rfl⟩, ⟨⟨rfl, rfl⟩, ⟨⟨rfl, rfl⟩, ⟨⟨rfl, rfl⟩, ⟨⟨rfl, rfl⟩, ⟨⟨rfl, rfl⟩, ⟨⟨rfl, rfl⟩, ⟨⟨rfl, rfl⟩, ⟨⟨rfl, rfl⟩, ⟨⟨rfl, rfl⟩, ⟨⟨rfl, rfl⟩, ⟨⟨rfl, rfl⟩, ⟨⟨rfl, rfl⟩, ⟨⟨rfl, rfl⟩, ⟨⟨rfl, rfl⟩, ⟨⟨rfl, rfl⟩, ⟨⟨rfl, rfl⟩, ⟨⟨rfl, show Value.bool false = Value.bool (decide (y15.kind = 0)) by first | (simp only [c24, Bool.true_and, Bool.false_and, Bool.and_true, Bool.and_false, Bool.true_or, Bool.or_true, Bool.false_or, Bool.or_false, Bool.not_true, Bool.not_false]; done) | simp [c24]⟩, ⟨⟨rfl, show Value.bool false = Value.bool ((decide (y15.kind = 0)) && (validB y15.val)) by first | (simp only [c24, Bool.true_and, Bool.false_and, Bool.and_true, Bool.and_false, Bool.true_or, Bool.or_true, Bool.false_or, Bool.or_false, Bool.not_true, Bool.not_false]; done) | simp [c24]⟩, ⟨⟨rfl, show Value.bool false = Value.bool ((decide (y15.kind = 0)) && (validB y15.val)) by first | (simp only [c24, Bool.true_and, Bool.false_and, Bool.and_true, Bool.and_false, Bool.true_or, Bool.or_true, Bool.false_or, Bool.or_false, Bool.not_true, Bool.not_false]; done) | simp [c24]⟩, ⟨⟨rfl, rfl⟩, trivial⟩⟩⟩⟩⟩⟩⟩⟩⟩⟩⟩⟩⟩⟩⟩⟩⟩⟩⟩⟩⟩⟩⟩⟩⟩⟩⟩⟩⟩⟩⟩⟩⟩⟩⟩⟩⟩⟩⟩⟩⟩⟩⟩⟩⟩⟩⟩⟩⟩⟩⟩⟩⟩⟩⟩⟩⟩⟩⟩⟩) (fun _ h => h.re [0, 0, 0, 0, 0] [])
          ·
            refine k_false ?_
            refine k_skip ?_
            refine xs_block ?_
            refine xs_then ?_
            refine k_reg ?_
            refine s_lt (t_add (i : Int) 1 (by (try simp only [List.length_nil, List.length_cons, List.length_append, List.length_take, List.length_drop, List.length_set, List.length_replicate]); omega)) ?_
            refine s_lt (t_pure (.int .i64 ((i : Int) + 1))) ?_
            refine s_nil ?_
            exact xs_round (i + 1, (progR L limit y15).2) (by show l.length - (i + 1) < l.length - i; omega) ⟨by omega, ok_prog hok limit y15⟩ (sub_of rfl ⟨⟨rfl, rfl⟩, ⟨⟨rfl, rfl⟩, ⟨⟨rfl, rfl⟩, ⟨⟨rfl, rfl⟩, ⟨⟨rfl, rfl⟩, ⟨⟨rfl, rfl⟩, trivial⟩⟩⟩⟩⟩⟩) (fun _ h => h.re [1] [1, 1, 1, 1])
        ·
          have p28 := Decidable.not_not.1 (of_decide_eq_false c18)
          refine s_skip ?_
          refine s_skip ?_
          refine s_skip ?_
          refine s_skip ?_
          refine s_skip ?_
          refine s_lt (t_pure (.bool false)) ?_
          refine s_lt (t_pure (.bool false)) ?_
          refine s_lt (t_pure (.pointer (some ⟨b1, 0, none⟩))) ?_
          refine s_call [1] (top_s) ?_
          rintro _ _ ⟨rfl, rfl⟩
          refine s_lt (t_pure (.int .i64 limit)) ?_
          refine s_lt (Lt.to t_cmp (congrArg Value.bool (decide_eq_false (by have := hpl y15; omega) : (decide (limit < ((((progR L limit y15).2).length : Int)))) = false))) ?_
          refine s_lt (t_pure (.bool false)) ?_
          refine s_lt (t_pure (.bool false)) ?_
          refine s_lt (t_pure (.pointer (some ⟨b1, 0, none⟩))) ?_
          refine s_call [0] (top_s) ?_
          rintro _ _ ⟨rfl, rfl⟩
          refine s_lt (t_pure (.pointer (some ⟨b1, 0, none⟩))) ?_
          refine s_call [0] (list_s) ?_
          rintro v29 _ rfl
          refine s_lt (t_len VlT_ok Try.underlying22 (.own 0)) ?_
          refine s_lt (Lt.to t_cmp (congrArg Value.bool (decide_eq_false (fun h => h rfl) : (decide (((((progR L limit y15).2).length : Int)) ≠ (((progR L limit y15).2).length : Int))) = false))) ?_
          refine s_lt (t_pure (.bool false)) ?_
          refine s_nil ?_
          refine xs_then ?_
          refine k_false ?_
          refine k_skip ?_
          refine xs_then ?_
          refine k_cut (ι := Unit) (fun _ => True) (fun _ => [(0, .int .i64 limit), (1, lv), (4, .bool false), (5, .pointer (some ⟨b1, 0, none⟩)), (7, .int .i64 (i : Int)), (8, v14), (9, .int .i64 (roomR L limit 1)), (11, .pointer (some ⟨g17, 0, none⟩)), (12, .int .i64 ((progR L limit y15).1.2.2)), (35, .int .i64 (l.length : Int)), (36, .int .i64 (i : Int)), (37, .bool (decide ((i : Int) < (l.length : Int)))), (38, .int .i64 (i : Int)), (39, .pointer (some ⟨b1, 0, none⟩)), (40, v14), (41, .pointer (some ⟨b1, 0, none⟩)), (42, .int .i64 (roomR L limit 1)), (43, .tuple #[.int .i64 ((progR L limit y15).1.1), .agg #[.int .i64 (((progR L limit y15).1.2.1).kind), .int .i64 (((progR L limit y15).1.2.1).p), .int .i64 (((progR L limit y15).1.2.1).q), .string (((progR L limit y15).1.2.1).str), .int .i64 (((progR L limit y15).1.2.1).ref)], .int .i64 ((progR L limit y15).1.2.2)]), (44, .pointer (some ⟨b1, 0, none⟩)), (45, lv), (46, .int .i64 (i : Int)), (47, .pointer (some (elemAt ClT.size lv i))), (48, .agg #[.int .i64 y15.kind, .int .i64 y15.n, .int .i64 y15.m, .int .i64 y15.vk, .int .i64 y15.vp, .int .i64 y15.vq, .string y15.vs, .int .i64 y15.vr]), (49, .tuple #[.int .i64 ((progR L limit y15).1.1), .agg #[.int .i64 (((progR L limit y15).1.2.1).kind), .int .i64 (((progR L limit y15).1.2.1).p), .int .i64 (((progR L limit y15).1.2.1).q), .string (((progR L limit y15).1.2.1).str), .int .i64 (((progR L limit y15).1.2.1).ref)], .int .i64 ((progR L limit y15).1.2.2)]), (50, .int .i64 ((progR L limit y15).1.1)), (51, .agg #[.int .i64 (((progR L limit y15).1.2.1).kind), .int .i64 (((progR L limit y15).1.2.1).p), .int .i64 (((progR L limit y15).1.2.1).q), .string (((progR L limit y15).1.2.1).str), .int .i64 (((progR L limit y15).1.2.1).ref)]), (52, .int .i64 ((progR L limit y15).1.2.2)), (53, .int .i64 ((progR L limit y15).1.2.2)), (54, .bool (decide ((progR L limit y15).1.2.2 ≠ 0))), (55, .bool false), (61, .bool false), (62, .bool false), (63, .pointer (some ⟨b1, 0, none⟩)), (64, .int .i64 ((((progR L limit y15).2).length : Int))), (65, .int .i64 limit), (66, .bool false), (67, .bool false), (68, .bool false), (69, .pointer (some ⟨b1, 0, none⟩)), (70, .int .i64 ((((progR L limit y15).2).length : Int))), (71, .pointer (some ⟨b1, 0, none⟩)), (72, v29), (73, .int .i64 (((progR L limit y15).2).length : Int)), (74, .bool false), (75, .bool false), (76, lv), (77, .int .i64 (i : Int)), (78, .pointer (some (elemAt ClT.size lv i))), (79, .pointer (some (elemAt ClT.size lv i))), (80, .int .i64 y15.kind), (81, .bool (decide (y15.kind = 0))), (82, .bool (decide (y15.kind = 0))), (89, .bool ((decide (y15.kind = 0)) && (validB y15.val))), (90, .bool ((decide (y15.kind = 0)) && (validB y15.val))), (94, .bool false)]) (fun _ => [own VlT v29 ((progR L limit y15).2), stkA 63 b1 ((progR L limit y15).2) limit, blkA g17 #[.int .i64 (((progR L limit y15).1.2.1).kind), .int .i64 (((progR L limit y15).1.2.1).p), .int .i64 (((progR L limit y15).1.2.1).q), .string (((progR L limit y15).1.2.1).str), .int .i64 (((progR L limit y15).1.2.1).ref)] 32, own VlT v14 L]) ?_ (fun _ _ => ?_)
          ·
            refine k_reg ?_
            refine s_lt (t_pure lv) ?_
            refine s_lt (t_pure (.int .i64 (i : Int))) ?_
            refine s_lt (t_index ClT_ok Try.underlying45 (.zn hL) (i : Int) i (by omega) (by (try simp only [List.length_nil, List.length_cons, List.length_append, List.length_take, List.length_drop, List.length_set, List.length_replicate]); omega) (by omega)) ?_
            refine s_lt (t_pure (.pointer (some (elemAt ClT.size lv i)))) ?_
            refine s_lt (t_loadF 0 ClT_ok (.zn hL) hy16) ?_
            refine s_lt t_cmp ?_
            refine s_lt (t_pure (.bool (decide (y15.kind = 0)))) ?_
            refine s_fork 82 (decide (y15.kind = 0)) (fun c30 => ?_) (fun c30 => ?_)
            ·
              have p31 := of_decide_eq_true c30
              refine s_lt (t_pure lv) ?_
              refine s_lt (t_pure (.int .i64 (i : Int))) ?_
              refine s_lt (t_index ClT_ok Try.underlying45 (.zn hL) (i : Int) i (by omega) (by (try simp only [List.length_nil, List.length_cons, List.length_append, List.length_take, List.length_drop, List.length_set, List.length_replicate]); omega) (by omega)) ?_
              refine s_lt (t_pure (.pointer (some ((elemAt ClT.size lv i).add 3)))) ?_
              refine s_lt (t_loadG 3 #[.int .i64 y15.vk, .int .i64 y15.vp, .int .i64 y15.vq, .string y15.vs, .int .i64 y15.vr] ClT_ok (.zn hL) hy16) ?_
              refine s_vcall (fun _ h => rvalid_s y15.val) ?_
              rintro _ rfl
              refine s_lt (t_pure (.bool (validB y15.val))) ?_
              refine s_lt (t_pure (.bool (validB y15.val))) ?_
              refine s_fork 90 (validB y15.val) (fun c32 => ?_) (fun c32 => ?_)
              ·
                refine s_lt (t_pure (.int .i64 ((progR L limit y15).1.2.2))) ?_
                refine s_lt (t_pure (.int .i64 (roomR L limit 1))) ?_
                refine s_lt (Lt.to t_cmp (congrArg Value.bool (decide_eq_false (not_not_intro (prog_room p31 c32)) : (decide ((progR L limit y15).1.2.2 ≠ (roomR L limit 1))) = false))) ?_
                refine s_lt (t_pure (.bool false)) ?_
                refine s_nil ?_
                exact xs_cut () trivial (sub_of rfl ⟨⟨rfl, rfl⟩, ⟨⟨rfl, rfl⟩, ⟨⟨rfl, rfl⟩, ⟨⟨rfl, rfl⟩, ⟨⟨rfl, rfl⟩, ⟨⟨rfl, rfl⟩, ⟨⟨rfl, rfl⟩, ⟨⟨rfl, rfl⟩, ⟨⟨rfl, rfl⟩, ⟨⟨rfl, rfl⟩, ⟨⟨rfl, rfl⟩, ⟨⟨rfl, rfl⟩, ⟨⟨rfl, rfl⟩, ⟨⟨rfl, rfl⟩, ⟨⟨rfl, rfl⟩, ⟨⟨rfl, rfl⟩, ⟨⟨rfl, rfl⟩, ⟨⟨rfl, rfl⟩, ⟨⟨rfl, rfl⟩, ⟨⟨rfl, rfl⟩, ⟨⟨rfl, rfl⟩, ⟨⟨rfl, rfl⟩, ⟨⟨rfl, rfl⟩, ⟨⟨rfl, rfl⟩, ⟨⟨rfl, rfl⟩, ⟨⟨rfl, rfl⟩, ⟨⟨rfl, rfl⟩, ⟨⟨rfl, rfl⟩, ⟨⟨rfl, rfl⟩, ⟨⟨rfl, rfl⟩, ⟨⟨rfl, rfl⟩, ⟨⟨rfl, rfl⟩, ⟨⟨rfl, rfl⟩, ⟨⟨rfl, rfl⟩, ⟨⟨rfl, rfl⟩, ⟨⟨rfl, rfl⟩, ⟨⟨rfl, rfl⟩, ⟨⟨rfl, rfl⟩, ⟨⟨rfl, rfl⟩, ⟨⟨rfl, rfl⟩, ⟨⟨rfl, rfl⟩, ⟨⟨rfl, rfl⟩, ⟨⟨rfl, rfl⟩, ⟨⟨rfl, rfl⟩, ⟨⟨rfl, rfl⟩, ⟨⟨rfl, rfl⟩, ⟨⟨rfl, rfl⟩, ⟨⟨rfl, rfl⟩, ⟨⟨rfl, rfl⟩, ⟨⟨rfl, rfl⟩, ⟨⟨rfl, rfl⟩, ⟨⟨rfl, show Value.bool true = Value.bool (decide (y15.kind = 0)) by first | (simp only [c30, c32, Bool.true_and, Bool.false_and, Bool.and_true, Bool.and_false, Bool.true_or, Bool.or_true, Bool.false_or, Bool.or_false, Bool.not_true, Bool.not_false]; done) | simp [c30, c32]⟩, ⟨⟨rfl, show Value.bool (validB y15.val) = Value.bool ((decide (y15.kind = 0)) && (validB y15.val)) by first | (simp only [c30, c32, Bool.true_and, Bool.false_and, Bool.and_true, Bool.and_false, Bool.true_or, Bool.or_true, Bool.false_or, Bool.or_false, Bool.not_true, Bool.not_false]; done) | simp [c30, c32]⟩, ⟨⟨rfl, show Value.bool true = Value.bool ((decide (y15.kind = 0)) && (validB y15.val)) by first | (simp only [c30, c32, Bool.true_and, Bool.false_and, Bool.and_true, Bool.and_false, Bool.true_or, Bool.or_true, Bool.false_or, Bool.or_false, Bool.not_true, Bool.not_false]; done) | simp [c30, c32]⟩, ⟨⟨rfl, rfl⟩, trivial⟩⟩⟩⟩⟩⟩⟩⟩⟩⟩⟩⟩⟩⟩⟩⟩⟩⟩⟩⟩⟩⟩⟩⟩⟩⟩⟩⟩⟩⟩⟩⟩⟩⟩⟩⟩⟩⟩⟩⟩⟩⟩⟩⟩⟩⟩⟩⟩⟩⟩⟩⟩⟩⟩⟩) (fun _ h => h.re [0, 0, 0, 0] [])
              ·
                refine s_skip ?_
                refine s_skip ?_
                refine s_skip ?_
                refine s_lt (t_pure (.bool false)) ?_
                refine s_nil ?_
                exact xs_cut () trivial (sub_of rfl ⟨⟨rfl, rfl⟩, ⟨⟨rfl, rfl⟩, ⟨⟨rfl, rfl⟩, ⟨⟨rfl, rfl⟩, ⟨⟨rfl, rfl⟩, ⟨⟨rfl, rfl⟩, ⟨⟨rfl, rfl⟩, ⟨⟨rfl, rfl⟩, ⟨⟨rfl, rfl⟩, ⟨⟨rfl, rfl⟩, ⟨⟨rfl, rfl⟩, ⟨⟨rfl, rfl⟩, ⟨⟨rfl, rfl⟩, ⟨⟨rfl, rfl⟩, ⟨⟨rfl, rfl⟩, ⟨⟨rfl, rfl⟩, ⟨⟨rfl, rfl⟩, ⟨⟨rfl, rfl⟩, ⟨⟨rfl, rfl⟩, ⟨⟨rfl, rfl⟩, ⟨⟨rfl, rfl⟩, ⟨⟨rfl, rfl⟩, ⟨⟨rfl, rfl⟩, ⟨⟨rfl, rfl⟩, ⟨⟨rfl, rfl⟩, ⟨⟨rfl, rfl⟩, ⟨⟨rfl, rfl⟩, ⟨⟨rfl, rfl⟩, ⟨⟨rfl, rfl⟩, ⟨⟨rfl, rfl⟩, ⟨⟨rfl, rfl⟩, ⟨⟨rfl, rfl⟩, ⟨⟨rfl, rfl⟩, ⟨⟨rfl, rfl⟩, ⟨⟨rfl, rfl⟩, ⟨⟨rfl, rfl⟩, ⟨⟨rfl, rfl⟩, ⟨⟨rfl, rfl⟩, ⟨⟨rfl, rfl⟩, ⟨⟨rfl, rfl⟩, ⟨⟨rfl, rfl⟩, ⟨⟨rfl, rfl⟩, ⟨⟨rfl, rfl⟩, ⟨⟨rfl, rfl⟩, ⟨⟨rfl, rfl⟩, ⟨⟨rfl, rfl⟩, ⟨⟨rfl, rfl⟩, ⟨⟨rfl, rfl⟩, ⟨⟨rfl, rfl⟩, ⟨⟨rfl, rfl⟩, ⟨⟨rfl, rfl⟩, ⟨⟨rfl, show Value.bool true = Value.bool (decide (y15.kind = 0)) by first | (simp only [c30, c32, Bool.true_and, Bool.false_and, Bool.and_true, Bool.and_false, Bool.true_or, Bool.or_true, Bool.false_or, Bool.or_false, Bool.not_true, Bool.not_false]; done) | simp [c30, c32]⟩, ⟨⟨rfl, show Value.bool (validB y15.val) = Value.bool ((decide (y15.kind = 0)) && (validB y15.val)) by first | (simp only [c30, c32, Bool.true_and, Bool.false_and, Bool.and_true, Bool.and_false, Bool.true_or, Bool.or_true, Bool.false_or, Bool.or_false, Bool.not_true, Bool.not_false]; done) | simp [c30, c32]⟩, ⟨⟨rfl, show Value.bool false = Value.bool ((decide (y15.kind = 0)) && (validB y15.val)) by first | (simp only [c30, c32, Bool.true_and, Bool.false_and, Bool.and_true, Bool.and_false, Bool.true_or, Bool.or_true, Bool.false_or, Bool.or_false, Bool.not_true, Bool.not_false]; done) | simp [c30, c32]⟩, ⟨⟨rfl, rfl⟩, trivial⟩⟩⟩⟩⟩⟩⟩⟩⟩⟩⟩⟩⟩⟩⟩⟩⟩⟩⟩⟩⟩⟩⟩⟩⟩⟩⟩⟩⟩⟩⟩⟩⟩⟩⟩⟩⟩⟩⟩⟩⟩⟩⟩⟩⟩⟩⟩⟩⟩⟩⟩⟩⟩⟩⟩) (fun _ h => h.re [0, 0, 0, 0] [])
            ·
              have p33 := of_decide_eq_false c30
              refine s_skip ?_
              refine s_skip ?_
              refine s_skip ?_
              refine s_skip ?_
              refine s_skip ?_
              refine s_skip ?_
              refine s_lt (t_pure (.bool false)) ?_
              refine s_lt (t_pure (.bool false)) ?_
              refine s_skip ?_
              refine s_skip ?_
              refine s_skip ?_
              refine s_lt (t_pure (.bool false)) ?_
              refine s_nil ?_
              exact xs_cut () trivial (sub_of rfl ⟨⟨rfl, rfl⟩, ⟨⟨rfl, rfl⟩, ⟨⟨rfl, rfl⟩, ⟨⟨rfl, rfl⟩, ⟨⟨rfl, rfl⟩, ⟨⟨rfl, rfl⟩, ⟨⟨rfl, rfl⟩, ⟨⟨rfl, rfl⟩, ⟨⟨rfl, rfl⟩, ⟨⟨rfl, rfl⟩, ⟨⟨rfl, rfl⟩, ⟨⟨rfl, rfl⟩, ⟨⟨rfl, rfl⟩, ⟨⟨rfl, rfl⟩, ⟨⟨rfl, rfl⟩, ⟨⟨rfl, rfl⟩, ⟨⟨rfl, rfl⟩, ⟨⟨rfl, rfl⟩, ⟨⟨rfl, rfl⟩, ⟨⟨rfl, rfl⟩, ⟨⟨rfl, rfl⟩, ⟨⟨rfl, rfl⟩, ⟨⟨rfl, rfl⟩, ⟨⟨rfl, rfl⟩, ⟨⟨rfl, rfl⟩, ⟨⟨rfl, rfl⟩, ⟨⟨rfl, rfl⟩, ⟨⟨rfl, rfl⟩, ⟨⟨rfl, rfl⟩, ⟨⟨rfl, rfl⟩, ⟨⟨rfl, rfl⟩, ⟨⟨rfl, rfl⟩, ⟨⟨rfl, rfl⟩, ⟨⟨rfl, rfl⟩, ⟨⟨rfl, rfl⟩, ⟨⟨rfl, rfl⟩, ⟨⟨rfl, rfl⟩, ⟨⟨rfl, rfl⟩, ⟨⟨rfl, rfl⟩, ⟨⟨rfl, rfl⟩, ⟨⟨rfl, rfl⟩, ⟨⟨rfl, rfl⟩, ⟨⟨rfl, rfl⟩, ⟨⟨rfl, rfl⟩, ⟨⟨rfl, rfl⟩, ⟨⟨rfl, rfl⟩, ⟨⟨rfl, rfl⟩, ⟨⟨rfl, rfl⟩, ⟨⟨rfl, rfl⟩, ⟨⟨rfl, rfl⟩, ⟨⟨rfl, rfl⟩, ⟨⟨rfl, show Value.bool false = Value.bool (decide (y15.kind = 0)) by first | (simp only [c30, Bool.true_and, Bool.false_and, Bool.and_true, Bool.and_false, Bool.true_or, Bool.or_true, Bool.false_or, Bool.or_false, Bool.not_true, Bool.not_false]; done) | simp [c30]⟩, ⟨⟨rfl, show Value.bool false = Value.bool ((decide (y15.kind = 0)) && (validB y15.val)) by first | (simp only [c30, Bool.true_and, Bool.false_and, Bool.and_true, Bool.and_false, Bool.true_or, Bool.or_true, Bool.false_or, Bool.or_false, Bool.not_true, Bool.not_false]; done) | simp [c30]⟩, ⟨⟨rfl, show Value.bool false = Value.bool ((decide (y15.kind = 0)) && (validB y15.val)) by first | (simp only [c30, Bool.true_and, Bool.false_and, Bool.and_true, Bool.and_false, Bool.true_or, Bool.or_true, Bool.false_or, Bool.or_false, Bool.not_true, Bool.not_false]; done) | simp [c30]⟩, ⟨⟨rfl, rfl⟩, trivial⟩⟩⟩⟩⟩⟩⟩⟩⟩⟩⟩⟩⟩⟩⟩⟩⟩⟩⟩⟩⟩⟩⟩⟩⟩⟩⟩⟩⟩⟩⟩⟩⟩⟩⟩⟩⟩⟩⟩⟩⟩⟩⟩⟩⟩⟩⟩⟩⟩⟩⟩⟩⟩⟩⟩) (fun _ h => h.re [0, 0, 0, 0] [])
          ·
            refine k_false ?_
            refine k_skip ?_
            refine xs_block ?_
            refine xs_then ?_
            refine k_reg ?_
            refine s_lt (t_add (i : Int) 1 (by (try simp only [List.length_nil, List.length_cons, List.length_append, List.length_take, List.length_drop, List.length_set, List.length_replicate]); omega)) ?_
            refine s_lt (t_pure (.int .i64 ((i : Int) + 1))) ?_
            refine s_nil ?_
            exact xs_round (i + 1, (progR L limit y15).2) (by show l.length - (i + 1) < l.length - i; omega) ⟨by omega, ok_prog hok limit y15⟩ (sub_of rfl ⟨⟨rfl, rfl⟩, ⟨⟨rfl, rfl⟩, ⟨⟨rfl, rfl⟩, ⟨⟨rfl, rfl⟩, ⟨⟨rfl, rfl⟩, ⟨⟨rfl, rfl⟩, trivial⟩⟩⟩⟩⟩⟩) (fun _ h => h.re [1] [1, 1, 1])
      ·
        have p34 := of_decide_eq_false c12
        refine k_exit ?_
        refine xs_exit ?_
        refine xs_exit ?_
        refine xs_here ?_
        refine xs_then ?_
        refine k_seq ?_
        refine k_reg ?_
        refine s_vcall (fun _ h => awake_s) ?_
        rintro _ rfl
        refine s_lt (t_pure (.bool true)) ?_
        refine s_nil ?_
        refine xs_then ?_
        refine k_ret ?_
        exact xs_fin [.bool true] [] (SI.tmp 4 SI.nil) (fun _ h => h.re [] [0]) ⟨rfl, rfl⟩
end Go.Proofs.Ytnhbejiakfaohaa
