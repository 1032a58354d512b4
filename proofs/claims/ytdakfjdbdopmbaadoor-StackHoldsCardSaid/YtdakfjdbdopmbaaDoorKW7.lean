/-
  StackHolds, walked: a value is accepted exactly if it is valid, and is on the top afterwards.
-/
import Derived.Test.YtdakfjdbdopmbaaDoorKW6
import Derived.Test.YtdakfjdbdopmbaaDoorW5
import Derived.Test.YtdakfjdbdopmbaaDoorSV
set_option linter.unusedSimpArgs false
set_option linter.unusedVariables false
set_option maxRecDepth 100000
namespace Go.Proofs.YtdakfjdbdopmbaaDoor.St
open Go.Hp Go.J Go.S
open Go.Mem (Ty KTy blk elemAt pre suf blk_pre blk_suf aget aset strK aggDesc)
theorem vsame_s {Z : Zone} (u v : Vl) : SF Tryd.prog 19 #[u.v, v.v] Z [] fun r Bs => r = .bool (decide (u = v)) ∧ Bs = [] := by
  refine sf_enter Tryd.func19 8 [(0, .agg #[.int .i64 u.kind, .int .i64 u.p, .int .i64 u.q, .string u.str, .int .i64 u.ref]), (1, .agg #[.int .i64 v.kind, .int .i64 v.p, .int .i64 v.q, .string v.str, .int .i64 v.ref])] (fun w0 => ?_)
  refine k_seq ?_
  refine k_reg ?_
  refine s_box #[.int .i64 u.kind, .int .i64 u.p, .int .i64 u.q, .string u.str, .int .i64 u.ref] (fun g1 => ?_)
  refine s_box #[.int .i64 v.kind, .int .i64 v.p, .int .i64 v.q, .string v.str, .int .i64 v.ref] (fun g2 => ?_)
  refine s_lt (t_pure (.bool false)) ?_
  refine s_nil ?_
  refine xs_then ?_
  refine k_seq ?_
  refine k_reg ?_
  refine s_lt (t_loadA 1 #[.int .i64 u.kind, .int .i64 u.p, .int .i64 u.q, .string u.str, .int .i64 u.ref]) ?_
  refine s_lt (t_loadA 0 #[.int .i64 v.kind, .int .i64 v.p, .int .i64 v.q, .string v.str, .int .i64 v.ref]) ?_
  refine s_lt (t_eqS (fun w => (eqVlT u v w).1)) ?_
  refine s_lt (t_pure (.bool (decide (u = v)))) ?_
  refine s_nil ?_
  refine xs_then ?_
  refine k_ret ?_
  refine xs_fin [.bool (decide (u = v))] [] (SI.tmp 4 SI.nil) (fun _ h => h.re [] [0, 0]) ⟨?_, rfl⟩
  rfl
theorem holds_t {Z : Zone} (ht : KnTab Z) {v : Vl} (h0 : -9223372036854775808 ≤ v.ref) (h1 : v.ref ≤ 9223372036854775807) (hs : (v.str.size : Int) ≤ 4611686018427387904) (hv : validB v = true) : SF Tryd.prog 4 #[v.v] Z [] fun r Bs => r = .bool true ∧ Bs = [] := by
  refine sf_enter Tryd.func4 64 [(0, .agg #[.int .i64 v.kind, .int .i64 v.p, .int .i64 v.q, .string v.str, .int .i64 v.ref])] (fun w0 => ?_)
  refine k_seq ?_
  refine k_reg ?_
  refine s_box #[.int .i64 v.kind, .int .i64 v.p, .int .i64 v.q, .string v.str, .int .i64 v.ref] (fun g1 => ?_)
  refine s_lt (t_pure (.bool false)) ?_
  refine s_nil ?_
  refine xs_then ?_
  refine k_seq ?_
  refine k_reg ?_
  refine s_pcall (fun _ h => new_s 1) ?_
  rintro _ _ (⟨hn, rfl, rfl⟩ | ⟨b2, hn1, hn2, rfl, rfl⟩)
  · exact absurd hn (by omega)
  refine s_lt (t_pure (.tuple #[.pointer (some ⟨b2, 0, none⟩), .int .i64 0])) ?_
  refine s_lt (t_pure (.pointer (some ⟨b2, 0, none⟩))) ?_
  refine s_lt (t_pure (.int .i64 0)) ?_
  refine s_lt (t_pure (.pointer (some ⟨b2, 0, none⟩))) ?_
  refine s_lt (t_pure (.int .i64 0)) ?_
  refine s_nil ?_
  refine xs_then ?_
  refine k_seq ?_
  refine k_seq ?_
  refine k_reg ?_
  refine s_lt (t_pure (.pointer (some ⟨b2, 0, none⟩))) ?_
  refine s_lt (t_pure (.bool false)) ?_
  refine s_lt (t_pure (.bool false)) ?_
  refine s_lt (t_pure (.int .i64 0)) ?_
  refine s_lt (t_cmp (c := false)) ?_
  refine s_lt (t_pure (.bool false)) ?_
  refine s_nil ?_
  refine xs_then ?_
  refine k_false ?_
  refine k_skip ?_
  refine xs_then ?_
  refine k_seq ?_
  refine k_seq ?_
  refine k_reg ?_
  refine s_lt (t_pure (.pointer (some ⟨g1, 3, none⟩))) ?_
  refine s_lt (t_load 1 (.string v.str)) ?_
  refine s_lt (t_kern (.int .i64 (v.str.size : Int))) ?_
  refine s_lt t_cmp ?_
  refine s_nil ?_
  refine xs_then ?_
  refine k_cond (decide ((4106 : Int) < (v.str.size : Int))) (fun c3 => ?_) (fun c3 => ?_)
  ·
    have p4 := of_decide_eq_true c3
    refine k_seq ?_
    refine k_reg ?_
    refine s_vcall (fun _ h => awake_s) ?_
    rintro _ rfl
    refine s_lt (t_pure (.bool true)) ?_
    refine s_nil ?_
    refine xs_then ?_
    refine k_ret ?_
    refine xs_ret ?_
    exact xs_fin [.bool true] [] (SI.tmp 2 SI.nil) (fun _ h => h.re [] [0, 0]) ⟨rfl, rfl⟩
  ·
    have p5 := of_decide_eq_false c3
    refine k_skip ?_
    refine xs_then ?_
    refine k_seq ?_
    refine k_reg ?_
    refine s_lt (t_pure (.pointer (some ⟨b2, 0, none⟩))) ?_
    refine s_lt (t_loadA 1 #[.int .i64 v.kind, .int .i64 v.p, .int .i64 v.q, .string v.str, .int .i64 v.ref]) ?_
    refine s_call [0] (push_e (L := []) (lim := 1) (v := v) (push_fill hv (by show (0 : Int) < 1; decide))) ?_
    rintro _ _ ⟨rfl, rfl⟩
    refine s_lt (t_pure (.int .i64 0)) ?_
    refine s_nil ?_
    refine xs_then ?_
    refine k_seq ?_
    refine k_seq ?_
    refine k_reg ?_
    refine s_lt (t_pure (.int .i64 0)) ?_
    refine s_lt (t_cmp (c := true)) ?_
    refine s_lt (t_loadA 1 #[.int .i64 v.kind, .int .i64 v.p, .int .i64 v.q, .string v.str, .int .i64 v.ref]) ?_
    refine s_vcall (fun _ h => valid_s v) ?_
    rintro u7 e6
    obtain rfl : u7 = .bool true := e6.trans (congrArg Value.bool (hv))
    refine s_lt (t_pure (.bool false)) ?_
    refine s_nil ?_
    refine xs_then ?_
    refine k_false ?_
    refine k_skip ?_
    refine xs_then ?_
    refine k_seq ?_
    refine k_reg ?_
    refine s_lt (t_pure (.pointer (some ⟨b2, 0, none⟩))) ?_
    refine s_call [0] (at_e (L := [v]) (lim := 1) (-1) (show atR [v] (-1) = (v, 0) from rfl)) ?_
    rintro _ _ ⟨rfl, rfl⟩
    refine s_lt (t_pure (.tuple #[.agg #[.int .i64 v.kind, .int .i64 v.p, .int .i64 v.q, .string v.str, .int .i64 v.ref], .int .i64 0])) ?_
    refine s_lt (t_pure (.agg #[.int .i64 v.kind, .int .i64 v.p, .int .i64 v.q, .string v.str, .int .i64 v.ref])) ?_
    refine s_lt (t_pure (.int .i64 0)) ?_
    refine s_alloc (.agg #[.int .i64 0, .int .i64 0, .int .i64 0, .string ByteArray.empty, .int .i64 0]) #[.int .i64 0, .int .i64 0, .int .i64 0, .string ByteArray.empty, .int .i64 0] (fun g8 => ?_)
    refine s_store 0 #[.int .i64 v.kind, .int .i64 v.p, .int .i64 v.q, .string v.str, .int .i64 v.ref] ?_
    refine s_lt (t_pure (.int .i64 0)) ?_
    refine s_nil ?_
    refine xs_then ?_
    refine k_seq ?_
    refine k_seq ?_
    refine k_reg ?_
    refine s_lt (t_pure (.int .i64 0)) ?_
    refine s_lt (t_cmp (c := false)) ?_
    refine s_nil ?_
    refine xs_then ?_
    refine k_false ?_
    refine k_skip ?_
    refine xs_then ?_
    refine k_seq ?_
    refine k_held [blkA g8 #[.int .i64 v.kind, .int .i64 v.p, .int .i64 v.q, .string v.str, .int .i64 v.ref] 39, blkA g1 #[.int .i64 v.kind, .int .i64 v.p, .int .i64 v.q, .string v.str, .int .i64 v.ref] 39] ?_
    refine h_lt 0 rfl (np_then np_finS) [0, 1] (fun _ => (t_pure (.int .i64 0))) ?_
    refine h_lt 1 rfl (np_then np_finS) [0, 1] (fun _ => (t_cmp (c := true))) ?_
    refine h_lt 2 rfl (np_then np_finS) [0, 1] (fun _ => (t_pure (.bool true))) ?_
    refine h_lt 3 rfl (np_then np_finS) [0, 1] (fun _ => (t_loadA 0 #[.int .i64 v.kind, .int .i64 v.p, .int .i64 v.q, .string v.str, .int .i64 v.ref])) ?_
    refine h_lt 4 rfl (np_then np_finS) [0, 1] (fun _ => (t_loadA 1 #[.int .i64 v.kind, .int .i64 v.p, .int .i64 v.q, .string v.str, .int .i64 v.ref])) ?_
    refine h_stepS 5 ?_
    refine s_vcall (fun _ h => vsame_s v v) ?_
    rintro u10 e9
    obtain rfl : u10 = .bool true := e9.trans (congrArg Value.bool (decide_eq_true rfl))
    refine s_nil (xs_held [0, 1] ?_)
    refine h_lt 6 rfl (np_then np_finS) [0, 1] (fun _ => (t_pure (.bool true))) ?_
    refine h_lt 7 rfl (np_then np_finS) [0, 1] (fun _ => (t_pure (.bool true))) ?_
    refine h_lt 8 rfl (np_then np_finS) [0, 1] (fun _ => (t_loadA 0 #[.int .i64 v.kind, .int .i64 v.p, .int .i64 v.q, .string v.str, .int .i64 v.ref])) ?_
    refine h_lt 10 rfl (np_then np_finS) [0, 1] (fun _ => (t_loadA 1 #[.int .i64 v.kind, .int .i64 v.p, .int .i64 v.q, .string v.str, .int .i64 v.ref])) ?_
    refine h_stepS 9 ?_
    refine s_vcall (fun _ h => text_s (ht.at h) v (by omega) (by omega) (by omega)) ?_
    rintro _ rfl
    refine s_nil (xs_held [0, 1] ?_)
    refine h_stepS 11 ?_
    refine s_vcall (fun _ h => text_s (ht.at h) v (by omega) (by omega) (by omega)) ?_
    rintro _ rfl
    refine s_nil (xs_held [0, 1] ?_)
    refine h_lt 12 rfl (np_then np_finS) [0, 1] (fun _ => (Lt.to t_cmpS (congrArg Value.bool (decide_eq_true rfl : (decide ((textT v) = (textT v))) = true)))) ?_
    refine h_lt 13 rfl (np_then np_finS) [0, 1] (fun _ => (t_pure (.bool true))) ?_
    refine h_lt 14 rfl (np_then np_finS) [0, 1] (fun _ => (t_pure (.bool true))) ?_
    refine h_stepS 15 ?_
    refine s_vcall (fun _ h => awake_s) ?_
    rintro _ rfl
    refine s_nil (xs_held [0, 1] ?_)
    refine h_lt 16 rfl (np_then np_finS) [0, 1] (fun _ => (t_pure (.bool true))) ?_
    refine h_lt 17 rfl (np_then np_finS) [0, 1] (fun _ => (t_pure (.bool true))) ?_
    refine h_doneS ?_
    refine xs_then ?_
    refine k_ret ?_
    exact xs_fin [.bool true] [] (SI.tmp 2 SI.nil) (fun _ h => h.re [] [0, 0, 0]) ⟨rfl, rfl⟩
theorem holds_f {Z : Zone} (ht : KnTab Z) {v : Vl} (h0 : -9223372036854775808 ≤ v.ref) (h1 : v.ref ≤ 9223372036854775807) (hs : (v.str.size : Int) ≤ 4611686018427387904) (hv : validB v = false) : SF Tryd.prog 4 #[v.v] Z [] fun r Bs => r = .bool true ∧ Bs = [] := by
  refine sf_enter Tryd.func4 64 [(0, .agg #[.int .i64 v.kind, .int .i64 v.p, .int .i64 v.q, .string v.str, .int .i64 v.ref])] (fun w0 => ?_)
  refine k_seq ?_
  refine k_reg ?_
  refine s_box #[.int .i64 v.kind, .int .i64 v.p, .int .i64 v.q, .string v.str, .int .i64 v.ref] (fun g1 => ?_)
  refine s_lt (t_pure (.bool false)) ?_
  refine s_nil ?_
  refine xs_then ?_
  refine k_seq ?_
  refine k_reg ?_
  refine s_pcall (fun _ h => new_s 1) ?_
  rintro _ _ (⟨hn, rfl, rfl⟩ | ⟨b2, hn1, hn2, rfl, rfl⟩)
  · exact absurd hn (by omega)
  refine s_lt (t_pure (.tuple #[.pointer (some ⟨b2, 0, none⟩), .int .i64 0])) ?_
  refine s_lt (t_pure (.pointer (some ⟨b2, 0, none⟩))) ?_
  refine s_lt (t_pure (.int .i64 0)) ?_
  refine s_lt (t_pure (.pointer (some ⟨b2, 0, none⟩))) ?_
  refine s_lt (t_pure (.int .i64 0)) ?_
  refine s_nil ?_
  refine xs_then ?_
  refine k_seq ?_
  refine k_seq ?_
  refine k_reg ?_
  refine s_lt (t_pure (.pointer (some ⟨b2, 0, none⟩))) ?_
  refine s_lt (t_pure (.bool false)) ?_
  refine s_lt (t_pure (.bool false)) ?_
  refine s_lt (t_pure (.int .i64 0)) ?_
  refine s_lt (t_cmp (c := false)) ?_
  refine s_lt (t_pure (.bool false)) ?_
  refine s_nil ?_
  refine xs_then ?_
  refine k_false ?_
  refine k_skip ?_
  refine xs_then ?_
  refine k_seq ?_
  refine k_seq ?_
  refine k_reg ?_
  refine s_lt (t_pure (.pointer (some ⟨g1, 3, none⟩))) ?_
  refine s_lt (t_load 1 (.string v.str)) ?_
  refine s_lt (t_kern (.int .i64 (v.str.size : Int))) ?_
  refine s_lt t_cmp ?_
  refine s_nil ?_
  refine xs_then ?_
  refine k_cond (decide ((4106 : Int) < (v.str.size : Int))) (fun c3 => ?_) (fun c3 => ?_)
  ·
    have p4 := of_decide_eq_true c3
    refine k_seq ?_
    refine k_reg ?_
    refine s_vcall (fun _ h => awake_s) ?_
    rintro _ rfl
    refine s_lt (t_pure (.bool true)) ?_
    refine s_nil ?_
    refine xs_then ?_
    refine k_ret ?_
    refine xs_ret ?_
    exact xs_fin [.bool true] [] (SI.tmp 2 SI.nil) (fun _ h => h.re [] [0, 0]) ⟨rfl, rfl⟩
  ·
    have p5 := of_decide_eq_false c3
    refine k_skip ?_
    refine xs_then ?_
    refine k_seq ?_
    refine k_reg ?_
    refine s_lt (t_pure (.pointer (some ⟨b2, 0, none⟩))) ?_
    refine s_lt (t_loadA 1 #[.int .i64 v.kind, .int .i64 v.p, .int .i64 v.q, .string v.str, .int .i64 v.ref]) ?_
    refine s_call [0] (push_e (L := []) (lim := 1) (v := v) (if_pos hv)) ?_
    rintro _ _ ⟨rfl, rfl⟩
    refine s_lt (t_pure (.int .i64 2)) ?_
    refine s_nil ?_
    refine xs_then ?_
    refine k_seq ?_
    refine k_seq ?_
    refine k_reg ?_
    refine s_lt (t_pure (.int .i64 2)) ?_
    refine s_lt (t_cmp (c := false)) ?_
    refine s_lt (t_loadA 1 #[.int .i64 v.kind, .int .i64 v.p, .int .i64 v.q, .string v.str, .int .i64 v.ref]) ?_
    refine s_vcall (fun _ h => valid_s v) ?_
    rintro u7 e6
    obtain rfl : u7 = .bool false := e6.trans (congrArg Value.bool (hv))
    refine s_lt (t_pure (.bool false)) ?_
    refine s_nil ?_
    refine xs_then ?_
    refine k_false ?_
    refine k_skip ?_
    refine xs_then ?_
    refine k_seq ?_
    refine k_reg ?_
    refine s_lt (t_pure (.pointer (some ⟨b2, 0, none⟩))) ?_
    refine s_call [0] (at_e (L := []) (lim := 1) (-1) (show atR [] (-1) = (zVl, 6) from rfl)) ?_
    rintro _ _ ⟨rfl, rfl⟩
    refine s_lt (t_pure (.tuple #[.agg #[.int .i64 zVl.kind, .int .i64 zVl.p, .int .i64 zVl.q, .string zVl.str, .int .i64 zVl.ref], .int .i64 6])) ?_
    refine s_lt (t_pure (.agg #[.int .i64 zVl.kind, .int .i64 zVl.p, .int .i64 zVl.q, .string zVl.str, .int .i64 zVl.ref])) ?_
    refine s_lt (t_pure (.int .i64 6)) ?_
    refine s_alloc (.agg #[.int .i64 0, .int .i64 0, .int .i64 0, .string ByteArray.empty, .int .i64 0]) #[.int .i64 0, .int .i64 0, .int .i64 0, .string ByteArray.empty, .int .i64 0] (fun g8 => ?_)
    refine s_store 0 #[.int .i64 zVl.kind, .int .i64 zVl.p, .int .i64 zVl.q, .string zVl.str, .int .i64 zVl.ref] ?_
    refine s_lt (t_pure (.int .i64 6)) ?_
    refine s_nil ?_
    refine xs_then ?_
    refine k_seq ?_
    refine k_seq ?_
    refine k_reg ?_
    refine s_lt (t_pure (.int .i64 2)) ?_
    refine s_lt (t_cmp (c := true)) ?_
    refine s_nil ?_
    refine xs_then ?_
    refine k_true ?_
    refine k_seq ?_
    refine k_reg ?_
    refine s_lt (t_pure (.int .i64 2)) ?_
    refine s_lt (t_cmp (c := true)) ?_
    refine s_lt (t_pure (.bool true)) ?_
    refine s_lt (t_pure (.int .i64 6)) ?_
    refine s_lt (t_cmp (c := true)) ?_
    refine s_lt (t_pure (.bool true)) ?_
    refine s_lt (t_pure (.bool true)) ?_
    refine s_vcall (fun _ h => awake_s) ?_
    rintro _ rfl
    refine s_lt (t_pure (.bool true)) ?_
    refine s_lt (t_pure (.bool true)) ?_
    refine s_nil ?_
    refine xs_then ?_
    refine k_ret ?_
    refine xs_ret ?_
    exact xs_fin [.bool true] [] (SI.tmp 2 SI.nil) (fun _ h => h.re [] [0, 0, 0]) ⟨rfl, rfl⟩
theorem holds_w {Z : Zone} (ht : KnTab Z) {v : Vl} (h0 : -9223372036854775808 ≤ v.ref) (h1 : v.ref ≤ 9223372036854775807) (hs : (v.str.size : Int) ≤ 4611686018427387904) : SF Tryd.prog 4 #[v.v] Z [] fun r Bs => r = .bool true ∧ Bs = [] := by
  cases hv : validB v
  · exact holds_f ht h0 h1 hs hv
  · exact holds_t ht h0 h1 hs hv
end Go.Proofs.YtdakfjdbdopmbaaDoor.St
