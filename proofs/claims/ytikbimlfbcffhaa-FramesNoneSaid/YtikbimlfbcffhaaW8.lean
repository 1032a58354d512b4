/-
  FramesNone: what a nil stack and a new one return; for every call.
-/
import Derived.Test.YtikbimlfbcffhaaW7
set_option linter.unusedSimpArgs false
set_option linter.unusedVariables false
set_option maxRecDepth 100000
namespace Go.Proofs.Ytikbimlfbcffhaa
open Go.Hp Go.J Go.S
open Go.Mem (Ty KTy blk elemAt pre suf blk_pre blk_suf aget aset strK)
theorem none_s {Z : Zone} (x : Opn) : SF Try.prog 8 #[x.v] Z [] fun v Bs => v = .bool true ∧ Bs = [] := by
  refine sf_enter Try.func8 83 [(0, .agg #[.int .i64 x.kind, .int .i64 x.n, .string x.name, .int .i64 x.line, .int .i64 x.base, .int .i64 x.extra, .int .i64 x.want, .bool x.tail])] (fun w0 => ?_)
  refine k_seq ?_
  refine k_reg ?_
  refine s_box #[.int .i64 x.kind, .int .i64 x.n, .string x.name, .int .i64 x.line, .int .i64 x.base, .int .i64 x.extra, .int .i64 x.want, .bool x.tail] (fun g1 => ?_)
  refine s_lt (t_pure (.bool false)) ?_
  refine s_nil ?_
  refine xs_then ?_
  refine k_seq ?_
  refine k_reg ?_
  refine s_lt (t_pure (.pointer none)) ?_
  refine s_nil ?_
  refine xs_then ?_
  refine k_seq ?_
  refine k_reg ?_
  refine s_lt (t_pure (.pointer none)) ?_
  refine s_vcall (fun _ h => pop_n) ?_
  rintro _ rfl
  refine s_lt (t_pure (.tuple #[.agg #[.string zFr.name, .int .i64 zFr.line, .int .i64 zFr.base, .int .i64 zFr.extra, .int .i64 zFr.want, .bool zFr.tail], .bool false])) ?_
  refine s_lt (t_pure (.agg #[.string zFr.name, .int .i64 zFr.line, .int .i64 zFr.base, .int .i64 zFr.extra, .int .i64 zFr.want, .bool zFr.tail])) ?_
  refine s_lt (t_pure (.bool false)) ?_
  refine s_alloc (.agg #[.string ByteArray.empty, .int .i64 0, .int .i64 0, .int .i64 0, .int .i64 0, .bool false]) #[.string ByteArray.empty, .int .i64 0, .int .i64 0, .int .i64 0, .int .i64 0, .bool false] (fun g2 => ?_)
  refine s_store 0 #[.string zFr.name, .int .i64 zFr.line, .int .i64 zFr.base, .int .i64 zFr.extra, .int .i64 zFr.want, .bool zFr.tail] ?_
  refine s_lt (t_pure (.bool false)) ?_
  refine s_nil ?_
  refine xs_then ?_
  refine k_seq ?_
  refine k_reg ?_
  refine s_pcall (fun _ h => new_s) ?_
  rintro _ _ ⟨b3, rfl, rfl⟩
  refine s_lt (t_pure (.pointer (some ⟨b3, 0, none⟩))) ?_
  refine s_nil ?_
  refine xs_then ?_
  refine k_seq ?_
  refine k_seq ?_
  refine k_reg ?_
  refine s_lt (t_pure (.pointer (some ⟨b3, 0, none⟩))) ?_
  refine s_lt (t_pure (.bool false)) ?_
  refine s_nil ?_
  refine xs_then ?_
  refine k_false ?_
  refine k_skip ?_
  refine xs_then ?_
  refine k_seq ?_
  refine k_reg ?_
  refine s_lt (t_pure (.pointer (some ⟨b3, 0, none⟩))) ?_
  refine s_call [0] (pop_s) ?_
  rintro _ _ ⟨rfl, rfl⟩
  refine s_lt (t_pure (.tuple #[.agg #[.string (((popR []).1.1).name), .int .i64 (((popR []).1.1).line), .int .i64 (((popR []).1.1).base), .int .i64 (((popR []).1.1).extra), .int .i64 (((popR []).1.1).want), .bool (((popR []).1.1).tail)], .bool ((popR []).1.2)])) ?_
  refine s_lt (t_pure (.agg #[.string (((popR []).1.1).name), .int .i64 (((popR []).1.1).line), .int .i64 (((popR []).1.1).base), .int .i64 (((popR []).1.1).extra), .int .i64 (((popR []).1.1).want), .bool (((popR []).1.1).tail)])) ?_
  refine s_lt (t_pure (.bool ((popR []).1.2))) ?_
  refine s_alloc (.agg #[.string ByteArray.empty, .int .i64 0, .int .i64 0, .int .i64 0, .int .i64 0, .bool false]) #[.string ByteArray.empty, .int .i64 0, .int .i64 0, .int .i64 0, .int .i64 0, .bool false] (fun g4 => ?_)
  refine s_store 0 #[.string (((popR []).1.1).name), .int .i64 (((popR []).1.1).line), .int .i64 (((popR []).1.1).base), .int .i64 (((popR []).1.1).extra), .int .i64 (((popR []).1.1).want), .bool (((popR []).1.1).tail)] ?_
  refine s_lt (t_pure (.bool ((popR []).1.2))) ?_
  refine s_nil ?_
  refine xs_then ?_
  refine k_seq ?_
  refine k_reg ?_
  refine s_lt (t_loadA 2 #[.string zFr.name, .int .i64 zFr.line, .int .i64 zFr.base, .int .i64 zFr.extra, .int .i64 zFr.want, .bool zFr.tail]) ?_
  refine s_lt (t_kern (.agg #[.string ByteArray.empty, .int .i64 0, .int .i64 0, .int .i64 0, .int .i64 0, .bool false])) ?_
  refine s_lt (Lt.to (t_eqS (fun w => (eq46 zFr (⟨ByteArray.empty, 0, 0, 0, 0, false⟩ : Fr) w).1)) (congrArg Value.bool (decide_eq_true rfl : (decide (zFr = (⟨ByteArray.empty, 0, 0, 0, 0, false⟩ : Fr))) = true))) ?_
  refine s_lt (t_pure (.bool true)) ?_
  refine s_lt (t_pure (.bool false)) ?_
  refine s_lt (t_pure (.bool true)) ?_
  refine s_lt (t_pure (.bool true)) ?_
  refine s_lt (t_pure (.bool true)) ?_
  refine s_lt (t_pure (.pointer none)) ?_
  refine s_lt (t_loadA 3 #[.int .i64 x.kind, .int .i64 x.n, .string x.name, .int .i64 x.line, .int .i64 x.base, .int .i64 x.extra, .int .i64 x.want, .bool x.tail]) ?_
  refine s_vcall (fun _ h => frame_s x) ?_
  rintro _ rfl
  refine s_vcall (fun _ h => push_n x.fr) ?_
  rintro _ rfl
  refine s_lt (t_cmp (c := true)) ?_
  refine s_lt (t_pure (.bool true)) ?_
  refine s_lt (t_pure (.bool true)) ?_
  refine s_lt (t_pure (.pointer none)) ?_
  refine s_lt (t_loadA 3 #[.int .i64 x.kind, .int .i64 x.n, .string x.name, .int .i64 x.line, .int .i64 x.base, .int .i64 x.extra, .int .i64 x.want, .bool x.tail]) ?_
  refine s_vcall (fun _ h => frame_s x) ?_
  rintro _ rfl
  refine s_vcall (fun _ h => repl_n x.fr) ?_
  rintro _ rfl
  refine s_lt (t_cmp (c := true)) ?_
  refine s_lt (t_pure (.bool true)) ?_
  refine s_lt (t_pure (.bool true)) ?_
  refine s_lt (t_pure (.pointer none)) ?_
  refine s_lt (t_pure (.pointer (some ⟨g1, 1, none⟩))) ?_
  refine s_lt (t_load 3) ?_
  refine s_vcall (fun _ h => at_n x.n) ?_
  rintro _ rfl
  refine s_lt (t_cmp (c := true)) ?_
  refine s_lt (t_pure (.bool true)) ?_
  refine s_lt (t_pure (.bool true)) ?_
  refine s_lt (t_pure (.pointer none)) ?_
  refine s_vcall (fun _ h => depth_n) ?_
  rintro _ rfl
  refine s_lt (t_cmp (c := true)) ?_
  refine s_lt (t_pure (.bool true)) ?_
  refine s_lt (t_pure (.bool true)) ?_
  refine s_lt (t_pure (.pointer none)) ?_
  refine s_pcall (fun _ h => trace_n) ?_
  rintro v5 _ rfl
  refine s_lt (t_len PlT_ok Try.underlying33 (.own 0)) ?_
  refine s_lt (Lt.to t_cmp (congrArg Value.bool (decide_eq_true rfl : (decide (([].length : Int) = 0)) = true))) ?_
  refine s_lt (t_pure (.bool true)) ?_
  refine s_lt (t_pure (.bool true)) ?_
  refine s_lt (t_loadA 1 #[.string (((popR []).1.1).name), .int .i64 (((popR []).1.1).line), .int .i64 (((popR []).1.1).base), .int .i64 (((popR []).1.1).extra), .int .i64 (((popR []).1.1).want), .bool (((popR []).1.1).tail)]) ?_
  refine s_lt (t_kern (.agg #[.string ByteArray.empty, .int .i64 0, .int .i64 0, .int .i64 0, .int .i64 0, .bool false])) ?_
  refine s_lt (Lt.to (t_eqS (fun w => (eq46 ((popR []).1.1) (⟨ByteArray.empty, 0, 0, 0, 0, false⟩ : Fr) w).1)) (congrArg Value.bool (decide_eq_true rfl : (decide ((popR []).1.1 = (⟨ByteArray.empty, 0, 0, 0, 0, false⟩ : Fr))) = true))) ?_
  refine s_lt (t_pure (.bool true)) ?_
  refine s_lt (t_pure (.bool true)) ?_
  refine s_lt (t_pure (.bool ((popR []).1.2))) ?_
  refine s_lt (Lt.to (t_pure (.bool (!((popR []).1.2)))) (congrArg Value.bool ((congrArg Bool.not (rfl)).trans rfl : (!((popR []).1.2)) = true))) ?_
  refine s_lt (t_pure (.bool true)) ?_
  refine s_lt (t_pure (.bool true)) ?_
  refine s_lt (t_pure (.pointer (some ⟨b3, 0, none⟩))) ?_
  refine s_vcall (fun _ h => depth_s (h.kn 2)) ?_
  rintro _ rfl
  refine s_lt (Lt.to t_cmp (congrArg Value.bool (decide_eq_true rfl : (decide ((((popR []).2).length : Int) = 0)) = true))) ?_
  refine s_lt (t_pure (.bool true)) ?_
  refine s_lt (t_pure (.bool true)) ?_
  refine s_lt (t_pure (.pointer (some ⟨b3, 0, none⟩))) ?_
  refine s_call [2] (at_s 1) ?_
  rintro _ _ ⟨rfl, rfl⟩
  refine s_lt (Lt.to t_cmp (congrArg Value.bool (decide_eq_true rfl : (decide ((atR ((popR []).2) 1).1 = 18)) = true))) ?_
  refine s_lt (t_pure (.bool true)) ?_
  refine s_lt (t_pure (.bool true)) ?_
  refine s_vcall (fun _ h => awake_s) ?_
  rintro _ rfl
  refine s_lt (t_pure (.bool true)) ?_
  refine s_lt (t_pure (.bool true)) ?_
  refine s_nil ?_
  refine xs_then ?_
  refine k_ret ?_
  exact xs_fin [.bool true] [] (SI.tmp 2 SI.nil) (fun _ h => h.re [] [0, 0, 0, 0, 0]) ⟨rfl, rfl⟩
end Go.Proofs.Ytikbimlfbcffhaa
