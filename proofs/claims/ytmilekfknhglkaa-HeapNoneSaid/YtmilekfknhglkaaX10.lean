/-
  Layer 14: HeapNone. Each law says its conditions.
-/
import Derived.Test.YtmilekfknhglkaaG5
set_option linter.unusedSimpArgs false
set_option linter.unusedVariables false
set_option maxRecDepth 100000
set_option maxHeartbeats 2000000
namespace Go.Proofs.Ytmilekfknhglkaa
open Go.Hp Go.J Go.S
open Go.Mem (Ty KTy blk elemAt pre suf blk_pre blk_suf aget aset strK aggDesc)
open Go.Mem (adel apos aget_aset aget_adel)
theorem nfind_s {Z : Zone} (v : Vl) : SF Try.prog 55 #[.pointer none, v.v] Z [] fun r Bs => r = .pointer none ∧ Bs = [] := by
 refine sf_enter Try.func55 27 [(0, .pointer none), (1, .agg #[.int .i64 v.kind, .int .i64 v.p, .int .i64 v.q, .string v.str, .int .i64 v.ref])] (fun w0 => ?_)
 refine k_sr ?_
 refine s_box #[.int .i64 v.kind, .int .i64 v.p, .int .i64 v.q, .string v.str, .int .i64 v.ref] (fun g1 => ?_)
 refine sp (.pointer none) ?_
 refine s_nt ?_
 refine k_seq ?_
 refine k_sr ?_
 refine sp (.pointer none) ?_
 refine sp (.bool true) ?_
 refine s_nt ?_
 refine k_true ?_
 refine k_sr ?_
 refine sp (.pointer none) ?_
 refine s_nt ?_
 refine k_ret ?_
 refine xs_ret ?_
 exact xs_fin [.pointer none] [] (SI.tmp 4 SI.nil) (fun _ h => h.re [] [0]) ⟨rfl, rfl⟩
theorem ntab_s {Z : Zone} (v : Vl) : SF Try.prog 40 #[.pointer none, v.v] Z [] fun r Bs => r = .pointer none ∧ Bs = [] := by
 refine sf_enter Try.func40 15 [(0, .pointer none), (1, .agg #[.int .i64 v.kind, .int .i64 v.p, .int .i64 v.q, .string v.str, .int .i64 v.ref])] (fun w0 => ?_)
 refine k_sr ?_
 refine s_box #[.int .i64 v.kind, .int .i64 v.p, .int .i64 v.q, .string v.str, .int .i64 v.ref] (fun g1 => ?_)
 refine sp (.pointer none) ?_
 refine s_nr ?_
 refine sp (.pointer none) ?_
 refine s_lt (t_loadA 0 #[.int .i64 v.kind, .int .i64 v.p, .int .i64 v.q, .string v.str, .int .i64 v.ref]) ?_
 refine s_vcall (fun _ h => nfind_s v) ?_
 rintro _ rfl
 refine sp (.pointer none) ?_
 refine s_nt ?_
 refine k_seq ?_
 refine k_sr ?_
 refine sp (.pointer none) ?_
 refine sp (.bool true) ?_
 refine s_nt ?_
 refine k_true ?_
 refine k_sr ?_
 refine sp (.pointer none) ?_
 refine s_nt ?_
 refine k_ret ?_
 refine xs_ret ?_
 exact xs_fin [.pointer none] [] (SI.tmp 4 SI.nil) (fun _ h => h.re [] [0]) ⟨rfl, rfl⟩
theorem nnt_s {Z : Zone}  : SF Try.prog 12 #[.pointer none] Z [] fun r Bs => r = pairV zVl 1 ∧ Bs = [] := by
 refine sf_enter Try.func12 14 [(0, .pointer none)] (fun w0 => ?_)
 refine k_sr ?_
 refine s_alloc (.agg #[.int .i64 0, .int .i64 0, .int .i64 0, .string ByteArray.empty, .int .i64 0]) #[.int .i64 0, .int .i64 0, .int .i64 0, .string ByteArray.empty, .int .i64 0] (fun g1 => ?_)
 refine sp (.int .i64 0) ?_
 refine s_nt ?_
 refine k_seq ?_
 refine k_sr ?_
 refine sp (.pointer none) ?_
 refine sp (.bool true) ?_
 refine s_nt ?_
 refine k_true ?_
 refine k_sr ?_
 refine s_lt (t_kern (.agg #[.int .i64 0, .int .i64 0, .int .i64 0, .string ByteArray.empty, .int .i64 0])) ?_
 refine s_store 0 #[.int .i64 0, .int .i64 0, .int .i64 0, .string ByteArray.empty, .int .i64 0] ?_
 refine sp (.int .i64 1) ?_
 refine s_nt ?_
 refine k_ret ?_
 refine xs_ret ?_
 exact xs_fin [.agg #[.int .i64 0, .int .i64 0, .int .i64 0, .string ByteArray.empty, .int .i64 0], .int .i64 1] [] (SI.agg 2 26 0 (SI.tmp 3 SI.nil)) (fun _ h => h.re [] [0]) ⟨rfl, rfl⟩
theorem nnf_s {Z : Zone} (n : Int) : SF Try.prog 59 #[.pointer none, .int .i64 n] Z [] fun r Bs => r = pairV zVl 1 ∧ Bs = [] := by
 refine sf_enter Try.func59 16 [(0, .pointer none), (1, .int .i64 n)] (fun w0 => ?_)
 refine k_sr ?_
 refine s_alloc (.agg #[.int .i64 0, .int .i64 0, .int .i64 0, .string ByteArray.empty, .int .i64 0]) #[.int .i64 0, .int .i64 0, .int .i64 0, .string ByteArray.empty, .int .i64 0] (fun g1 => ?_)
 refine sp (.int .i64 0) ?_
 refine s_nt ?_
 refine k_seq ?_
 refine k_sr ?_
 refine sp (.pointer none) ?_
 refine sp (.bool true) ?_
 refine s_nt ?_
 refine k_true ?_
 refine k_sr ?_
 refine s_lt (t_kern (.agg #[.int .i64 0, .int .i64 0, .int .i64 0, .string ByteArray.empty, .int .i64 0])) ?_
 refine s_store 0 #[.int .i64 0, .int .i64 0, .int .i64 0, .string ByteArray.empty, .int .i64 0] ?_
 refine sp (.int .i64 1) ?_
 refine s_nt ?_
 refine k_ret ?_
 refine xs_ret ?_
 exact xs_fin [.agg #[.int .i64 0, .int .i64 0, .int .i64 0, .string ByteArray.empty, .int .i64 0], .int .i64 1] [] (SI.agg 4 26 0 (SI.tmp 5 SI.nil)) (fun _ h => h.re [] [0]) ⟨rfl, rfl⟩
theorem nnh_s {Z : Zone} (n : Int) : SF Try.prog 60 #[.pointer none, .int .i64 n] Z [] fun r Bs => r = pairV zVl 1 ∧ Bs = [] := by
 refine sf_enter Try.func60 16 [(0, .pointer none), (1, .int .i64 n)] (fun w0 => ?_)
 refine k_sr ?_
 refine s_alloc (.agg #[.int .i64 0, .int .i64 0, .int .i64 0, .string ByteArray.empty, .int .i64 0]) #[.int .i64 0, .int .i64 0, .int .i64 0, .string ByteArray.empty, .int .i64 0] (fun g1 => ?_)
 refine sp (.int .i64 0) ?_
 refine s_nt ?_
 refine k_seq ?_
 refine k_sr ?_
 refine sp (.pointer none) ?_
 refine sp (.bool true) ?_
 refine s_nt ?_
 refine k_true ?_
 refine k_sr ?_
 refine s_lt (t_kern (.agg #[.int .i64 0, .int .i64 0, .int .i64 0, .string ByteArray.empty, .int .i64 0])) ?_
 refine s_store 0 #[.int .i64 0, .int .i64 0, .int .i64 0, .string ByteArray.empty, .int .i64 0] ?_
 refine sp (.int .i64 1) ?_
 refine s_nt ?_
 refine k_ret ?_
 refine xs_ret ?_
 exact xs_fin [.agg #[.int .i64 0, .int .i64 0, .int .i64 0, .string ByteArray.empty, .int .i64 0], .int .i64 1] [] (SI.agg 4 26 0 (SI.tmp 5 SI.nil)) (fun _ h => h.re [] [0]) ⟨rfl, rfl⟩
theorem nnd_s {Z : Zone} (s : ByteArray) : SF Try.prog 23 #[.pointer none, .string s] Z [] fun r Bs => r = pairV zVl 1 ∧ Bs = [] := by
 refine sf_enter Try.func23 23 [(0, .pointer none), (1, .string s)] (fun w0 => ?_)
 refine k_sr ?_
 refine s_alloc (.agg #[.int .i64 0, .int .i64 0, .int .i64 0, .string ByteArray.empty, .int .i64 0]) #[.int .i64 0, .int .i64 0, .int .i64 0, .string ByteArray.empty, .int .i64 0] (fun g1 => ?_)
 refine sp (.int .i64 0) ?_
 refine s_nt ?_
 refine k_seq ?_
 refine k_block ?_
 refine k_sr ?_
 refine sp (.pointer none) ?_
 refine sp (.bool true) ?_
 refine sp (.bool true) ?_
 refine s_nt ?_
 refine k_true ?_
 refine k_sr ?_
 refine s_lt (t_kern (.agg #[.int .i64 0, .int .i64 0, .int .i64 0, .string ByteArray.empty, .int .i64 0])) ?_
 refine s_store 0 #[.int .i64 0, .int .i64 0, .int .i64 0, .string ByteArray.empty, .int .i64 0] ?_
 refine sp (.int .i64 1) ?_
 refine s_nt ?_
 refine k_ret ?_
 refine xs_retBlock ?_
 refine xs_ret ?_
 exact xs_fin [.agg #[.int .i64 0, .int .i64 0, .int .i64 0, .string ByteArray.empty, .int .i64 0], .int .i64 1] [] (SI.agg 4 26 0 (SI.tmp 5 SI.nil)) (fun _ h => h.re [] [0]) ⟨rfl, rfl⟩
theorem nget_s {Z : Zone} (t : Vl) (k : Vl) : SF Try.prog 18 #[.pointer none, t.v, k.v] Z [] fun r Bs => r = pairV zVl 1 ∧ Bs = [] := by
 refine sf_enter Try.func18 20 [(0, .pointer none), (1, .agg #[.int .i64 t.kind, .int .i64 t.p, .int .i64 t.q, .string t.str, .int .i64 t.ref]), (2, .agg #[.int .i64 k.kind, .int .i64 k.p, .int .i64 k.q, .string k.str, .int .i64 k.ref])] (fun w0 => ?_)
 refine k_sr ?_
 refine s_box #[.int .i64 t.kind, .int .i64 t.p, .int .i64 t.q, .string t.str, .int .i64 t.ref] (fun g1 => ?_)
 refine s_box #[.int .i64 k.kind, .int .i64 k.p, .int .i64 k.q, .string k.str, .int .i64 k.ref] (fun g2 => ?_)
 refine s_alloc (.agg #[.int .i64 0, .int .i64 0, .int .i64 0, .string ByteArray.empty, .int .i64 0]) #[.int .i64 0, .int .i64 0, .int .i64 0, .string ByteArray.empty, .int .i64 0] (fun g3 => ?_)
 refine sp (.int .i64 0) ?_
 refine s_nr ?_
 refine sp (.pointer none) ?_
 refine s_lt (t_loadA 2 #[.int .i64 t.kind, .int .i64 t.p, .int .i64 t.q, .string t.str, .int .i64 t.ref]) ?_
 refine s_vcall (fun _ h => ntab_s t) ?_
 rintro _ rfl
 refine sp (.pointer none) ?_
 refine s_nt ?_
 refine k_seq ?_
 refine k_sr ?_
 refine sp (.pointer none) ?_
 refine sp (.bool true) ?_
 refine s_nt ?_
 refine k_true ?_
 refine k_sr ?_
 refine s_lt (t_kern (.agg #[.int .i64 0, .int .i64 0, .int .i64 0, .string ByteArray.empty, .int .i64 0])) ?_
 refine sp (.pointer none) ?_
 refine s_vcall (fun _ h => hmiss0_s) ?_
 rintro _ rfl
 refine s_store 0 #[.int .i64 0, .int .i64 0, .int .i64 0, .string ByteArray.empty, .int .i64 0] ?_
 refine sp (.int .i64 1) ?_
 refine s_nt ?_
 refine k_ret ?_
 refine xs_ret ?_
 exact xs_fin [.agg #[.int .i64 0, .int .i64 0, .int .i64 0, .string ByteArray.empty, .int .i64 0], .int .i64 1] [] (SI.agg 6 26 0 (SI.tmp 7 SI.nil)) (fun _ h => h.re [] [0, 0, 0]) ⟨rfl, rfl⟩
theorem nset_s {Z : Zone} (t : Vl) (k : Vl) (v : Vl) : SF Try.prog 13 #[.pointer none, t.v, k.v, v.v] Z [] fun r Bs => r = .int .i64 1 ∧ Bs = [] := by
 refine sf_enter Try.func13 40 [(0, .pointer none), (1, .agg #[.int .i64 t.kind, .int .i64 t.p, .int .i64 t.q, .string t.str, .int .i64 t.ref]), (2, .agg #[.int .i64 k.kind, .int .i64 k.p, .int .i64 k.q, .string k.str, .int .i64 k.ref]), (3, .agg #[.int .i64 v.kind, .int .i64 v.p, .int .i64 v.q, .string v.str, .int .i64 v.ref])] (fun w0 => ?_)
 refine k_sr ?_
 refine s_box #[.int .i64 t.kind, .int .i64 t.p, .int .i64 t.q, .string t.str, .int .i64 t.ref] (fun g1 => ?_)
 refine s_box #[.int .i64 k.kind, .int .i64 k.p, .int .i64 k.q, .string k.str, .int .i64 k.ref] (fun g2 => ?_)
 refine s_box #[.int .i64 v.kind, .int .i64 v.p, .int .i64 v.q, .string v.str, .int .i64 v.ref] (fun g3 => ?_)
 refine sp (.int .i64 0) ?_
 refine s_nr ?_
 refine sp (.pointer none) ?_
 refine s_lt (t_loadA 2 #[.int .i64 t.kind, .int .i64 t.p, .int .i64 t.q, .string t.str, .int .i64 t.ref]) ?_
 refine s_vcall (fun _ h => ntab_s t) ?_
 rintro _ rfl
 refine sp (.pointer none) ?_
 refine s_nt ?_
 refine k_seq ?_
 refine k_block ?_
 refine k_sr ?_
 refine sp (.pointer none) ?_
 refine sp (.bool true) ?_
 refine sp (.bool true) ?_
 refine s_nt ?_
 refine k_true ?_
 refine k_sr ?_
 refine sp (.pointer none) ?_
 refine s_vcall (fun _ h => hmiss0_s) ?_
 rintro _ rfl
 refine sp (.int .i64 1) ?_
 refine s_nt ?_
 refine k_ret ?_
 refine xs_retBlock ?_
 refine xs_ret ?_
 exact xs_fin [.int .i64 1] [] (SI.tmp 8 SI.nil) (fun _ h => h.re [] [0, 0, 0]) ⟨rfl, rfl⟩
theorem nlen_s {Z : Zone} (t : Vl) : SF Try.prog 15 #[.pointer none, t.v] Z [] fun r Bs => r = .tuple #[.int .i64 0, .int .i64 1] ∧ Bs = [] := by
 refine sf_enter Try.func15 16 [(0, .pointer none), (1, .agg #[.int .i64 t.kind, .int .i64 t.p, .int .i64 t.q, .string t.str, .int .i64 t.ref])] (fun w0 => ?_)
 refine k_sr ?_
 refine s_box #[.int .i64 t.kind, .int .i64 t.p, .int .i64 t.q, .string t.str, .int .i64 t.ref] (fun g1 => ?_)
 refine sp (.int .i64 0) ?_
 refine sp (.int .i64 0) ?_
 refine s_nr ?_
 refine sp (.pointer none) ?_
 refine s_lt (t_loadA 0 #[.int .i64 t.kind, .int .i64 t.p, .int .i64 t.q, .string t.str, .int .i64 t.ref]) ?_
 refine s_vcall (fun _ h => ntab_s t) ?_
 rintro _ rfl
 refine sp (.pointer none) ?_
 refine s_nt ?_
 refine k_seq ?_
 refine k_sr ?_
 refine sp (.pointer none) ?_
 refine sp (.bool true) ?_
 refine s_nt ?_
 refine k_true ?_
 refine k_sr ?_
 refine sp (.pointer none) ?_
 refine s_vcall (fun _ h => hmiss0_s) ?_
 rintro _ rfl
 refine sp (.int .i64 0) ?_
 refine sp (.int .i64 1) ?_
 refine s_nt ?_
 refine k_ret ?_
 refine xs_ret ?_
 exact xs_fin [.int .i64 0, .int .i64 1] [] (SI.tmp 4 (SI.tmp 5 SI.nil)) (fun _ h => h.re [] [0]) ⟨rfl, rfl⟩
theorem nnext_s {Z : Zone} (t : Vl) (k : Vl) : SF Try.prog 16 #[.pointer none, t.v, k.v] Z [] fun r Bs => r = .tuple #[zVl.v, zVl.v, .bool false, .int .i64 1] ∧ Bs = [] := by
 refine sf_enter Try.func16 27 [(0, .pointer none), (1, .agg #[.int .i64 t.kind, .int .i64 t.p, .int .i64 t.q, .string t.str, .int .i64 t.ref]), (2, .agg #[.int .i64 k.kind, .int .i64 k.p, .int .i64 k.q, .string k.str, .int .i64 k.ref])] (fun w0 => ?_)
 refine k_sr ?_
 refine s_box #[.int .i64 t.kind, .int .i64 t.p, .int .i64 t.q, .string t.str, .int .i64 t.ref] (fun g1 => ?_)
 refine s_box #[.int .i64 k.kind, .int .i64 k.p, .int .i64 k.q, .string k.str, .int .i64 k.ref] (fun g2 => ?_)
 refine s_alloc (.agg #[.int .i64 0, .int .i64 0, .int .i64 0, .string ByteArray.empty, .int .i64 0]) #[.int .i64 0, .int .i64 0, .int .i64 0, .string ByteArray.empty, .int .i64 0] (fun g3 => ?_)
 refine s_alloc (.agg #[.int .i64 0, .int .i64 0, .int .i64 0, .string ByteArray.empty, .int .i64 0]) #[.int .i64 0, .int .i64 0, .int .i64 0, .string ByteArray.empty, .int .i64 0] (fun g4 => ?_)
 refine sp (.bool false) ?_
 refine sp (.int .i64 0) ?_
 refine s_nr ?_
 refine sp (.pointer none) ?_
 refine s_lt (t_loadA 3 #[.int .i64 t.kind, .int .i64 t.p, .int .i64 t.q, .string t.str, .int .i64 t.ref]) ?_
 refine s_vcall (fun _ h => ntab_s t) ?_
 rintro _ rfl
 refine sp (.pointer none) ?_
 refine s_nt ?_
 refine k_seq ?_
 refine k_sr ?_
 refine sp (.pointer none) ?_
 refine sp (.bool true) ?_
 refine s_nt ?_
 refine k_true ?_
 refine k_sr ?_
 refine s_lt (t_kern (.agg #[.int .i64 0, .int .i64 0, .int .i64 0, .string ByteArray.empty, .int .i64 0])) ?_
 refine s_lt (t_kern (.agg #[.int .i64 0, .int .i64 0, .int .i64 0, .string ByteArray.empty, .int .i64 0])) ?_
 refine sp (.pointer none) ?_
 refine s_vcall (fun _ h => hmiss0_s) ?_
 rintro _ rfl
 refine s_store 1 #[.int .i64 0, .int .i64 0, .int .i64 0, .string ByteArray.empty, .int .i64 0] ?_
 refine s_store 0 #[.int .i64 0, .int .i64 0, .int .i64 0, .string ByteArray.empty, .int .i64 0] ?_
 refine sp (.bool false) ?_
 refine sp (.int .i64 1) ?_
 refine s_nt ?_
 refine k_ret ?_
 refine xs_ret ?_
 exact xs_fin [.agg #[.int .i64 0, .int .i64 0, .int .i64 0, .string ByteArray.empty, .int .i64 0], .agg #[.int .i64 0, .int .i64 0, .int .i64 0, .string ByteArray.empty, .int .i64 0], .bool false, .int .i64 1] [] (SI.agg 6 26 1 (SI.agg 7 26 0 (SI.tmp 8 (SI.tmp 9 SI.nil)))) (fun _ h => h.re [] [0, 0, 0, 0]) ⟨rfl, rfl⟩
theorem nins_s {Z : Zone} (t : Vl) (x : Int) (v : Vl) : SF Try.prog 61 #[.pointer none, t.v, .int .i64 x, v.v] Z [] fun r Bs => r = .int .i64 1 ∧ Bs = [] := by
 refine sf_enter Try.func61 30 [(0, .pointer none), (1, .agg #[.int .i64 t.kind, .int .i64 t.p, .int .i64 t.q, .string t.str, .int .i64 t.ref]), (2, .int .i64 x), (3, .agg #[.int .i64 v.kind, .int .i64 v.p, .int .i64 v.q, .string v.str, .int .i64 v.ref])] (fun w0 => ?_)
 refine k_sr ?_
 refine s_box #[.int .i64 t.kind, .int .i64 t.p, .int .i64 t.q, .string t.str, .int .i64 t.ref] (fun g1 => ?_)
 refine s_box #[.int .i64 v.kind, .int .i64 v.p, .int .i64 v.q, .string v.str, .int .i64 v.ref] (fun g2 => ?_)
 refine sp (.int .i64 0) ?_
 refine s_nr ?_
 refine sp (.pointer none) ?_
 refine s_lt (t_loadA 1 #[.int .i64 t.kind, .int .i64 t.p, .int .i64 t.q, .string t.str, .int .i64 t.ref]) ?_
 refine s_vcall (fun _ h => ntab_s t) ?_
 rintro _ rfl
 refine sp (.pointer none) ?_
 refine s_nt ?_
 refine k_seq ?_
 refine k_sr ?_
 refine sp (.pointer none) ?_
 refine sp (.bool true) ?_
 refine s_nt ?_
 refine k_true ?_
 refine k_sr ?_
 refine sp (.pointer none) ?_
 refine s_vcall (fun _ h => hmiss0_s) ?_
 rintro _ rfl
 refine sp (.int .i64 1) ?_
 refine s_nt ?_
 refine k_ret ?_
 refine xs_ret ?_
 exact xs_fin [.int .i64 1] [] (SI.tmp 8 SI.nil) (fun _ h => h.re [] [0, 0]) ⟨rfl, rfl⟩
theorem nrem_s {Z : Zone} (t : Vl) (x : Int) : SF Try.prog 62 #[.pointer none, t.v, .int .i64 x] Z [] fun r Bs => r = pairV zVl 1 ∧ Bs = [] := by
 refine sf_enter Try.func62 30 [(0, .pointer none), (1, .agg #[.int .i64 t.kind, .int .i64 t.p, .int .i64 t.q, .string t.str, .int .i64 t.ref]), (2, .int .i64 x)] (fun w0 => ?_)
 refine k_sr ?_
 refine s_box #[.int .i64 t.kind, .int .i64 t.p, .int .i64 t.q, .string t.str, .int .i64 t.ref] (fun g1 => ?_)
 refine s_alloc (.agg #[.int .i64 0, .int .i64 0, .int .i64 0, .string ByteArray.empty, .int .i64 0]) #[.int .i64 0, .int .i64 0, .int .i64 0, .string ByteArray.empty, .int .i64 0] (fun g2 => ?_)
 refine sp (.int .i64 0) ?_
 refine s_nr ?_
 refine sp (.pointer none) ?_
 refine s_lt (t_loadA 1 #[.int .i64 t.kind, .int .i64 t.p, .int .i64 t.q, .string t.str, .int .i64 t.ref]) ?_
 refine s_vcall (fun _ h => ntab_s t) ?_
 rintro _ rfl
 refine sp (.pointer none) ?_
 refine s_nt ?_
 refine k_seq ?_
 refine k_sr ?_
 refine sp (.pointer none) ?_
 refine sp (.bool true) ?_
 refine s_nt ?_
 refine k_true ?_
 refine k_sr ?_
 refine s_lt (t_kern (.agg #[.int .i64 0, .int .i64 0, .int .i64 0, .string ByteArray.empty, .int .i64 0])) ?_
 refine sp (.pointer none) ?_
 refine s_vcall (fun _ h => hmiss0_s) ?_
 rintro _ rfl
 refine s_store 0 #[.int .i64 0, .int .i64 0, .int .i64 0, .string ByteArray.empty, .int .i64 0] ?_
 refine sp (.int .i64 1) ?_
 refine s_nt ?_
 refine k_ret ?_
 refine xs_ret ?_
 exact xs_fin [.agg #[.int .i64 0, .int .i64 0, .int .i64 0, .string ByteArray.empty, .int .i64 0], .int .i64 1] [] (SI.agg 6 26 0 (SI.tmp 7 SI.nil)) (fun _ h => h.re [] [0, 0]) ⟨rfl, rfl⟩
theorem nmeta_s {Z : Zone} (v : Vl) : SF Try.prog 67 #[.pointer none, v.v] Z [] fun r Bs => r = zVl.v ∧ Bs = [] := by
 refine sf_enter Try.func67 16 [(0, .pointer none), (1, .agg #[.int .i64 v.kind, .int .i64 v.p, .int .i64 v.q, .string v.str, .int .i64 v.ref])] (fun w0 => ?_)
 refine k_sr ?_
 refine s_box #[.int .i64 v.kind, .int .i64 v.p, .int .i64 v.q, .string v.str, .int .i64 v.ref] (fun g1 => ?_)
 refine s_alloc (.agg #[.int .i64 0, .int .i64 0, .int .i64 0, .string ByteArray.empty, .int .i64 0]) #[.int .i64 0, .int .i64 0, .int .i64 0, .string ByteArray.empty, .int .i64 0] (fun g2 => ?_)
 refine s_nr ?_
 refine sp (.pointer none) ?_
 refine s_lt (t_loadA 1 #[.int .i64 v.kind, .int .i64 v.p, .int .i64 v.q, .string v.str, .int .i64 v.ref]) ?_
 refine s_vcall (fun _ h => nfind_s v) ?_
 rintro _ rfl
 refine sp (.pointer none) ?_
 refine s_nt ?_
 refine k_seq ?_
 refine k_sr ?_
 refine sp (.pointer none) ?_
 refine sp (.bool true) ?_
 refine s_nt ?_
 refine k_true ?_
 refine k_sr ?_
 refine s_lt (t_kern (.agg #[.int .i64 0, .int .i64 0, .int .i64 0, .string ByteArray.empty, .int .i64 0])) ?_
 refine s_store 0 #[.int .i64 0, .int .i64 0, .int .i64 0, .string ByteArray.empty, .int .i64 0] ?_
 refine s_nt ?_
 refine k_ret ?_
 refine xs_ret ?_
 exact xs_fin [.agg #[.int .i64 0, .int .i64 0, .int .i64 0, .string ByteArray.empty, .int .i64 0]] [] (SI.agg 4 26 0 SI.nil) (fun _ h => h.re [] [0, 0]) ⟨rfl, rfl⟩
theorem nsm_s {Z : Zone} (v : Vl) (m : Vl) : SF Try.prog 24 #[.pointer none, v.v, m.v] Z [] fun r Bs => r = .int .i64 1 ∧ Bs = [] := by
 refine sf_enter Try.func24 47 [(0, .pointer none), (1, .agg #[.int .i64 v.kind, .int .i64 v.p, .int .i64 v.q, .string v.str, .int .i64 v.ref]), (2, .agg #[.int .i64 m.kind, .int .i64 m.p, .int .i64 m.q, .string m.str, .int .i64 m.ref])] (fun w0 => ?_)
 refine k_sr ?_
 refine s_box #[.int .i64 v.kind, .int .i64 v.p, .int .i64 v.q, .string v.str, .int .i64 v.ref] (fun g1 => ?_)
 refine s_box #[.int .i64 m.kind, .int .i64 m.p, .int .i64 m.q, .string m.str, .int .i64 m.ref] (fun g2 => ?_)
 refine sp (.int .i64 0) ?_
 refine s_nr ?_
 refine sp (.pointer none) ?_
 refine s_lt (t_loadA 1 #[.int .i64 v.kind, .int .i64 v.p, .int .i64 v.q, .string v.str, .int .i64 v.ref]) ?_
 refine s_vcall (fun _ h => nfind_s v) ?_
 rintro _ rfl
 refine sp (.pointer none) ?_
 refine s_nt ?_
 refine k_seq ?_
 refine k_sr ?_
 refine sp (.pointer none) ?_
 refine sp (.bool true) ?_
 refine sp (.bool true) ?_
 refine s_skip ?_
 refine s_skip ?_
 refine s_skip ?_
 refine s_skip ?_
 refine s_skip ?_
 refine s_skip ?_
 refine s_skip ?_
 refine s_skip ?_
 refine s_skip ?_
 refine s_skip ?_
 refine s_skip ?_
 refine s_skip ?_
 refine sp (.bool true) ?_
 refine sp (.bool true) ?_
 refine s_skip ?_
 refine s_skip ?_
 refine s_skip ?_
 refine s_skip ?_
 refine s_skip ?_
 refine s_skip ?_
 refine s_skip ?_
 refine s_skip ?_
 refine s_skip ?_
 refine sp (.bool true) ?_
 refine s_nt ?_
 refine k_true ?_
 refine k_sr ?_
 refine sp (.pointer none) ?_
 refine s_vcall (fun _ h => hmiss0_s) ?_
 rintro _ rfl
 refine sp (.int .i64 1) ?_
 refine s_nt ?_
 refine k_ret ?_
 refine xs_ret ?_
 exact xs_fin [.int .i64 1] [] (SI.tmp 6 SI.nil) (fun _ h => h.re [] [0, 0]) ⟨rfl, rfl⟩
theorem ndat_s {Z : Zone} (v : Vl) (x : Int) : SF Try.prog 56 #[.pointer none, v.v, .int .i64 x] Z [] fun r Bs => r = .tuple #[.pointer none, .int .i64 1] ∧ Bs = [] := by
 refine sf_enter Try.func56 32 [(0, .pointer none), (1, .agg #[.int .i64 v.kind, .int .i64 v.p, .int .i64 v.q, .string v.str, .int .i64 v.ref]), (2, .int .i64 x)] (fun w0 => ?_)
 refine k_sr ?_
 refine s_box #[.int .i64 v.kind, .int .i64 v.p, .int .i64 v.q, .string v.str, .int .i64 v.ref] (fun g1 => ?_)
 refine sp (.pointer none) ?_
 refine sp (.int .i64 0) ?_
 refine s_nr ?_
 refine sp (.pointer none) ?_
 refine s_lt (t_loadA 0 #[.int .i64 v.kind, .int .i64 v.p, .int .i64 v.q, .string v.str, .int .i64 v.ref]) ?_
 refine s_vcall (fun _ h => nfind_s v) ?_
 rintro _ rfl
 refine sp (.pointer none) ?_
 refine s_nt ?_
 refine k_seq ?_
 refine k_block ?_
 refine k_sr ?_
 refine sp (.pointer none) ?_
 refine sp (.bool true) ?_
 refine sp (.bool true) ?_
 refine s_skip ?_
 refine s_skip ?_
 refine s_skip ?_
 refine s_skip ?_
 refine s_skip ?_
 refine sp (.bool true) ?_
 refine sp (.bool true) ?_
 refine s_nt ?_
 refine k_true ?_
 refine k_sr ?_
 refine sp (.pointer none) ?_
 refine s_vcall (fun _ h => hmiss0_s) ?_
 rintro _ rfl
 refine sp (.pointer none) ?_
 refine sp (.int .i64 1) ?_
 refine s_nt ?_
 refine k_ret ?_
 refine xs_retBlock ?_
 refine xs_ret ?_
 exact xs_fin [.pointer none, .int .i64 1] [] (SI.tmp 6 (SI.tmp 7 SI.nil)) (fun _ h => h.re [] [0]) ⟨rfl, rfl⟩
theorem nslot_s {Z : Zone} (v : Vl) (x : Int) : SF Try.prog 63 #[.pointer none, v.v, .int .i64 x] Z [] fun r Bs => r = pairV zVl 1 ∧ Bs = [] := by
 refine sf_enter Try.func63 29 [(0, .pointer none), (1, .agg #[.int .i64 v.kind, .int .i64 v.p, .int .i64 v.q, .string v.str, .int .i64 v.ref]), (2, .int .i64 x)] (fun w0 => ?_)
 refine k_sr ?_
 refine s_box #[.int .i64 v.kind, .int .i64 v.p, .int .i64 v.q, .string v.str, .int .i64 v.ref] (fun g1 => ?_)
 refine s_alloc (.agg #[.int .i64 0, .int .i64 0, .int .i64 0, .string ByteArray.empty, .int .i64 0]) #[.int .i64 0, .int .i64 0, .int .i64 0, .string ByteArray.empty, .int .i64 0] (fun g2 => ?_)
 refine sp (.int .i64 0) ?_
 refine s_nr ?_
 refine sp (.pointer none) ?_
 refine s_lt (t_loadA 1 #[.int .i64 v.kind, .int .i64 v.p, .int .i64 v.q, .string v.str, .int .i64 v.ref]) ?_
 refine sp (.int .i64 x) ?_
 refine s_vcall (fun _ h => ndat_s v x) ?_
 rintro _ rfl
 refine sp (.tuple #[.pointer none, .int .i64 1]) ?_
 refine sp (.pointer none) ?_
 refine sp (.int .i64 1) ?_
 refine sp (.pointer none) ?_
 refine sp (.int .i64 1) ?_
 refine s_nt ?_
 refine k_seq ?_
 refine k_sr ?_
 refine sp (.int .i64 1) ?_
 refine s_lt (t_cmp (c := true)) ?_
 refine s_nt ?_
 refine k_true ?_
 refine k_sr ?_
 refine s_lt (t_kern (.agg #[.int .i64 0, .int .i64 0, .int .i64 0, .string ByteArray.empty, .int .i64 0])) ?_
 refine sp (.int .i64 1) ?_
 refine s_store 0 #[.int .i64 0, .int .i64 0, .int .i64 0, .string ByteArray.empty, .int .i64 0] ?_
 refine sp (.int .i64 1) ?_
 refine s_nt ?_
 refine k_ret ?_
 refine xs_ret ?_
 exact xs_fin [.agg #[.int .i64 0, .int .i64 0, .int .i64 0, .string ByteArray.empty, .int .i64 0], .int .i64 1] [] (SI.agg 6 26 0 (SI.tmp 7 SI.nil)) (fun _ h => h.re [] [0, 0]) ⟨rfl, rfl⟩
theorem nss_s {Z : Zone} (v : Vl) (x : Int) (y : Vl) : SF Try.prog 25 #[.pointer none, v.v, .int .i64 x, y.v] Z [] fun r Bs => r = .int .i64 1 ∧ Bs = [] := by
 refine sf_enter Try.func25 38 [(0, .pointer none), (1, .agg #[.int .i64 v.kind, .int .i64 v.p, .int .i64 v.q, .string v.str, .int .i64 v.ref]), (2, .int .i64 x), (3, .agg #[.int .i64 y.kind, .int .i64 y.p, .int .i64 y.q, .string y.str, .int .i64 y.ref])] (fun w0 => ?_)
 refine k_sr ?_
 refine s_box #[.int .i64 v.kind, .int .i64 v.p, .int .i64 v.q, .string v.str, .int .i64 v.ref] (fun g1 => ?_)
 refine s_box #[.int .i64 y.kind, .int .i64 y.p, .int .i64 y.q, .string y.str, .int .i64 y.ref] (fun g2 => ?_)
 refine sp (.int .i64 0) ?_
 refine s_nr ?_
 refine sp (.pointer none) ?_
 refine s_lt (t_loadA 1 #[.int .i64 v.kind, .int .i64 v.p, .int .i64 v.q, .string v.str, .int .i64 v.ref]) ?_
 refine sp (.int .i64 x) ?_
 refine s_vcall (fun _ h => ndat_s v x) ?_
 rintro _ rfl
 refine sp (.tuple #[.pointer none, .int .i64 1]) ?_
 refine sp (.pointer none) ?_
 refine sp (.int .i64 1) ?_
 refine sp (.pointer none) ?_
 refine sp (.int .i64 1) ?_
 refine s_nt ?_
 refine k_seq ?_
 refine k_sr ?_
 refine sp (.int .i64 1) ?_
 refine s_lt (t_cmp (c := true)) ?_
 refine s_nt ?_
 refine k_true ?_
 refine k_sr ?_
 refine sp (.int .i64 1) ?_
 refine sp (.int .i64 1) ?_
 refine s_nt ?_
 refine k_ret ?_
 refine xs_ret ?_
 exact xs_fin [.int .i64 1] [] (SI.tmp 8 SI.nil) (fun _ h => h.re [] [0, 0]) ⟨rfl, rfl⟩
theorem nsr_s {Z : Zone} (v : Vl) (rv : Value) : SF Try.prog 64 #[.pointer none, v.v, rv] Z [] fun r Bs => r = .int .i64 1 ∧ Bs = [] := by
 refine sf_enter Try.func64 63 [(0, .pointer none), (1, .agg #[.int .i64 v.kind, .int .i64 v.p, .int .i64 v.q, .string v.str, .int .i64 v.ref]), (2, rv)] (fun w0 => ?_)
 refine k_sr ?_
 refine s_box #[.int .i64 v.kind, .int .i64 v.p, .int .i64 v.q, .string v.str, .int .i64 v.ref] (fun g1 => ?_)
 refine sp (.int .i64 0) ?_
 refine s_nr ?_
 refine sp (.pointer none) ?_
 refine s_lt (t_loadA 0 #[.int .i64 v.kind, .int .i64 v.p, .int .i64 v.q, .string v.str, .int .i64 v.ref]) ?_
 refine s_vcall (fun _ h => nfind_s v) ?_
 rintro _ rfl
 refine sp (.pointer none) ?_
 refine s_nt ?_
 refine k_seq ?_
 refine k_sr ?_
 refine sp (.pointer none) ?_
 refine sp (.bool true) ?_
 refine sp (.bool true) ?_
 refine s_skip ?_
 refine s_skip ?_
 refine s_skip ?_
 refine s_skip ?_
 refine s_skip ?_
 refine s_skip ?_
 refine s_skip ?_
 refine s_skip ?_
 refine s_skip ?_
 refine s_skip ?_
 refine s_skip ?_
 refine s_skip ?_
 refine sp (.bool true) ?_
 refine s_nt ?_
 refine k_true ?_
 refine k_sr ?_
 refine sp (.pointer none) ?_
 refine s_vcall (fun _ h => hmiss0_s) ?_
 rintro _ rfl
 refine sp (.int .i64 1) ?_
 refine s_nt ?_
 refine k_ret ?_
 refine xs_ret ?_
 exact xs_fin [.int .i64 1] [] (SI.tmp 6 SI.nil) (fun _ h => h.re [] [0]) ⟨rfl, rfl⟩
theorem ndrop_s {Z : Zone} (id : Int) : SF Try.prog 33 #[.pointer none, .int .i64 id] Z [] fun r Bs => r = .int .i64 1 ∧ Bs = [] := by
 refine sf_enter Try.func33 21 [(0, .pointer none), (1, .int .i64 id)] (fun w0 => ?_)
 refine k_sr ?_
 refine sp (.int .i64 0) ?_
 refine s_nt ?_
 refine k_seq ?_
 refine k_block ?_
 refine k_sr ?_
 refine sp (.pointer none) ?_
 refine sp (.bool true) ?_
 refine sp (.bool true) ?_
 refine s_nt ?_
 refine k_true ?_
 refine k_sr ?_
 refine sp (.int .i64 1) ?_
 refine s_nt ?_
 refine k_ret ?_
 refine xs_retBlock ?_
 refine xs_ret ?_
 exact xs_fin [.int .i64 1] [] (SI.tmp 4 SI.nil) (fun _ h => h.re [] []) ⟨rfl, rfl⟩
theorem ntag_s {Z : Zone} (v : Vl) : SF Try.prog 65 #[.pointer none, v.v] Z [] fun r Bs => r = .tuple #[.int .i64 0, .bool false] ∧ Bs = [] := by
 refine sf_enter Try.func65 30 [(0, .pointer none), (1, .agg #[.int .i64 v.kind, .int .i64 v.p, .int .i64 v.q, .string v.str, .int .i64 v.ref])] (fun w0 => ?_)
 refine k_sr ?_
 refine s_box #[.int .i64 v.kind, .int .i64 v.p, .int .i64 v.q, .string v.str, .int .i64 v.ref] (fun g1 => ?_)
 refine sp (.int .i64 0) ?_
 refine sp (.bool false) ?_
 refine s_nr ?_
 refine sp (.pointer none) ?_
 refine s_lt (t_loadA 0 #[.int .i64 v.kind, .int .i64 v.p, .int .i64 v.q, .string v.str, .int .i64 v.ref]) ?_
 refine s_vcall (fun _ h => nfind_s v) ?_
 rintro _ rfl
 refine sp (.pointer none) ?_
 refine s_nt ?_
 refine k_seq ?_
 refine k_sr ?_
 refine sp (.pointer none) ?_
 refine sp (.bool true) ?_
 refine sp (.bool true) ?_
 refine s_skip ?_
 refine s_skip ?_
 refine s_skip ?_
 refine s_skip ?_
 refine s_skip ?_
 refine s_skip ?_
 refine s_skip ?_
 refine s_skip ?_
 refine s_skip ?_
 refine s_skip ?_
 refine s_skip ?_
 refine s_skip ?_
 refine sp (.bool true) ?_
 refine s_nt ?_
 refine k_true ?_
 refine k_sr ?_
 refine sp (.int .i64 0) ?_
 refine sp (.bool false) ?_
 refine s_nt ?_
 refine k_ret ?_
 refine xs_ret ?_
 exact xs_fin [.int .i64 0, .bool false] [] (SI.tmp 4 (SI.tmp 5 SI.nil)) (fun _ h => h.re [] [0]) ⟨rfl, rfl⟩
theorem nname_s {Z : Zone} (v : Vl) : SF Try.prog 66 #[.pointer none, v.v] Z [] fun r Bs => r = .tuple #[.string ByteArray.empty, .bool false] ∧ Bs = [] := by
 refine sf_enter Try.func66 23 [(0, .pointer none), (1, .agg #[.int .i64 v.kind, .int .i64 v.p, .int .i64 v.q, .string v.str, .int .i64 v.ref])] (fun w0 => ?_)
 refine k_sr ?_
 refine s_box #[.int .i64 v.kind, .int .i64 v.p, .int .i64 v.q, .string v.str, .int .i64 v.ref] (fun g1 => ?_)
 refine sp (.string ByteArray.empty) ?_
 refine sp (.bool false) ?_
 refine s_nr ?_
 refine sp (.pointer none) ?_
 refine s_lt (t_loadA 0 #[.int .i64 v.kind, .int .i64 v.p, .int .i64 v.q, .string v.str, .int .i64 v.ref]) ?_
 refine s_vcall (fun _ h => nfind_s v) ?_
 rintro _ rfl
 refine sp (.pointer none) ?_
 refine s_nt ?_
 refine k_seq ?_
 refine k_sr ?_
 refine sp (.pointer none) ?_
 refine sp (.bool true) ?_
 refine sp (.bool true) ?_
 refine s_skip ?_
 refine s_skip ?_
 refine s_skip ?_
 refine s_skip ?_
 refine s_skip ?_
 refine sp (.bool true) ?_
 refine s_nt ?_
 refine k_true ?_
 refine k_sr ?_
 refine sp (.string ByteArray.empty) ?_
 refine sp (.bool false) ?_
 refine s_nt ?_
 refine k_ret ?_
 refine xs_ret ?_
 exact xs_fin [.string ByteArray.empty, .bool false] [] (SI.tmp 4 (SI.tmp 5 SI.nil)) (fun _ h => h.re [] [0]) ⟨rfl, rfl⟩
theorem nalive_s {Z : Zone} (id : Int) : SF Try.prog 31 #[.pointer none, .int .i64 id] Z [] fun r Bs => r = .bool false ∧ Bs = [] := by
 refine sf_enter Try.func31 16 [(0, .pointer none), (1, .int .i64 id)] (fun w0 => ?_)
 refine k_sr ?_
 refine sp (.bool false) ?_
 refine s_nr ?_
 refine sp (.pointer none) ?_
 refine sp (.bool false) ?_
 refine sp (.bool false) ?_
 refine s_skip ?_
 refine s_skip ?_
 refine s_skip ?_
 refine s_skip ?_
 refine s_skip ?_
 refine s_skip ?_
 refine s_skip ?_
 refine sp (.bool false) ?_
 refine sp (.bool false) ?_
 refine s_nt ?_
 refine k_ret ?_
 exact xs_fin [.bool false] [] (SI.tmp 4 SI.nil) (fun _ h => h.re [] []) ⟨rfl, rfl⟩
theorem nobj_s {Z : Zone} (id : Int) (weak : Int) : SF Try.prog 28 #[.pointer none, .int .i64 id, .int .i64 weak] Z [] fun r Bs => r = .tuple #[.agg #[.int .i64 0, .int .i64 0, .int .i64 0, .slice none 0 0, .slice none 0 0], .bool false] ∧ Bs = [] := by
 refine sf_enter Try.func28 73 [(0, .pointer none), (1, .int .i64 id), (2, .int .i64 weak)] (fun w0 => ?_)
 refine k_sr ?_
 refine s_alloc (.agg #[.int .i64 0, .int .i64 0, .int .i64 0, (.slice none 0 0), (.slice none 0 0)]) #[.int .i64 0, .int .i64 0, .int .i64 0, (.slice none 0 0), (.slice none 0 0)] (fun g1 => ?_)
 refine sp (.bool false) ?_
 refine s_nt ?_
 refine k_seq ?_
 refine k_sr ?_
 refine sp (.pointer none) ?_
 refine sp (.int .i64 id) ?_
 refine s_vcall (fun _ h => nalive_s id) ?_
 rintro _ rfl
 refine sp (.bool true) ?_
 refine s_nt ?_
 refine k_true ?_
 refine k_sr ?_
 refine s_lt (t_kern (.agg #[.int .i64 0, .int .i64 0, .int .i64 0, (.slice none 0 0), (.slice none 0 0)])) ?_
 refine s_store 0 #[.int .i64 0, .int .i64 0, .int .i64 0, (.slice none 0 0), (.slice none 0 0)] ?_
 refine sp (.bool false) ?_
 refine s_nt ?_
 refine k_ret ?_
 refine xs_ret ?_
 exact xs_fin [.agg #[.int .i64 0, .int .i64 0, .int .i64 0, (.slice none 0 0), (.slice none 0 0)], .bool false] [] (SI.agg 6 57 0 (SI.tmp 7 SI.nil)) (fun _ h => h.re [] [0]) ⟨rfl, rfl⟩
theorem nids_s {Z : Zone}  : SF Try.prog 34 #[.pointer none] Z [] fun r Bs => r = .slice none 0 0 ∧ Bs = [] := by
 refine sf_enter Try.func34 11 [(0, .pointer none)] (fun w0 => ?_)
 refine k_sr ?_
 refine sp (.slice none 0 0) ?_
 refine s_nt ?_
 refine k_seq ?_
 refine k_sr ?_
 refine sp (.pointer none) ?_
 refine sp (.bool true) ?_
 refine s_nt ?_
 refine k_true ?_
 refine k_sr ?_
 refine sp (.slice none 0 0) ?_
 refine s_nt ?_
 refine k_ret ?_
 refine xs_ret ?_
 exact xs_fin [(.slice none 0 0)] [] (SI.tmp 2 SI.nil) (fun _ h => h.re [] []) ⟨rfl, rfl⟩
theorem ntch_s {Z : Zone}  : SF Try.prog 35 #[.pointer none] Z [] fun r Bs => r = .slice none 0 0 ∧ Bs = [] := by
 refine sf_enter Try.func35 30 [(0, .pointer none)] (fun w0 => ?_)
 refine k_sr ?_
 refine sp (.slice none 0 0) ?_
 refine s_nt ?_
 refine k_seq ?_
 refine k_sr ?_
 refine sp (.pointer none) ?_
 refine sp (.bool true) ?_
 refine s_nt ?_
 refine k_true ?_
 refine k_sr ?_
 refine sp (.slice none 0 0) ?_
 refine s_nt ?_
 refine k_ret ?_
 refine xs_ret ?_
 exact xs_fin [(.slice none 0 0)] [] (SI.tmp 2 SI.nil) (fun _ h => h.re [] []) ⟨rfl, rfl⟩
theorem ncnt_s {Z : Zone}  : SF Try.prog 36 #[.pointer none] Z [] fun r Bs => r = .int .i64 0 ∧ Bs = [] := by
 refine sf_enter Try.func36 10 [(0, .pointer none)] (fun w0 => ?_)
 refine k_sr ?_
 refine sp (.int .i64 0) ?_
 refine s_nt ?_
 refine k_seq ?_
 refine k_sr ?_
 refine sp (.pointer none) ?_
 refine sp (.bool true) ?_
 refine s_nt ?_
 refine k_true ?_
 refine k_sr ?_
 refine sp (.int .i64 0) ?_
 refine s_nt ?_
 refine k_ret ?_
 refine xs_ret ?_
 exact xs_fin [.int .i64 0] [] (SI.tmp 2 SI.nil) (fun _ h => h.re [] []) ⟨rfl, rfl⟩
theorem nsz_s {Z : Zone}  : SF Try.prog 21 #[.pointer none] Z [] fun r Bs => r = .int .i64 0 ∧ Bs = [] := by
 refine sf_enter Try.func21 22 [(0, .pointer none)] (fun w0 => ?_)
 refine k_sr ?_
 refine sp (.int .i64 0) ?_
 refine s_nt ?_
 refine k_seq ?_
 refine k_sr ?_
 refine sp (.pointer none) ?_
 refine sp (.bool true) ?_
 refine s_nt ?_
 refine k_true ?_
 refine k_sr ?_
 refine sp (.int .i64 0) ?_
 refine s_nt ?_
 refine k_ret ?_
 refine xs_ret ?_
 exact xs_fin [.int .i64 0] [] (SI.tmp 2 SI.nil) (fun _ h => h.re [] []) ⟨rfl, rfl⟩
def noneR (c : Cl) : Rs := if 0 ≤ c.kind ∧ c.kind ≤ 14 then ⟨zVl, zVl, 0, ByteArray.empty, false, 1⟩ else ⟨zVl, zVl, 0, ByteArray.empty, false, 0⟩
theorem noneR_in {c : Cl} (h : 0 ≤ c.kind ∧ c.kind ≤ 14) : noneR c = ⟨zVl, zVl, 0, ByteArray.empty, false, 1⟩ := if_pos h
theorem noneR_out {c : Cl} (h : ¬ (0 ≤ c.kind ∧ c.kind ≤ 14)) : noneR c = ⟨zVl, zVl, 0, ByteArray.empty, false, 0⟩ := if_neg h
theorem nprogram_s {Z : Zone} (c : Cl) : SF Try.prog 30 #[.pointer none, c.w] Z [] fun r Bs => r = (noneR c).w_ ∧ Bs = [] := by
 refine sf_enter Try.func30 246 [(0, .pointer none), (1, .agg #[.int .i64 c.kind, .int .i64 c.a.kind, .int .i64 c.a.p, .int .i64 c.a.q, .string c.a.str, .int .i64 c.a.ref, .int .i64 c.b.kind, .int .i64 c.b.p, .int .i64 c.b.q, .string c.b.str, .int .i64 c.b.ref, .int .i64 c.c.kind, .int .i64 c.c.p, .int .i64 c.c.q, .string c.c.str, .int .i64 c.c.ref, .int .i64 c.n, .string c.s, c.lv.v])] (fun w0 => ?_)
 refine k_sr ?_
 refine s_box #[.int .i64 c.kind, .int .i64 c.a.kind, .int .i64 c.a.p, .int .i64 c.a.q, .string c.a.str, .int .i64 c.a.ref, .int .i64 c.b.kind, .int .i64 c.b.p, .int .i64 c.b.q, .string c.b.str, .int .i64 c.b.ref, .int .i64 c.c.kind, .int .i64 c.c.p, .int .i64 c.c.q, .string c.c.str, .int .i64 c.c.ref, .int .i64 c.n, .string c.s, c.lv.v] (fun g1 => ?_)
 refine s_alloc (.agg #[.int .i64 0, .int .i64 0, .int .i64 0, .string ByteArray.empty, .int .i64 0, .int .i64 0, .int .i64 0, .int .i64 0, .string ByteArray.empty, .int .i64 0, .int .i64 0, .string ByteArray.empty, .bool false, .int .i64 0]) #[.int .i64 0, .int .i64 0, .int .i64 0, .string ByteArray.empty, .int .i64 0, .int .i64 0, .int .i64 0, .int .i64 0, .string ByteArray.empty, .int .i64 0, .int .i64 0, .string ByteArray.empty, .bool false, .int .i64 0] (fun g2 => ?_)
 refine s_nr ?_
 refine s_lt (t_kern (.agg #[.int .i64 0, .int .i64 0, .int .i64 0, .string ByteArray.empty, .int .i64 0, .int .i64 0, .int .i64 0, .int .i64 0, .string ByteArray.empty, .int .i64 0, .int .i64 0, .string ByteArray.empty, .bool false, .int .i64 0])) ?_
 refine s_alloc (.agg #[.int .i64 0, .int .i64 0, .int .i64 0, .string ByteArray.empty, .int .i64 0, .int .i64 0, .int .i64 0, .int .i64 0, .string ByteArray.empty, .int .i64 0, .int .i64 0, .string ByteArray.empty, .bool false, .int .i64 0]) #[.int .i64 0, .int .i64 0, .int .i64 0, .string ByteArray.empty, .int .i64 0, .int .i64 0, .int .i64 0, .int .i64 0, .string ByteArray.empty, .int .i64 0, .int .i64 0, .string ByteArray.empty, .bool false, .int .i64 0] (fun g3 => ?_)
 refine s_store 0 #[.int .i64 0, .int .i64 0, .int .i64 0, .string ByteArray.empty, .int .i64 0, .int .i64 0, .int .i64 0, .int .i64 0, .string ByteArray.empty, .int .i64 0, .int .i64 0, .string ByteArray.empty, .bool false, .int .i64 0] ?_
 refine s_nt ?_
 refine k_seq ?_
 refine k_sr ?_
 refine sp (pB g1 0) ?_
 refine s_lt (t_load 2 (.int .i64 c.kind)) ?_
 refine s_nt ?_
 refine k_block ?_
 refine k_sr ?_
 refine s_lt t_cmp ?_
 refine sp (.bool (decide (c.kind = 0))) ?_
 refine s_nt ?_
 refine k_cond (decide (c.kind = 0)) (fun c4 => ?_) (fun c4 => ?_)
 ·
  have p5 := of_decide_eq_true c4
  refine k_sr ?_
  refine sp (.pointer none) ?_
  refine s_vcall (fun _ h => nnt_s) ?_
  rintro _ rfl
  refine sp (.tuple #[.agg #[.int .i64 zVl.kind, .int .i64 zVl.p, .int .i64 zVl.q, .string zVl.str, .int .i64 zVl.ref], .int .i64 1]) ?_
  refine sp (.agg #[.int .i64 zVl.kind, .int .i64 zVl.p, .int .i64 zVl.q, .string zVl.str, .int .i64 zVl.ref]) ?_
  refine sp (.int .i64 1) ?_
  refine s_alloc (.agg #[.int .i64 0, .int .i64 0, .int .i64 0, .string ByteArray.empty, .int .i64 0]) #[.int .i64 0, .int .i64 0, .int .i64 0, .string ByteArray.empty, .int .i64 0] (fun g6 => ?_)
  refine s_store 0 #[.int .i64 zVl.kind, .int .i64 zVl.p, .int .i64 zVl.q, .string zVl.str, .int .i64 zVl.ref] ?_
  refine sp (.int .i64 1) ?_
  refine s_nt ?_
  refine k_reg ?_
  refine s_lt (t_loadA 0 #[.int .i64 zVl.kind, .int .i64 zVl.p, .int .i64 zVl.q, .string zVl.str, .int .i64 zVl.ref]) ?_
  refine sp (.int .i64 1) ?_
  refine s_lt (t_kern (.agg #[.int .i64 zVl.kind, .int .i64 zVl.p, .int .i64 zVl.q, .string zVl.str, .int .i64 zVl.ref, .int .i64 0, .int .i64 0, .int .i64 0, .string ByteArray.empty, .int .i64 0, .int .i64 0, .string ByteArray.empty, .bool false, .int .i64 1])) ?_
  refine s_store 1 #[.int .i64 zVl.kind, .int .i64 zVl.p, .int .i64 zVl.q, .string zVl.str, .int .i64 zVl.ref, .int .i64 0, .int .i64 0, .int .i64 0, .string ByteArray.empty, .int .i64 0, .int .i64 0, .string ByteArray.empty, .bool false, .int .i64 1] ?_
  refine s_nil ?_
  refine xs_block ?_
  refine xs_then ?_
  refine k_sr ?_
  refine s_lt (t_loadA 1 #[.int .i64 zVl.kind, .int .i64 zVl.p, .int .i64 zVl.q, .string zVl.str, .int .i64 zVl.ref, .int .i64 0, .int .i64 0, .int .i64 0, .string ByteArray.empty, .int .i64 0, .int .i64 0, .string ByteArray.empty, .bool false, .int .i64 1]) ?_
  refine s_store 2 #[.int .i64 zVl.kind, .int .i64 zVl.p, .int .i64 zVl.q, .string zVl.str, .int .i64 zVl.ref, .int .i64 0, .int .i64 0, .int .i64 0, .string ByteArray.empty, .int .i64 0, .int .i64 0, .string ByteArray.empty, .bool false, .int .i64 1] ?_
  refine s_nt ?_
  refine k_ret ?_
  have h2 : noneR c = ⟨zVl, zVl, 0, ByteArray.empty, false, 1⟩ := noneR_in (by omega)
  exact xs_fin [.agg #[.int .i64 zVl.kind, .int .i64 zVl.p, .int .i64 zVl.q, .string zVl.str, .int .i64 zVl.ref, .int .i64 0, .int .i64 0, .int .i64 0, .string ByteArray.empty, .int .i64 0, .int .i64 0, .string ByteArray.empty, .bool false, .int .i64 1]] [] (SI.agg 4 65 2 SI.nil) (fun _ h => h.re [] [0, 0, 0, 0]) ⟨by rw [h2]; rfl, rfl⟩
 ·
  have p7 := of_decide_eq_false c4
  refine k_sr ?_
  refine s_lt t_cmp ?_
  refine sp (.bool (decide (c.kind = 1))) ?_
  refine s_nt ?_
  refine k_cond (decide (c.kind = 1)) (fun c8 => ?_) (fun c8 => ?_)
  ·
   have p9 := of_decide_eq_true c8
   refine k_sr ?_
   refine sp (.pointer none) ?_
   refine sp (pB g1 16) ?_
   refine s_lt (t_load 2 (.int .i64 c.n)) ?_
   refine s_vcall (fun _ h => nnf_s c.n) ?_
   rintro _ rfl
   refine sp (.tuple #[.agg #[.int .i64 zVl.kind, .int .i64 zVl.p, .int .i64 zVl.q, .string zVl.str, .int .i64 zVl.ref], .int .i64 1]) ?_
   refine sp (.agg #[.int .i64 zVl.kind, .int .i64 zVl.p, .int .i64 zVl.q, .string zVl.str, .int .i64 zVl.ref]) ?_
   refine sp (.int .i64 1) ?_
   refine s_alloc (.agg #[.int .i64 0, .int .i64 0, .int .i64 0, .string ByteArray.empty, .int .i64 0]) #[.int .i64 0, .int .i64 0, .int .i64 0, .string ByteArray.empty, .int .i64 0] (fun g10 => ?_)
   refine s_store 0 #[.int .i64 zVl.kind, .int .i64 zVl.p, .int .i64 zVl.q, .string zVl.str, .int .i64 zVl.ref] ?_
   refine sp (.int .i64 1) ?_
   refine s_nt ?_
   refine k_reg ?_
   refine s_lt (t_loadA 0 #[.int .i64 zVl.kind, .int .i64 zVl.p, .int .i64 zVl.q, .string zVl.str, .int .i64 zVl.ref]) ?_
   refine sp (.int .i64 1) ?_
   refine s_lt (t_kern (.agg #[.int .i64 zVl.kind, .int .i64 zVl.p, .int .i64 zVl.q, .string zVl.str, .int .i64 zVl.ref, .int .i64 0, .int .i64 0, .int .i64 0, .string ByteArray.empty, .int .i64 0, .int .i64 0, .string ByteArray.empty, .bool false, .int .i64 1])) ?_
   refine s_store 1 #[.int .i64 zVl.kind, .int .i64 zVl.p, .int .i64 zVl.q, .string zVl.str, .int .i64 zVl.ref, .int .i64 0, .int .i64 0, .int .i64 0, .string ByteArray.empty, .int .i64 0, .int .i64 0, .string ByteArray.empty, .bool false, .int .i64 1] ?_
   refine s_nil ?_
   refine xs_block ?_
   refine xs_then ?_
   refine k_sr ?_
   refine s_lt (t_loadA 1 #[.int .i64 zVl.kind, .int .i64 zVl.p, .int .i64 zVl.q, .string zVl.str, .int .i64 zVl.ref, .int .i64 0, .int .i64 0, .int .i64 0, .string ByteArray.empty, .int .i64 0, .int .i64 0, .string ByteArray.empty, .bool false, .int .i64 1]) ?_
   refine s_store 2 #[.int .i64 zVl.kind, .int .i64 zVl.p, .int .i64 zVl.q, .string zVl.str, .int .i64 zVl.ref, .int .i64 0, .int .i64 0, .int .i64 0, .string ByteArray.empty, .int .i64 0, .int .i64 0, .string ByteArray.empty, .bool false, .int .i64 1] ?_
   refine s_nt ?_
   refine k_ret ?_
   have h2 : noneR c = ⟨zVl, zVl, 0, ByteArray.empty, false, 1⟩ := noneR_in (by omega)
   exact xs_fin [.agg #[.int .i64 zVl.kind, .int .i64 zVl.p, .int .i64 zVl.q, .string zVl.str, .int .i64 zVl.ref, .int .i64 0, .int .i64 0, .int .i64 0, .string ByteArray.empty, .int .i64 0, .int .i64 0, .string ByteArray.empty, .bool false, .int .i64 1]] [] (SI.agg 4 65 2 SI.nil) (fun _ h => h.re [] [0, 0, 0, 0]) ⟨by rw [h2]; rfl, rfl⟩
  ·
   have p11 := of_decide_eq_false c8
   refine k_sr ?_
   refine s_lt t_cmp ?_
   refine sp (.bool (decide (c.kind = 2))) ?_
   refine s_nt ?_
   refine k_cond (decide (c.kind = 2)) (fun c12 => ?_) (fun c12 => ?_)
   ·
    have p13 := of_decide_eq_true c12
    refine k_sr ?_
    refine sp (.pointer none) ?_
    refine sp (pB g1 16) ?_
    refine s_lt (t_load 2 (.int .i64 c.n)) ?_
    refine s_vcall (fun _ h => nnh_s c.n) ?_
    rintro _ rfl
    refine sp (.tuple #[.agg #[.int .i64 zVl.kind, .int .i64 zVl.p, .int .i64 zVl.q, .string zVl.str, .int .i64 zVl.ref], .int .i64 1]) ?_
    refine sp (.agg #[.int .i64 zVl.kind, .int .i64 zVl.p, .int .i64 zVl.q, .string zVl.str, .int .i64 zVl.ref]) ?_
    refine sp (.int .i64 1) ?_
    refine s_alloc (.agg #[.int .i64 0, .int .i64 0, .int .i64 0, .string ByteArray.empty, .int .i64 0]) #[.int .i64 0, .int .i64 0, .int .i64 0, .string ByteArray.empty, .int .i64 0] (fun g14 => ?_)
    refine s_store 0 #[.int .i64 zVl.kind, .int .i64 zVl.p, .int .i64 zVl.q, .string zVl.str, .int .i64 zVl.ref] ?_
    refine sp (.int .i64 1) ?_
    refine s_nt ?_
    refine k_reg ?_
    refine s_lt (t_loadA 0 #[.int .i64 zVl.kind, .int .i64 zVl.p, .int .i64 zVl.q, .string zVl.str, .int .i64 zVl.ref]) ?_
    refine sp (.int .i64 1) ?_
    refine s_lt (t_kern (.agg #[.int .i64 zVl.kind, .int .i64 zVl.p, .int .i64 zVl.q, .string zVl.str, .int .i64 zVl.ref, .int .i64 0, .int .i64 0, .int .i64 0, .string ByteArray.empty, .int .i64 0, .int .i64 0, .string ByteArray.empty, .bool false, .int .i64 1])) ?_
    refine s_store 1 #[.int .i64 zVl.kind, .int .i64 zVl.p, .int .i64 zVl.q, .string zVl.str, .int .i64 zVl.ref, .int .i64 0, .int .i64 0, .int .i64 0, .string ByteArray.empty, .int .i64 0, .int .i64 0, .string ByteArray.empty, .bool false, .int .i64 1] ?_
    refine s_nil ?_
    refine xs_block ?_
    refine xs_then ?_
    refine k_sr ?_
    refine s_lt (t_loadA 1 #[.int .i64 zVl.kind, .int .i64 zVl.p, .int .i64 zVl.q, .string zVl.str, .int .i64 zVl.ref, .int .i64 0, .int .i64 0, .int .i64 0, .string ByteArray.empty, .int .i64 0, .int .i64 0, .string ByteArray.empty, .bool false, .int .i64 1]) ?_
    refine s_store 2 #[.int .i64 zVl.kind, .int .i64 zVl.p, .int .i64 zVl.q, .string zVl.str, .int .i64 zVl.ref, .int .i64 0, .int .i64 0, .int .i64 0, .string ByteArray.empty, .int .i64 0, .int .i64 0, .string ByteArray.empty, .bool false, .int .i64 1] ?_
    refine s_nt ?_
    refine k_ret ?_
    have h2 : noneR c = ⟨zVl, zVl, 0, ByteArray.empty, false, 1⟩ := noneR_in (by omega)
    exact xs_fin [.agg #[.int .i64 zVl.kind, .int .i64 zVl.p, .int .i64 zVl.q, .string zVl.str, .int .i64 zVl.ref, .int .i64 0, .int .i64 0, .int .i64 0, .string ByteArray.empty, .int .i64 0, .int .i64 0, .string ByteArray.empty, .bool false, .int .i64 1]] [] (SI.agg 4 65 2 SI.nil) (fun _ h => h.re [] [0, 0, 0, 0]) ⟨by rw [h2]; rfl, rfl⟩
   ·
    have p15 := of_decide_eq_false c12
    refine k_sr ?_
    refine s_lt t_cmp ?_
    refine sp (.bool (decide (c.kind = 3))) ?_
    refine s_nt ?_
    refine k_cond (decide (c.kind = 3)) (fun c16 => ?_) (fun c16 => ?_)
    ·
     have p17 := of_decide_eq_true c16
     refine k_sr ?_
     refine sp (.pointer none) ?_
     refine sp (pB g1 17) ?_
     refine s_lt (t_load 2 (.string c.s)) ?_
     refine s_vcall (fun _ h => nnd_s c.s) ?_
     rintro _ rfl
     refine sp (.tuple #[.agg #[.int .i64 zVl.kind, .int .i64 zVl.p, .int .i64 zVl.q, .string zVl.str, .int .i64 zVl.ref], .int .i64 1]) ?_
     refine sp (.agg #[.int .i64 zVl.kind, .int .i64 zVl.p, .int .i64 zVl.q, .string zVl.str, .int .i64 zVl.ref]) ?_
     refine sp (.int .i64 1) ?_
     refine s_alloc (.agg #[.int .i64 0, .int .i64 0, .int .i64 0, .string ByteArray.empty, .int .i64 0]) #[.int .i64 0, .int .i64 0, .int .i64 0, .string ByteArray.empty, .int .i64 0] (fun g18 => ?_)
     refine s_store 0 #[.int .i64 zVl.kind, .int .i64 zVl.p, .int .i64 zVl.q, .string zVl.str, .int .i64 zVl.ref] ?_
     refine sp (.int .i64 1) ?_
     refine s_nt ?_
     refine k_reg ?_
     refine s_lt (t_loadA 0 #[.int .i64 zVl.kind, .int .i64 zVl.p, .int .i64 zVl.q, .string zVl.str, .int .i64 zVl.ref]) ?_
     refine sp (.int .i64 1) ?_
     refine s_lt (t_kern (.agg #[.int .i64 zVl.kind, .int .i64 zVl.p, .int .i64 zVl.q, .string zVl.str, .int .i64 zVl.ref, .int .i64 0, .int .i64 0, .int .i64 0, .string ByteArray.empty, .int .i64 0, .int .i64 0, .string ByteArray.empty, .bool false, .int .i64 1])) ?_
     refine s_store 1 #[.int .i64 zVl.kind, .int .i64 zVl.p, .int .i64 zVl.q, .string zVl.str, .int .i64 zVl.ref, .int .i64 0, .int .i64 0, .int .i64 0, .string ByteArray.empty, .int .i64 0, .int .i64 0, .string ByteArray.empty, .bool false, .int .i64 1] ?_
     refine s_nil ?_
     refine xs_block ?_
     refine xs_then ?_
     refine k_sr ?_
     refine s_lt (t_loadA 1 #[.int .i64 zVl.kind, .int .i64 zVl.p, .int .i64 zVl.q, .string zVl.str, .int .i64 zVl.ref, .int .i64 0, .int .i64 0, .int .i64 0, .string ByteArray.empty, .int .i64 0, .int .i64 0, .string ByteArray.empty, .bool false, .int .i64 1]) ?_
     refine s_store 2 #[.int .i64 zVl.kind, .int .i64 zVl.p, .int .i64 zVl.q, .string zVl.str, .int .i64 zVl.ref, .int .i64 0, .int .i64 0, .int .i64 0, .string ByteArray.empty, .int .i64 0, .int .i64 0, .string ByteArray.empty, .bool false, .int .i64 1] ?_
     refine s_nt ?_
     refine k_ret ?_
     have h2 : noneR c = ⟨zVl, zVl, 0, ByteArray.empty, false, 1⟩ := noneR_in (by omega)
     exact xs_fin [.agg #[.int .i64 zVl.kind, .int .i64 zVl.p, .int .i64 zVl.q, .string zVl.str, .int .i64 zVl.ref, .int .i64 0, .int .i64 0, .int .i64 0, .string ByteArray.empty, .int .i64 0, .int .i64 0, .string ByteArray.empty, .bool false, .int .i64 1]] [] (SI.agg 4 65 2 SI.nil) (fun _ h => h.re [] [0, 0, 0, 0]) ⟨by rw [h2]; rfl, rfl⟩
    ·
     have p19 := of_decide_eq_false c16
     refine k_sr ?_
     refine s_lt t_cmp ?_
     refine sp (.bool (decide (c.kind = 4))) ?_
     refine s_nt ?_
     refine k_cond (decide (c.kind = 4)) (fun c20 => ?_) (fun c20 => ?_)
     ·
      have p21 := of_decide_eq_true c20
      refine k_sr ?_
      refine sp (.pointer none) ?_
      refine sp (pB g1 1) ?_
      refine s_lt (t_loadA 2 #[.int .i64 c.a.kind, .int .i64 c.a.p, .int .i64 c.a.q, .string c.a.str, .int .i64 c.a.ref]) ?_
      refine sp (pB g1 6) ?_
      refine s_lt (t_loadA 2 #[.int .i64 c.b.kind, .int .i64 c.b.p, .int .i64 c.b.q, .string c.b.str, .int .i64 c.b.ref]) ?_
      refine s_vcall (fun _ h => nget_s c.a c.b) ?_
      rintro _ rfl
      refine sp (.tuple #[.agg #[.int .i64 zVl.kind, .int .i64 zVl.p, .int .i64 zVl.q, .string zVl.str, .int .i64 zVl.ref], .int .i64 1]) ?_
      refine sp (.agg #[.int .i64 zVl.kind, .int .i64 zVl.p, .int .i64 zVl.q, .string zVl.str, .int .i64 zVl.ref]) ?_
      refine sp (.int .i64 1) ?_
      refine s_alloc (.agg #[.int .i64 0, .int .i64 0, .int .i64 0, .string ByteArray.empty, .int .i64 0]) #[.int .i64 0, .int .i64 0, .int .i64 0, .string ByteArray.empty, .int .i64 0] (fun g22 => ?_)
      refine s_store 0 #[.int .i64 zVl.kind, .int .i64 zVl.p, .int .i64 zVl.q, .string zVl.str, .int .i64 zVl.ref] ?_
      refine sp (.int .i64 1) ?_
      refine s_nt ?_
      refine k_reg ?_
      refine s_lt (t_loadA 0 #[.int .i64 zVl.kind, .int .i64 zVl.p, .int .i64 zVl.q, .string zVl.str, .int .i64 zVl.ref]) ?_
      refine sp (.int .i64 1) ?_
      refine s_lt (t_kern (.agg #[.int .i64 zVl.kind, .int .i64 zVl.p, .int .i64 zVl.q, .string zVl.str, .int .i64 zVl.ref, .int .i64 0, .int .i64 0, .int .i64 0, .string ByteArray.empty, .int .i64 0, .int .i64 0, .string ByteArray.empty, .bool false, .int .i64 1])) ?_
      refine s_store 1 #[.int .i64 zVl.kind, .int .i64 zVl.p, .int .i64 zVl.q, .string zVl.str, .int .i64 zVl.ref, .int .i64 0, .int .i64 0, .int .i64 0, .string ByteArray.empty, .int .i64 0, .int .i64 0, .string ByteArray.empty, .bool false, .int .i64 1] ?_
      refine s_nil ?_
      refine xs_block ?_
      refine xs_then ?_
      refine k_sr ?_
      refine s_lt (t_loadA 1 #[.int .i64 zVl.kind, .int .i64 zVl.p, .int .i64 zVl.q, .string zVl.str, .int .i64 zVl.ref, .int .i64 0, .int .i64 0, .int .i64 0, .string ByteArray.empty, .int .i64 0, .int .i64 0, .string ByteArray.empty, .bool false, .int .i64 1]) ?_
      refine s_store 2 #[.int .i64 zVl.kind, .int .i64 zVl.p, .int .i64 zVl.q, .string zVl.str, .int .i64 zVl.ref, .int .i64 0, .int .i64 0, .int .i64 0, .string ByteArray.empty, .int .i64 0, .int .i64 0, .string ByteArray.empty, .bool false, .int .i64 1] ?_
      refine s_nt ?_
      refine k_ret ?_
      have h2 : noneR c = ⟨zVl, zVl, 0, ByteArray.empty, false, 1⟩ := noneR_in (by omega)
      exact xs_fin [.agg #[.int .i64 zVl.kind, .int .i64 zVl.p, .int .i64 zVl.q, .string zVl.str, .int .i64 zVl.ref, .int .i64 0, .int .i64 0, .int .i64 0, .string ByteArray.empty, .int .i64 0, .int .i64 0, .string ByteArray.empty, .bool false, .int .i64 1]] [] (SI.agg 4 65 2 SI.nil) (fun _ h => h.re [] [0, 0, 0, 0]) ⟨by rw [h2]; rfl, rfl⟩
     ·
      have p23 := of_decide_eq_false c20
      refine k_sr ?_
      refine s_lt t_cmp ?_
      refine sp (.bool (decide (c.kind = 5))) ?_
      refine s_nt ?_
      refine k_cond (decide (c.kind = 5)) (fun c24 => ?_) (fun c24 => ?_)
      ·
       have p25 := of_decide_eq_true c24
       refine k_reg ?_
       refine sp (.pointer none) ?_
       refine sp (pB g1 1) ?_
       refine s_lt (t_loadA 2 #[.int .i64 c.a.kind, .int .i64 c.a.p, .int .i64 c.a.q, .string c.a.str, .int .i64 c.a.ref]) ?_
       refine sp (pB g1 6) ?_
       refine s_lt (t_loadA 2 #[.int .i64 c.b.kind, .int .i64 c.b.p, .int .i64 c.b.q, .string c.b.str, .int .i64 c.b.ref]) ?_
       refine sp (pB g1 11) ?_
       refine s_lt (t_loadA 2 #[.int .i64 c.c.kind, .int .i64 c.c.p, .int .i64 c.c.q, .string c.c.str, .int .i64 c.c.ref]) ?_
       refine s_vcall (fun _ h => nset_s c.a c.b c.c) ?_
       rintro _ rfl
       refine sp (pB g3 13) ?_
       refine s_store 0 #[.int .i64 0, .int .i64 0, .int .i64 0, .string ByteArray.empty, .int .i64 0, .int .i64 0, .int .i64 0, .int .i64 0, .string ByteArray.empty, .int .i64 0, .int .i64 0, .string ByteArray.empty, .bool false, .int .i64 1] ?_
       refine s_nil ?_
       refine xs_block ?_
       refine xs_then ?_
       refine k_sr ?_
       refine s_lt (t_loadA 0 #[.int .i64 0, .int .i64 0, .int .i64 0, .string ByteArray.empty, .int .i64 0, .int .i64 0, .int .i64 0, .int .i64 0, .string ByteArray.empty, .int .i64 0, .int .i64 0, .string ByteArray.empty, .bool false, .int .i64 1]) ?_
       refine s_store 1 #[.int .i64 0, .int .i64 0, .int .i64 0, .string ByteArray.empty, .int .i64 0, .int .i64 0, .int .i64 0, .int .i64 0, .string ByteArray.empty, .int .i64 0, .int .i64 0, .string ByteArray.empty, .bool false, .int .i64 1] ?_
       refine s_nt ?_
       refine k_ret ?_
       have h2 : noneR c = ⟨zVl, zVl, 0, ByteArray.empty, false, 1⟩ := noneR_in (by omega)
       exact xs_fin [.agg #[.int .i64 0, .int .i64 0, .int .i64 0, .string ByteArray.empty, .int .i64 0, .int .i64 0, .int .i64 0, .int .i64 0, .string ByteArray.empty, .int .i64 0, .int .i64 0, .string ByteArray.empty, .bool false, .int .i64 1]] [] (SI.agg 4 65 1 SI.nil) (fun _ h => h.re [] [0, 0, 0]) ⟨by rw [h2]; rfl, rfl⟩
      ·
       have p26 := of_decide_eq_false c24
       refine k_sr ?_
       refine s_lt t_cmp ?_
       refine sp (.bool (decide (c.kind = 6))) ?_
       refine s_nt ?_
       refine k_cond (decide (c.kind = 6)) (fun c27 => ?_) (fun c27 => ?_)
       ·
        have p28 := of_decide_eq_true c27
        refine k_sr ?_
        refine sp (.pointer none) ?_
        refine sp (pB g1 1) ?_
        refine s_lt (t_loadA 2 #[.int .i64 c.a.kind, .int .i64 c.a.p, .int .i64 c.a.q, .string c.a.str, .int .i64 c.a.ref]) ?_
        refine s_vcall (fun _ h => nlen_s c.a) ?_
        rintro _ rfl
        refine sp (.tuple #[.int .i64 0, .int .i64 1]) ?_
        refine sp (.int .i64 0) ?_
        refine sp (.int .i64 1) ?_
        refine sp (.int .i64 0) ?_
        refine sp (.int .i64 1) ?_
        refine s_nt ?_
        refine k_reg ?_
        refine sp (.int .i64 0) ?_
        refine sp (.int .i64 1) ?_
        refine s_lt (t_kern (.agg #[.int .i64 0, .int .i64 0, .int .i64 0, .string ByteArray.empty, .int .i64 0, .int .i64 0, .int .i64 0, .int .i64 0, .string ByteArray.empty, .int .i64 0, .int .i64 0, .string ByteArray.empty, .bool false, .int .i64 1])) ?_
        refine s_store 0 #[.int .i64 0, .int .i64 0, .int .i64 0, .string ByteArray.empty, .int .i64 0, .int .i64 0, .int .i64 0, .int .i64 0, .string ByteArray.empty, .int .i64 0, .int .i64 0, .string ByteArray.empty, .bool false, .int .i64 1] ?_
        refine s_nil ?_
        refine xs_block ?_
        refine xs_then ?_
        refine k_sr ?_
        refine s_lt (t_loadA 0 #[.int .i64 0, .int .i64 0, .int .i64 0, .string ByteArray.empty, .int .i64 0, .int .i64 0, .int .i64 0, .int .i64 0, .string ByteArray.empty, .int .i64 0, .int .i64 0, .string ByteArray.empty, .bool false, .int .i64 1]) ?_
        refine s_store 1 #[.int .i64 0, .int .i64 0, .int .i64 0, .string ByteArray.empty, .int .i64 0, .int .i64 0, .int .i64 0, .int .i64 0, .string ByteArray.empty, .int .i64 0, .int .i64 0, .string ByteArray.empty, .bool false, .int .i64 1] ?_
        refine s_nt ?_
        refine k_ret ?_
        have h2 : noneR c = ⟨zVl, zVl, 0, ByteArray.empty, false, 1⟩ := noneR_in (by omega)
        exact xs_fin [.agg #[.int .i64 0, .int .i64 0, .int .i64 0, .string ByteArray.empty, .int .i64 0, .int .i64 0, .int .i64 0, .int .i64 0, .string ByteArray.empty, .int .i64 0, .int .i64 0, .string ByteArray.empty, .bool false, .int .i64 1]] [] (SI.agg 4 65 1 SI.nil) (fun _ h => h.re [] [0, 0, 0]) ⟨by rw [h2]; rfl, rfl⟩
       ·
        have p29 := of_decide_eq_false c27
        refine k_sr ?_
        refine s_lt t_cmp ?_
        refine sp (.bool (decide (c.kind = 7))) ?_
        refine s_nt ?_
        refine k_cond (decide (c.kind = 7)) (fun c30 => ?_) (fun c30 => ?_)
        ·
         have p31 := of_decide_eq_true c30
         refine k_sr ?_
         refine sp (.pointer none) ?_
         refine sp (pB g1 1) ?_
         refine s_lt (t_loadA 2 #[.int .i64 c.a.kind, .int .i64 c.a.p, .int .i64 c.a.q, .string c.a.str, .int .i64 c.a.ref]) ?_
         refine sp (pB g1 6) ?_
         refine s_lt (t_loadA 2 #[.int .i64 c.b.kind, .int .i64 c.b.p, .int .i64 c.b.q, .string c.b.str, .int .i64 c.b.ref]) ?_
         refine s_vcall (fun _ h => nnext_s c.a c.b) ?_
         rintro _ rfl
         refine sp (.tuple #[.agg #[.int .i64 zVl.kind, .int .i64 zVl.p, .int .i64 zVl.q, .string zVl.str, .int .i64 zVl.ref], .agg #[.int .i64 zVl.kind, .int .i64 zVl.p, .int .i64 zVl.q, .string zVl.str, .int .i64 zVl.ref], .bool false, .int .i64 1]) ?_
         refine sp (.agg #[.int .i64 zVl.kind, .int .i64 zVl.p, .int .i64 zVl.q, .string zVl.str, .int .i64 zVl.ref]) ?_
         refine sp (.agg #[.int .i64 zVl.kind, .int .i64 zVl.p, .int .i64 zVl.q, .string zVl.str, .int .i64 zVl.ref]) ?_
         refine sp (.bool false) ?_
         refine sp (.int .i64 1) ?_
         refine s_alloc (.agg #[.int .i64 0, .int .i64 0, .int .i64 0, .string ByteArray.empty, .int .i64 0]) #[.int .i64 0, .int .i64 0, .int .i64 0, .string ByteArray.empty, .int .i64 0] (fun g32 => ?_)
         refine s_alloc (.agg #[.int .i64 0, .int .i64 0, .int .i64 0, .string ByteArray.empty, .int .i64 0]) #[.int .i64 0, .int .i64 0, .int .i64 0, .string ByteArray.empty, .int .i64 0] (fun g33 => ?_)
         refine s_store 1 #[.int .i64 zVl.kind, .int .i64 zVl.p, .int .i64 zVl.q, .string zVl.str, .int .i64 zVl.ref] ?_
         refine s_store 0 #[.int .i64 zVl.kind, .int .i64 zVl.p, .int .i64 zVl.q, .string zVl.str, .int .i64 zVl.ref] ?_
         refine sp (.bool false) ?_
         refine sp (.int .i64 1) ?_
         refine s_nt ?_
         refine k_reg ?_
         refine s_lt (t_loadA 1 #[.int .i64 zVl.kind, .int .i64 zVl.p, .int .i64 zVl.q, .string zVl.str, .int .i64 zVl.ref]) ?_
         refine s_lt (t_loadA 0 #[.int .i64 zVl.kind, .int .i64 zVl.p, .int .i64 zVl.q, .string zVl.str, .int .i64 zVl.ref]) ?_
         refine sp (.bool false) ?_
         refine sp (.int .i64 1) ?_
         refine s_lt (t_kern (.agg #[.int .i64 zVl.kind, .int .i64 zVl.p, .int .i64 zVl.q, .string zVl.str, .int .i64 zVl.ref, .int .i64 zVl.kind, .int .i64 zVl.p, .int .i64 zVl.q, .string zVl.str, .int .i64 zVl.ref, .int .i64 0, .string ByteArray.empty, .bool false, .int .i64 1])) ?_
         refine s_store 2 #[.int .i64 zVl.kind, .int .i64 zVl.p, .int .i64 zVl.q, .string zVl.str, .int .i64 zVl.ref, .int .i64 zVl.kind, .int .i64 zVl.p, .int .i64 zVl.q, .string zVl.str, .int .i64 zVl.ref, .int .i64 0, .string ByteArray.empty, .bool false, .int .i64 1] ?_
         refine s_nil ?_
         refine xs_block ?_
         refine xs_then ?_
         refine k_sr ?_
         refine s_lt (t_loadA 2 #[.int .i64 zVl.kind, .int .i64 zVl.p, .int .i64 zVl.q, .string zVl.str, .int .i64 zVl.ref, .int .i64 zVl.kind, .int .i64 zVl.p, .int .i64 zVl.q, .string zVl.str, .int .i64 zVl.ref, .int .i64 0, .string ByteArray.empty, .bool false, .int .i64 1]) ?_
         refine s_store 3 #[.int .i64 zVl.kind, .int .i64 zVl.p, .int .i64 zVl.q, .string zVl.str, .int .i64 zVl.ref, .int .i64 zVl.kind, .int .i64 zVl.p, .int .i64 zVl.q, .string zVl.str, .int .i64 zVl.ref, .int .i64 0, .string ByteArray.empty, .bool false, .int .i64 1] ?_
         refine s_nt ?_
         refine k_ret ?_
         have h2 : noneR c = ⟨zVl, zVl, 0, ByteArray.empty, false, 1⟩ := noneR_in (by omega)
         exact xs_fin [.agg #[.int .i64 zVl.kind, .int .i64 zVl.p, .int .i64 zVl.q, .string zVl.str, .int .i64 zVl.ref, .int .i64 zVl.kind, .int .i64 zVl.p, .int .i64 zVl.q, .string zVl.str, .int .i64 zVl.ref, .int .i64 0, .string ByteArray.empty, .bool false, .int .i64 1]] [] (SI.agg 4 65 3 SI.nil) (fun _ h => h.re [] [0, 0, 0, 0, 0]) ⟨by rw [h2]; rfl, rfl⟩
        ·
         have p34 := of_decide_eq_false c30
         refine k_sr ?_
         refine s_lt t_cmp ?_
         refine sp (.bool (decide (c.kind = 8))) ?_
         refine s_nt ?_
         refine k_cond (decide (c.kind = 8)) (fun c35 => ?_) (fun c35 => ?_)
         ·
          have p36 := of_decide_eq_true c35
          refine k_reg ?_
          refine sp (.pointer none) ?_
          refine sp (pB g1 1) ?_
          refine s_lt (t_loadA 2 #[.int .i64 c.a.kind, .int .i64 c.a.p, .int .i64 c.a.q, .string c.a.str, .int .i64 c.a.ref]) ?_
          refine sp (pB g1 16) ?_
          refine s_lt (t_load 2 (.int .i64 c.n)) ?_
          refine sp (pB g1 11) ?_
          refine s_lt (t_loadA 2 #[.int .i64 c.c.kind, .int .i64 c.c.p, .int .i64 c.c.q, .string c.c.str, .int .i64 c.c.ref]) ?_
          refine s_vcall (fun _ h => nins_s c.a c.n c.c) ?_
          rintro _ rfl
          refine sp (pB g3 13) ?_
          refine s_store 0 #[.int .i64 0, .int .i64 0, .int .i64 0, .string ByteArray.empty, .int .i64 0, .int .i64 0, .int .i64 0, .int .i64 0, .string ByteArray.empty, .int .i64 0, .int .i64 0, .string ByteArray.empty, .bool false, .int .i64 1] ?_
          refine s_nil ?_
          refine xs_block ?_
          refine xs_then ?_
          refine k_sr ?_
          refine s_lt (t_loadA 0 #[.int .i64 0, .int .i64 0, .int .i64 0, .string ByteArray.empty, .int .i64 0, .int .i64 0, .int .i64 0, .int .i64 0, .string ByteArray.empty, .int .i64 0, .int .i64 0, .string ByteArray.empty, .bool false, .int .i64 1]) ?_
          refine s_store 1 #[.int .i64 0, .int .i64 0, .int .i64 0, .string ByteArray.empty, .int .i64 0, .int .i64 0, .int .i64 0, .int .i64 0, .string ByteArray.empty, .int .i64 0, .int .i64 0, .string ByteArray.empty, .bool false, .int .i64 1] ?_
          refine s_nt ?_
          refine k_ret ?_
          have h2 : noneR c = ⟨zVl, zVl, 0, ByteArray.empty, false, 1⟩ := noneR_in (by omega)
          exact xs_fin [.agg #[.int .i64 0, .int .i64 0, .int .i64 0, .string ByteArray.empty, .int .i64 0, .int .i64 0, .int .i64 0, .int .i64 0, .string ByteArray.empty, .int .i64 0, .int .i64 0, .string ByteArray.empty, .bool false, .int .i64 1]] [] (SI.agg 4 65 1 SI.nil) (fun _ h => h.re [] [0, 0, 0]) ⟨by rw [h2]; rfl, rfl⟩
         ·
          have p37 := of_decide_eq_false c35
          refine k_sr ?_
          refine s_lt t_cmp ?_
          refine sp (.bool (decide (c.kind = 9))) ?_
          refine s_nt ?_
          refine k_cond (decide (c.kind = 9)) (fun c38 => ?_) (fun c38 => ?_)
          ·
           have p39 := of_decide_eq_true c38
           refine k_sr ?_
           refine sp (.pointer none) ?_
           refine sp (pB g1 1) ?_
           refine s_lt (t_loadA 2 #[.int .i64 c.a.kind, .int .i64 c.a.p, .int .i64 c.a.q, .string c.a.str, .int .i64 c.a.ref]) ?_
           refine sp (pB g1 16) ?_
           refine s_lt (t_load 2 (.int .i64 c.n)) ?_
           refine s_vcall (fun _ h => nrem_s c.a c.n) ?_
           rintro _ rfl
           refine sp (.tuple #[.agg #[.int .i64 zVl.kind, .int .i64 zVl.p, .int .i64 zVl.q, .string zVl.str, .int .i64 zVl.ref], .int .i64 1]) ?_
           refine sp (.agg #[.int .i64 zVl.kind, .int .i64 zVl.p, .int .i64 zVl.q, .string zVl.str, .int .i64 zVl.ref]) ?_
           refine sp (.int .i64 1) ?_
           refine s_alloc (.agg #[.int .i64 0, .int .i64 0, .int .i64 0, .string ByteArray.empty, .int .i64 0]) #[.int .i64 0, .int .i64 0, .int .i64 0, .string ByteArray.empty, .int .i64 0] (fun g40 => ?_)
           refine s_store 0 #[.int .i64 zVl.kind, .int .i64 zVl.p, .int .i64 zVl.q, .string zVl.str, .int .i64 zVl.ref] ?_
           refine sp (.int .i64 1) ?_
           refine s_nt ?_
           refine k_reg ?_
           refine s_lt (t_loadA 0 #[.int .i64 zVl.kind, .int .i64 zVl.p, .int .i64 zVl.q, .string zVl.str, .int .i64 zVl.ref]) ?_
           refine sp (.int .i64 1) ?_
           refine s_lt (t_kern (.agg #[.int .i64 zVl.kind, .int .i64 zVl.p, .int .i64 zVl.q, .string zVl.str, .int .i64 zVl.ref, .int .i64 0, .int .i64 0, .int .i64 0, .string ByteArray.empty, .int .i64 0, .int .i64 0, .string ByteArray.empty, .bool false, .int .i64 1])) ?_
           refine s_store 1 #[.int .i64 zVl.kind, .int .i64 zVl.p, .int .i64 zVl.q, .string zVl.str, .int .i64 zVl.ref, .int .i64 0, .int .i64 0, .int .i64 0, .string ByteArray.empty, .int .i64 0, .int .i64 0, .string ByteArray.empty, .bool false, .int .i64 1] ?_
           refine s_nil ?_
           refine xs_block ?_
           refine xs_then ?_
           refine k_sr ?_
           refine s_lt (t_loadA 1 #[.int .i64 zVl.kind, .int .i64 zVl.p, .int .i64 zVl.q, .string zVl.str, .int .i64 zVl.ref, .int .i64 0, .int .i64 0, .int .i64 0, .string ByteArray.empty, .int .i64 0, .int .i64 0, .string ByteArray.empty, .bool false, .int .i64 1]) ?_
           refine s_store 2 #[.int .i64 zVl.kind, .int .i64 zVl.p, .int .i64 zVl.q, .string zVl.str, .int .i64 zVl.ref, .int .i64 0, .int .i64 0, .int .i64 0, .string ByteArray.empty, .int .i64 0, .int .i64 0, .string ByteArray.empty, .bool false, .int .i64 1] ?_
           refine s_nt ?_
           refine k_ret ?_
           have h2 : noneR c = ⟨zVl, zVl, 0, ByteArray.empty, false, 1⟩ := noneR_in (by omega)
           exact xs_fin [.agg #[.int .i64 zVl.kind, .int .i64 zVl.p, .int .i64 zVl.q, .string zVl.str, .int .i64 zVl.ref, .int .i64 0, .int .i64 0, .int .i64 0, .string ByteArray.empty, .int .i64 0, .int .i64 0, .string ByteArray.empty, .bool false, .int .i64 1]] [] (SI.agg 4 65 2 SI.nil) (fun _ h => h.re [] [0, 0, 0, 0]) ⟨by rw [h2]; rfl, rfl⟩
          ·
           have p41 := of_decide_eq_false c38
           refine k_sr ?_
           refine s_lt t_cmp ?_
           refine sp (.bool (decide (c.kind = 10))) ?_
           refine s_nt ?_
           refine k_cond (decide (c.kind = 10)) (fun c42 => ?_) (fun c42 => ?_)
           ·
            have p43 := of_decide_eq_true c42
            refine k_reg ?_
            refine sp (.pointer none) ?_
            refine sp (pB g1 1) ?_
            refine s_lt (t_loadA 2 #[.int .i64 c.a.kind, .int .i64 c.a.p, .int .i64 c.a.q, .string c.a.str, .int .i64 c.a.ref]) ?_
            refine sp (pB g1 6) ?_
            refine s_lt (t_loadA 2 #[.int .i64 c.b.kind, .int .i64 c.b.p, .int .i64 c.b.q, .string c.b.str, .int .i64 c.b.ref]) ?_
            refine s_vcall (fun _ h => nsm_s c.a c.b) ?_
            rintro _ rfl
            refine sp (pB g3 13) ?_
            refine s_store 0 #[.int .i64 0, .int .i64 0, .int .i64 0, .string ByteArray.empty, .int .i64 0, .int .i64 0, .int .i64 0, .int .i64 0, .string ByteArray.empty, .int .i64 0, .int .i64 0, .string ByteArray.empty, .bool false, .int .i64 1] ?_
            refine s_nil ?_
            refine xs_block ?_
            refine xs_then ?_
            refine k_sr ?_
            refine s_lt (t_loadA 0 #[.int .i64 0, .int .i64 0, .int .i64 0, .string ByteArray.empty, .int .i64 0, .int .i64 0, .int .i64 0, .int .i64 0, .string ByteArray.empty, .int .i64 0, .int .i64 0, .string ByteArray.empty, .bool false, .int .i64 1]) ?_
            refine s_store 1 #[.int .i64 0, .int .i64 0, .int .i64 0, .string ByteArray.empty, .int .i64 0, .int .i64 0, .int .i64 0, .int .i64 0, .string ByteArray.empty, .int .i64 0, .int .i64 0, .string ByteArray.empty, .bool false, .int .i64 1] ?_
            refine s_nt ?_
            refine k_ret ?_
            have h2 : noneR c = ⟨zVl, zVl, 0, ByteArray.empty, false, 1⟩ := noneR_in (by omega)
            exact xs_fin [.agg #[.int .i64 0, .int .i64 0, .int .i64 0, .string ByteArray.empty, .int .i64 0, .int .i64 0, .int .i64 0, .int .i64 0, .string ByteArray.empty, .int .i64 0, .int .i64 0, .string ByteArray.empty, .bool false, .int .i64 1]] [] (SI.agg 4 65 1 SI.nil) (fun _ h => h.re [] [0, 0, 0]) ⟨by rw [h2]; rfl, rfl⟩
           ·
            have p44 := of_decide_eq_false c42
            refine k_sr ?_
            refine s_lt t_cmp ?_
            refine sp (.bool (decide (c.kind = 11))) ?_
            refine s_nt ?_
            refine k_cond (decide (c.kind = 11)) (fun c45 => ?_) (fun c45 => ?_)
            ·
             have p46 := of_decide_eq_true c45
             refine k_sr ?_
             refine sp (.pointer none) ?_
             refine sp (pB g1 1) ?_
             refine s_lt (t_loadA 2 #[.int .i64 c.a.kind, .int .i64 c.a.p, .int .i64 c.a.q, .string c.a.str, .int .i64 c.a.ref]) ?_
             refine sp (pB g1 16) ?_
             refine s_lt (t_load 2 (.int .i64 c.n)) ?_
             refine s_vcall (fun _ h => nslot_s c.a c.n) ?_
             rintro _ rfl
             refine sp (.tuple #[.agg #[.int .i64 zVl.kind, .int .i64 zVl.p, .int .i64 zVl.q, .string zVl.str, .int .i64 zVl.ref], .int .i64 1]) ?_
             refine sp (.agg #[.int .i64 zVl.kind, .int .i64 zVl.p, .int .i64 zVl.q, .string zVl.str, .int .i64 zVl.ref]) ?_
             refine sp (.int .i64 1) ?_
             refine s_alloc (.agg #[.int .i64 0, .int .i64 0, .int .i64 0, .string ByteArray.empty, .int .i64 0]) #[.int .i64 0, .int .i64 0, .int .i64 0, .string ByteArray.empty, .int .i64 0] (fun g47 => ?_)
             refine s_store 0 #[.int .i64 zVl.kind, .int .i64 zVl.p, .int .i64 zVl.q, .string zVl.str, .int .i64 zVl.ref] ?_
             refine sp (.int .i64 1) ?_
             refine s_nt ?_
             refine k_reg ?_
             refine s_lt (t_loadA 0 #[.int .i64 zVl.kind, .int .i64 zVl.p, .int .i64 zVl.q, .string zVl.str, .int .i64 zVl.ref]) ?_
             refine sp (.int .i64 1) ?_
             refine s_lt (t_kern (.agg #[.int .i64 zVl.kind, .int .i64 zVl.p, .int .i64 zVl.q, .string zVl.str, .int .i64 zVl.ref, .int .i64 0, .int .i64 0, .int .i64 0, .string ByteArray.empty, .int .i64 0, .int .i64 0, .string ByteArray.empty, .bool false, .int .i64 1])) ?_
             refine s_store 1 #[.int .i64 zVl.kind, .int .i64 zVl.p, .int .i64 zVl.q, .string zVl.str, .int .i64 zVl.ref, .int .i64 0, .int .i64 0, .int .i64 0, .string ByteArray.empty, .int .i64 0, .int .i64 0, .string ByteArray.empty, .bool false, .int .i64 1] ?_
             refine s_nil ?_
             refine xs_block ?_
             refine xs_then ?_
             refine k_sr ?_
             refine s_lt (t_loadA 1 #[.int .i64 zVl.kind, .int .i64 zVl.p, .int .i64 zVl.q, .string zVl.str, .int .i64 zVl.ref, .int .i64 0, .int .i64 0, .int .i64 0, .string ByteArray.empty, .int .i64 0, .int .i64 0, .string ByteArray.empty, .bool false, .int .i64 1]) ?_
             refine s_store 2 #[.int .i64 zVl.kind, .int .i64 zVl.p, .int .i64 zVl.q, .string zVl.str, .int .i64 zVl.ref, .int .i64 0, .int .i64 0, .int .i64 0, .string ByteArray.empty, .int .i64 0, .int .i64 0, .string ByteArray.empty, .bool false, .int .i64 1] ?_
             refine s_nt ?_
             refine k_ret ?_
             have h2 : noneR c = ⟨zVl, zVl, 0, ByteArray.empty, false, 1⟩ := noneR_in (by omega)
             exact xs_fin [.agg #[.int .i64 zVl.kind, .int .i64 zVl.p, .int .i64 zVl.q, .string zVl.str, .int .i64 zVl.ref, .int .i64 0, .int .i64 0, .int .i64 0, .string ByteArray.empty, .int .i64 0, .int .i64 0, .string ByteArray.empty, .bool false, .int .i64 1]] [] (SI.agg 4 65 2 SI.nil) (fun _ h => h.re [] [0, 0, 0, 0]) ⟨by rw [h2]; rfl, rfl⟩
            ·
             have p48 := of_decide_eq_false c45
             refine k_sr ?_
             refine s_lt t_cmp ?_
             refine sp (.bool (decide (c.kind = 12))) ?_
             refine s_nt ?_
             refine k_cond (decide (c.kind = 12)) (fun c49 => ?_) (fun c49 => ?_)
             ·
              have p50 := of_decide_eq_true c49
              refine k_reg ?_
              refine sp (.pointer none) ?_
              refine sp (pB g1 1) ?_
              refine s_lt (t_loadA 2 #[.int .i64 c.a.kind, .int .i64 c.a.p, .int .i64 c.a.q, .string c.a.str, .int .i64 c.a.ref]) ?_
              refine sp (pB g1 16) ?_
              refine s_lt (t_load 2 (.int .i64 c.n)) ?_
              refine sp (pB g1 11) ?_
              refine s_lt (t_loadA 2 #[.int .i64 c.c.kind, .int .i64 c.c.p, .int .i64 c.c.q, .string c.c.str, .int .i64 c.c.ref]) ?_
              refine s_vcall (fun _ h => nss_s c.a c.n c.c) ?_
              rintro _ rfl
              refine sp (pB g3 13) ?_
              refine s_store 0 #[.int .i64 0, .int .i64 0, .int .i64 0, .string ByteArray.empty, .int .i64 0, .int .i64 0, .int .i64 0, .int .i64 0, .string ByteArray.empty, .int .i64 0, .int .i64 0, .string ByteArray.empty, .bool false, .int .i64 1] ?_
              refine s_nil ?_
              refine xs_block ?_
              refine xs_then ?_
              refine k_sr ?_
              refine s_lt (t_loadA 0 #[.int .i64 0, .int .i64 0, .int .i64 0, .string ByteArray.empty, .int .i64 0, .int .i64 0, .int .i64 0, .int .i64 0, .string ByteArray.empty, .int .i64 0, .int .i64 0, .string ByteArray.empty, .bool false, .int .i64 1]) ?_
              refine s_store 1 #[.int .i64 0, .int .i64 0, .int .i64 0, .string ByteArray.empty, .int .i64 0, .int .i64 0, .int .i64 0, .int .i64 0, .string ByteArray.empty, .int .i64 0, .int .i64 0, .string ByteArray.empty, .bool false, .int .i64 1] ?_
              refine s_nt ?_
              refine k_ret ?_
              have h2 : noneR c = ⟨zVl, zVl, 0, ByteArray.empty, false, 1⟩ := noneR_in (by omega)
              exact xs_fin [.agg #[.int .i64 0, .int .i64 0, .int .i64 0, .string ByteArray.empty, .int .i64 0, .int .i64 0, .int .i64 0, .int .i64 0, .string ByteArray.empty, .int .i64 0, .int .i64 0, .string ByteArray.empty, .bool false, .int .i64 1]] [] (SI.agg 4 65 1 SI.nil) (fun _ h => h.re [] [0, 0, 0]) ⟨by rw [h2]; rfl, rfl⟩
             ·
              have p51 := of_decide_eq_false c49
              refine k_sr ?_
              refine s_lt t_cmp ?_
              refine sp (.bool (decide (c.kind = 13))) ?_
              refine s_nt ?_
              refine k_cond (decide (c.kind = 13)) (fun c52 => ?_) (fun c52 => ?_)
              ·
               have p53 := of_decide_eq_true c52
               refine k_reg ?_
               refine sp (.pointer none) ?_
               refine sp (pB g1 1) ?_
               refine s_lt (t_loadA 2 #[.int .i64 c.a.kind, .int .i64 c.a.p, .int .i64 c.a.q, .string c.a.str, .int .i64 c.a.ref]) ?_
               refine sp (pB g1 18) ?_
               refine s_lt (t_load 2 c.lv.v) ?_
               refine s_vcall (fun _ h => nsr_s c.a c.lv.v) ?_
               rintro _ rfl
               refine sp (pB g3 13) ?_
               refine s_store 0 #[.int .i64 0, .int .i64 0, .int .i64 0, .string ByteArray.empty, .int .i64 0, .int .i64 0, .int .i64 0, .int .i64 0, .string ByteArray.empty, .int .i64 0, .int .i64 0, .string ByteArray.empty, .bool false, .int .i64 1] ?_
               refine s_nil ?_
               refine xs_block ?_
               refine xs_then ?_
               refine k_sr ?_
               refine s_lt (t_loadA 0 #[.int .i64 0, .int .i64 0, .int .i64 0, .string ByteArray.empty, .int .i64 0, .int .i64 0, .int .i64 0, .int .i64 0, .string ByteArray.empty, .int .i64 0, .int .i64 0, .string ByteArray.empty, .bool false, .int .i64 1]) ?_
               refine s_store 1 #[.int .i64 0, .int .i64 0, .int .i64 0, .string ByteArray.empty, .int .i64 0, .int .i64 0, .int .i64 0, .int .i64 0, .string ByteArray.empty, .int .i64 0, .int .i64 0, .string ByteArray.empty, .bool false, .int .i64 1] ?_
               refine s_nt ?_
               refine k_ret ?_
               have h2 : noneR c = ⟨zVl, zVl, 0, ByteArray.empty, false, 1⟩ := noneR_in (by omega)
               exact xs_fin [.agg #[.int .i64 0, .int .i64 0, .int .i64 0, .string ByteArray.empty, .int .i64 0, .int .i64 0, .int .i64 0, .int .i64 0, .string ByteArray.empty, .int .i64 0, .int .i64 0, .string ByteArray.empty, .bool false, .int .i64 1]] [] (SI.agg 4 65 1 SI.nil) (fun _ h => h.re [] [0, 0, 0]) ⟨by rw [h2]; rfl, rfl⟩
              ·
               have p54 := of_decide_eq_false c52
               refine k_sr ?_
               refine s_lt t_cmp ?_
               refine sp (.bool (decide (c.kind = 14))) ?_
               refine s_nt ?_
               refine k_cond (decide (c.kind = 14)) (fun c55 => ?_) (fun c55 => ?_)
               ·
                have p56 := of_decide_eq_true c55
                refine k_reg ?_
                refine sp (.pointer none) ?_
                refine sp (pB g1 16) ?_
                refine s_lt (t_load 2 (.int .i64 c.n)) ?_
                refine s_vcall (fun _ h => ndrop_s c.n) ?_
                rintro _ rfl
                refine sp (pB g3 13) ?_
                refine s_store 0 #[.int .i64 0, .int .i64 0, .int .i64 0, .string ByteArray.empty, .int .i64 0, .int .i64 0, .int .i64 0, .int .i64 0, .string ByteArray.empty, .int .i64 0, .int .i64 0, .string ByteArray.empty, .bool false, .int .i64 1] ?_
                refine s_nil ?_
                refine xs_block ?_
                refine xs_then ?_
                refine k_sr ?_
                refine s_lt (t_loadA 0 #[.int .i64 0, .int .i64 0, .int .i64 0, .string ByteArray.empty, .int .i64 0, .int .i64 0, .int .i64 0, .int .i64 0, .string ByteArray.empty, .int .i64 0, .int .i64 0, .string ByteArray.empty, .bool false, .int .i64 1]) ?_
                refine s_store 1 #[.int .i64 0, .int .i64 0, .int .i64 0, .string ByteArray.empty, .int .i64 0, .int .i64 0, .int .i64 0, .int .i64 0, .string ByteArray.empty, .int .i64 0, .int .i64 0, .string ByteArray.empty, .bool false, .int .i64 1] ?_
                refine s_nt ?_
                refine k_ret ?_
                have h2 : noneR c = ⟨zVl, zVl, 0, ByteArray.empty, false, 1⟩ := noneR_in (by omega)
                exact xs_fin [.agg #[.int .i64 0, .int .i64 0, .int .i64 0, .string ByteArray.empty, .int .i64 0, .int .i64 0, .int .i64 0, .int .i64 0, .string ByteArray.empty, .int .i64 0, .int .i64 0, .string ByteArray.empty, .bool false, .int .i64 1]] [] (SI.agg 4 65 1 SI.nil) (fun _ h => h.re [] [0, 0, 0]) ⟨by rw [h2]; rfl, rfl⟩
               ·
                have p57 := of_decide_eq_false c55
                refine k_sr ?_
                refine s_lt t_cmp ?_
                refine sp (.bool (decide (c.kind = 15))) ?_
                refine s_nt ?_
                refine k_cond (decide (c.kind = 15)) (fun c58 => ?_) (fun c58 => ?_)
                ·
                 have p59 := of_decide_eq_true c58
                 refine k_sr ?_
                 refine sp (.pointer none) ?_
                 refine sp (pB g1 1) ?_
                 refine s_lt (t_loadA 2 #[.int .i64 c.a.kind, .int .i64 c.a.p, .int .i64 c.a.q, .string c.a.str, .int .i64 c.a.ref]) ?_
                 refine s_vcall (fun _ h => ntag_s c.a) ?_
                 rintro _ rfl
                 refine sp (.tuple #[.int .i64 0, .bool false]) ?_
                 refine sp (.int .i64 0) ?_
                 refine sp (.bool false) ?_
                 refine sp (.int .i64 0) ?_
                 refine sp (.bool false) ?_
                 refine s_nt ?_
                 refine k_reg ?_
                 refine sp (.int .i64 0) ?_
                 refine sp (.bool false) ?_
                 refine s_lt (t_kern (.agg #[.int .i64 0, .int .i64 0, .int .i64 0, .string ByteArray.empty, .int .i64 0, .int .i64 0, .int .i64 0, .int .i64 0, .string ByteArray.empty, .int .i64 0, .int .i64 0, .string ByteArray.empty, .bool false, .int .i64 0])) ?_
                 refine s_store 0 #[.int .i64 0, .int .i64 0, .int .i64 0, .string ByteArray.empty, .int .i64 0, .int .i64 0, .int .i64 0, .int .i64 0, .string ByteArray.empty, .int .i64 0, .int .i64 0, .string ByteArray.empty, .bool false, .int .i64 0] ?_
                 refine s_nil ?_
                 refine xs_block ?_
                 refine xs_then ?_
                 refine k_sr ?_
                 refine s_lt (t_loadA 0 #[.int .i64 0, .int .i64 0, .int .i64 0, .string ByteArray.empty, .int .i64 0, .int .i64 0, .int .i64 0, .int .i64 0, .string ByteArray.empty, .int .i64 0, .int .i64 0, .string ByteArray.empty, .bool false, .int .i64 0]) ?_
                 refine s_store 1 #[.int .i64 0, .int .i64 0, .int .i64 0, .string ByteArray.empty, .int .i64 0, .int .i64 0, .int .i64 0, .int .i64 0, .string ByteArray.empty, .int .i64 0, .int .i64 0, .string ByteArray.empty, .bool false, .int .i64 0] ?_
                 refine s_nt ?_
                 refine k_ret ?_
                 have h2 : noneR c = ⟨zVl, zVl, 0, ByteArray.empty, false, 0⟩ := noneR_out (by omega)
                 exact xs_fin [.agg #[.int .i64 0, .int .i64 0, .int .i64 0, .string ByteArray.empty, .int .i64 0, .int .i64 0, .int .i64 0, .int .i64 0, .string ByteArray.empty, .int .i64 0, .int .i64 0, .string ByteArray.empty, .bool false, .int .i64 0]] [] (SI.agg 4 65 1 SI.nil) (fun _ h => h.re [] [0, 0, 0]) ⟨by rw [h2]; rfl, rfl⟩
                ·
                 have p60 := of_decide_eq_false c58
                 refine k_sr ?_
                 refine s_lt t_cmp ?_
                 refine sp (.bool (decide (c.kind = 16))) ?_
                 refine s_nt ?_
                 refine k_cond (decide (c.kind = 16)) (fun c61 => ?_) (fun c61 => ?_)
                 ·
                  have p62 := of_decide_eq_true c61
                  refine k_sr ?_
                  refine sp (.pointer none) ?_
                  refine sp (pB g1 1) ?_
                  refine s_lt (t_loadA 2 #[.int .i64 c.a.kind, .int .i64 c.a.p, .int .i64 c.a.q, .string c.a.str, .int .i64 c.a.ref]) ?_
                  refine s_vcall (fun _ h => nname_s c.a) ?_
                  rintro _ rfl
                  refine sp (.tuple #[.string ByteArray.empty, .bool false]) ?_
                  refine sp (.string ByteArray.empty) ?_
                  refine sp (.bool false) ?_
                  refine sp (.string ByteArray.empty) ?_
                  refine sp (.bool false) ?_
                  refine s_nt ?_
                  refine k_reg ?_
                  refine sp (.string ByteArray.empty) ?_
                  refine sp (.bool false) ?_
                  refine s_lt (t_kern (.agg #[.int .i64 0, .int .i64 0, .int .i64 0, .string ByteArray.empty, .int .i64 0, .int .i64 0, .int .i64 0, .int .i64 0, .string ByteArray.empty, .int .i64 0, .int .i64 0, .string ByteArray.empty, .bool false, .int .i64 0])) ?_
                  refine s_store 0 #[.int .i64 0, .int .i64 0, .int .i64 0, .string ByteArray.empty, .int .i64 0, .int .i64 0, .int .i64 0, .int .i64 0, .string ByteArray.empty, .int .i64 0, .int .i64 0, .string ByteArray.empty, .bool false, .int .i64 0] ?_
                  refine s_nil ?_
                  refine xs_block ?_
                  refine xs_then ?_
                  refine k_sr ?_
                  refine s_lt (t_loadA 0 #[.int .i64 0, .int .i64 0, .int .i64 0, .string ByteArray.empty, .int .i64 0, .int .i64 0, .int .i64 0, .int .i64 0, .string ByteArray.empty, .int .i64 0, .int .i64 0, .string ByteArray.empty, .bool false, .int .i64 0]) ?_
                  refine s_store 1 #[.int .i64 0, .int .i64 0, .int .i64 0, .string ByteArray.empty, .int .i64 0, .int .i64 0, .int .i64 0, .int .i64 0, .string ByteArray.empty, .int .i64 0, .int .i64 0, .string ByteArray.empty, .bool false, .int .i64 0] ?_
                  refine s_nt ?_
                  refine k_ret ?_
                  have h2 : noneR c = ⟨zVl, zVl, 0, ByteArray.empty, false, 0⟩ := noneR_out (by omega)
                  exact xs_fin [.agg #[.int .i64 0, .int .i64 0, .int .i64 0, .string ByteArray.empty, .int .i64 0, .int .i64 0, .int .i64 0, .int .i64 0, .string ByteArray.empty, .int .i64 0, .int .i64 0, .string ByteArray.empty, .bool false, .int .i64 0]] [] (SI.agg 4 65 1 SI.nil) (fun _ h => h.re [] [0, 0, 0]) ⟨by rw [h2]; rfl, rfl⟩
                 ·
                  have p63 := of_decide_eq_false c61
                  refine k_sr ?_
                  refine s_lt t_cmp ?_
                  refine sp (.bool (decide (c.kind = 17))) ?_
                  refine s_nt ?_
                  refine k_cond (decide (c.kind = 17)) (fun c64 => ?_) (fun c64 => ?_)
                  ·
                   have p65 := of_decide_eq_true c64
                   refine k_reg ?_
                   refine sp (.pointer none) ?_
                   refine sp (pB g1 1) ?_
                   refine s_lt (t_loadA 2 #[.int .i64 c.a.kind, .int .i64 c.a.p, .int .i64 c.a.q, .string c.a.str, .int .i64 c.a.ref]) ?_
                   refine s_vcall (fun _ h => nmeta_s c.a) ?_
                   rintro _ rfl
                   refine sp (pB g3 0) ?_
                   refine s_store 0 #[.int .i64 zVl.kind, .int .i64 zVl.p, .int .i64 zVl.q, .string zVl.str, .int .i64 zVl.ref, .int .i64 0, .int .i64 0, .int .i64 0, .string ByteArray.empty, .int .i64 0, .int .i64 0, .string ByteArray.empty, .bool false, .int .i64 0] ?_
                   refine s_nil ?_
                   refine xs_block ?_
                   refine xs_then ?_
                   refine k_sr ?_
                   refine s_lt (t_loadA 0 #[.int .i64 zVl.kind, .int .i64 zVl.p, .int .i64 zVl.q, .string zVl.str, .int .i64 zVl.ref, .int .i64 0, .int .i64 0, .int .i64 0, .string ByteArray.empty, .int .i64 0, .int .i64 0, .string ByteArray.empty, .bool false, .int .i64 0]) ?_
                   refine s_store 1 #[.int .i64 zVl.kind, .int .i64 zVl.p, .int .i64 zVl.q, .string zVl.str, .int .i64 zVl.ref, .int .i64 0, .int .i64 0, .int .i64 0, .string ByteArray.empty, .int .i64 0, .int .i64 0, .string ByteArray.empty, .bool false, .int .i64 0] ?_
                   refine s_nt ?_
                   refine k_ret ?_
                   have h2 : noneR c = ⟨zVl, zVl, 0, ByteArray.empty, false, 0⟩ := noneR_out (by omega)
                   exact xs_fin [.agg #[.int .i64 zVl.kind, .int .i64 zVl.p, .int .i64 zVl.q, .string zVl.str, .int .i64 zVl.ref, .int .i64 0, .int .i64 0, .int .i64 0, .string ByteArray.empty, .int .i64 0, .int .i64 0, .string ByteArray.empty, .bool false, .int .i64 0]] [] (SI.agg 4 65 1 SI.nil) (fun _ h => h.re [] [0, 0, 0]) ⟨by rw [h2]; rfl, rfl⟩
                  ·
                   have p66 := of_decide_eq_false c64
                   refine k_reg ?_
                   refine sp (.pointer none) ?_
                   refine sp (pB g1 16) ?_
                   refine s_lt (t_load 2 (.int .i64 c.n)) ?_
                   refine s_vcall (fun _ h => nalive_s c.n) ?_
                   rintro _ rfl
                   refine sp (pB g3 12) ?_
                   refine s_store 0 #[.int .i64 0, .int .i64 0, .int .i64 0, .string ByteArray.empty, .int .i64 0, .int .i64 0, .int .i64 0, .int .i64 0, .string ByteArray.empty, .int .i64 0, .int .i64 0, .string ByteArray.empty, .bool false, .int .i64 0] ?_
                   refine s_nil ?_
                   refine xs_block ?_
                   refine xs_then ?_
                   refine k_sr ?_
                   refine s_lt (t_loadA 0 #[.int .i64 0, .int .i64 0, .int .i64 0, .string ByteArray.empty, .int .i64 0, .int .i64 0, .int .i64 0, .int .i64 0, .string ByteArray.empty, .int .i64 0, .int .i64 0, .string ByteArray.empty, .bool false, .int .i64 0]) ?_
                   refine s_store 1 #[.int .i64 0, .int .i64 0, .int .i64 0, .string ByteArray.empty, .int .i64 0, .int .i64 0, .int .i64 0, .int .i64 0, .string ByteArray.empty, .int .i64 0, .int .i64 0, .string ByteArray.empty, .bool false, .int .i64 0] ?_
                   refine s_nt ?_
                   refine k_ret ?_
                   have h2 : noneR c = ⟨zVl, zVl, 0, ByteArray.empty, false, 0⟩ := noneR_out (by omega)
                   exact xs_fin [.agg #[.int .i64 0, .int .i64 0, .int .i64 0, .string ByteArray.empty, .int .i64 0, .int .i64 0, .int .i64 0, .int .i64 0, .string ByteArray.empty, .int .i64 0, .int .i64 0, .string ByteArray.empty, .bool false, .int .i64 0]] [] (SI.agg 4 65 1 SI.nil) (fun _ h => h.re [] [0, 0, 0]) ⟨by rw [h2]; rfl, rfl⟩
theorem eqRsT (x y : Rs) (w : World) : (binOp .eql 65 x.w_ y.w_).run Try.prog w = .ok (.bool (decide (x = y))) w ∧ (binOp .neq 65 x.w_ y.w_).run Try.prog w = .ok (.bool (!decide (x = y))) w := by
  have h := J.run_eqS (P := Try.prog) (t := 65) [0, 0, 0, 1, 0, 0, 0, 0, 1, 0, 0, 1, 2, 0] (by kernel_rfl) (by kernel_rfl) #[.int .i64 x.v.kind, .int .i64 x.v.p, .int .i64 x.v.q, .string x.v.str, .int .i64 x.v.ref, .int .i64 x.w.kind, .int .i64 x.w.p, .int .i64 x.w.q, .string x.w.str, .int .i64 x.w.ref, .int .i64 x.n, .string x.s, .bool x.ok, .int .i64 x.e] #[.int .i64 y.v.kind, .int .i64 y.v.p, .int .i64 y.v.q, .string y.v.str, .int .i64 y.v.ref, .int .i64 y.w.kind, .int .i64 y.w.p, .int .i64 y.w.q, .string y.w.str, .int .i64 y.w.ref, .int .i64 y.n, .string y.s, .bool y.ok, .int .i64 y.e] rfl rfl w
  have e : J.cellsEq [.int .i64 x.v.kind, .int .i64 x.v.p, .int .i64 x.v.q, .string x.v.str, .int .i64 x.v.ref, .int .i64 x.w.kind, .int .i64 x.w.p, .int .i64 x.w.q, .string x.w.str, .int .i64 x.w.ref, .int .i64 x.n, .string x.s, .bool x.ok, .int .i64 x.e] [.int .i64 y.v.kind, .int .i64 y.v.p, .int .i64 y.v.q, .string y.v.str, .int .i64 y.v.ref, .int .i64 y.w.kind, .int .i64 y.w.p, .int .i64 y.w.q, .string y.w.str, .int .i64 y.w.ref, .int .i64 y.n, .string y.s, .bool y.ok, .int .i64 y.e] = decide (x = y) := by
    obtain ⟨⟨_, _, _, _, _⟩, ⟨_, _, _, _, _⟩, _, _, _, _⟩ := x
    obtain ⟨⟨_, _, _, _, _⟩, ⟨_, _, _, _, _⟩, _, _, _, _⟩ := y
    rw [Bool.eq_iff_iff]; simp [J.cellsEq, J.cellEq, and_assoc]
  rw [e] at h
  exact h
theorem none_w {Z : Zone} (c : Cl) (id : Int) : SF Try.prog 7 #[c.w, .int .i64 id] Z [] fun r Bs => r = .bool true ∧ Bs = [] := by
 refine sf_enter Try.func7 59 [(0, .agg #[.int .i64 c.kind, .int .i64 c.a.kind, .int .i64 c.a.p, .int .i64 c.a.q, .string c.a.str, .int .i64 c.a.ref, .int .i64 c.b.kind, .int .i64 c.b.p, .int .i64 c.b.q, .string c.b.str, .int .i64 c.b.ref, .int .i64 c.c.kind, .int .i64 c.c.p, .int .i64 c.c.q, .string c.c.str, .int .i64 c.c.ref, .int .i64 c.n, .string c.s, c.lv.v]), (1, .int .i64 id)] (fun w0 => ?_)
 refine k_sr ?_
 refine s_box #[.int .i64 c.kind, .int .i64 c.a.kind, .int .i64 c.a.p, .int .i64 c.a.q, .string c.a.str, .int .i64 c.a.ref, .int .i64 c.b.kind, .int .i64 c.b.p, .int .i64 c.b.q, .string c.b.str, .int .i64 c.b.ref, .int .i64 c.c.kind, .int .i64 c.c.p, .int .i64 c.c.q, .string c.c.str, .int .i64 c.c.ref, .int .i64 c.n, .string c.s, c.lv.v] (fun g1 => ?_)
 refine sp (.bool false) ?_
 refine s_nr ?_
 refine sp (.pointer none) ?_
 refine s_nr ?_
 refine sp (.pointer none) ?_
 refine s_lt (t_loadA 0 #[.int .i64 c.kind, .int .i64 c.a.kind, .int .i64 c.a.p, .int .i64 c.a.q, .string c.a.str, .int .i64 c.a.ref, .int .i64 c.b.kind, .int .i64 c.b.p, .int .i64 c.b.q, .string c.b.str, .int .i64 c.b.ref, .int .i64 c.c.kind, .int .i64 c.c.p, .int .i64 c.c.q, .string c.c.str, .int .i64 c.c.ref, .int .i64 c.n, .string c.s, c.lv.v]) ?_
 refine s_vcall (fun _ h => nprogram_s c) ?_
 rintro _ rfl
 refine s_alloc (.agg #[.int .i64 0, .int .i64 0, .int .i64 0, .string ByteArray.empty, .int .i64 0, .int .i64 0, .int .i64 0, .int .i64 0, .string ByteArray.empty, .int .i64 0, .int .i64 0, .string ByteArray.empty, .bool false, .int .i64 0]) #[.int .i64 0, .int .i64 0, .int .i64 0, .string ByteArray.empty, .int .i64 0, .int .i64 0, .int .i64 0, .int .i64 0, .string ByteArray.empty, .int .i64 0, .int .i64 0, .string ByteArray.empty, .bool false, .int .i64 0] (fun g2 => ?_)
 refine s_store 0 #[.int .i64 (((noneR c).v).kind), .int .i64 (((noneR c).v).p), .int .i64 (((noneR c).v).q), .string (((noneR c).v).str), .int .i64 (((noneR c).v).ref), .int .i64 (((noneR c).w).kind), .int .i64 (((noneR c).w).p), .int .i64 (((noneR c).w).q), .string (((noneR c).w).str), .int .i64 (((noneR c).w).ref), .int .i64 ((noneR c).n), .string ((noneR c).s), .bool ((noneR c).ok), .int .i64 ((noneR c).e)] ?_
 refine s_nt ?_
 refine k_seq ?_
 refine k_cut (ι := Unit) (fun _ => True) (fun _ => [(1, .int .i64 id), (5, .pointer none), (6, pB g2 0), (19, .bool ((decide ((0 : Int) ≤ c.kind)) && (decide (c.kind ≤ 14))))]) (fun _ => [blkA g2 #[.int .i64 (((noneR c).v).kind), .int .i64 (((noneR c).v).p), .int .i64 (((noneR c).v).q), .string (((noneR c).v).str), .int .i64 (((noneR c).v).ref), .int .i64 (((noneR c).w).kind), .int .i64 (((noneR c).w).p), .int .i64 (((noneR c).w).q), .string (((noneR c).w).str), .int .i64 (((noneR c).w).ref), .int .i64 ((noneR c).n), .string ((noneR c).s), .bool ((noneR c).ok), .int .i64 ((noneR c).e)] 65, blkA g1 #[.int .i64 c.kind, .int .i64 c.a.kind, .int .i64 c.a.p, .int .i64 c.a.q, .string c.a.str, .int .i64 c.a.ref, .int .i64 c.b.kind, .int .i64 c.b.p, .int .i64 c.b.q, .string c.b.str, .int .i64 c.b.ref, .int .i64 c.c.kind, .int .i64 c.c.p, .int .i64 c.c.q, .string c.c.str, .int .i64 c.c.ref, .int .i64 c.n, .string c.s, c.lv.v] 29]) ?_ (fun _ _ => ?_)
 ·
  refine k_reg ?_
  refine sp (pB g1 0) ?_
  refine s_lt (t_load 1 (.int .i64 c.kind)) ?_
  refine s_lt t_cmp ?_
  refine sp (.bool (decide ((0 : Int) ≤ c.kind))) ?_
  refine s_fork 15 (decide ((0 : Int) ≤ c.kind)) (fun c3 => ?_) (fun c3 => ?_)
  ·
   have p4 := of_decide_eq_true c3
   refine sp (pB g1 0) ?_
   refine s_lt (t_load 1 (.int .i64 c.kind)) ?_
   refine s_lt t_cmp ?_
   refine sp (.bool (decide (c.kind ≤ 14))) ?_
   refine s_nil ?_
   exact xs_cut () trivial (sub_of rfl ⟨⟨rfl, rfl⟩, ⟨⟨rfl, rfl⟩, ⟨⟨rfl, rfl⟩, ⟨⟨rfl, show Value.bool (decide (c.kind ≤ 14)) = Value.bool ((decide ((0 : Int) ≤ c.kind)) && (decide (c.kind ≤ 14))) by first | (simp only [c3, bls]; done) | simp [c3]⟩, trivial⟩⟩⟩⟩) (fun _ h => h.re [0, 0] [])
  ·
   have p5 := of_decide_eq_false c3
   refine s_skip ?_
   refine s_skip ?_
   refine s_skip ?_
   refine sp (.bool false) ?_
   refine s_nil ?_
   exact xs_cut () trivial (sub_of rfl ⟨⟨rfl, rfl⟩, ⟨⟨rfl, rfl⟩, ⟨⟨rfl, rfl⟩, ⟨⟨rfl, show Value.bool false = Value.bool ((decide ((0 : Int) ≤ c.kind)) && (decide (c.kind ≤ 14))) by first | (simp only [c3, bls]; done) | simp [c3]⟩, trivial⟩⟩⟩⟩) (fun _ h => h.re [0, 0] [])
 ·
  refine k_cond ((decide ((0 : Int) ≤ c.kind)) && (decide (c.kind ≤ 14))) (fun c6 => ?_) (fun c6 => ?_)
  ·
   obtain ⟨c7, c8⟩ := and_t c6
   have p9 := of_decide_eq_true c7
   have p10 := of_decide_eq_true c8
   refine k_sr ?_
   refine s_lt (t_loadA 0 #[.int .i64 (((noneR c).v).kind), .int .i64 (((noneR c).v).p), .int .i64 (((noneR c).v).q), .string (((noneR c).v).str), .int .i64 (((noneR c).v).ref), .int .i64 (((noneR c).w).kind), .int .i64 (((noneR c).w).p), .int .i64 (((noneR c).w).q), .string (((noneR c).w).str), .int .i64 (((noneR c).w).ref), .int .i64 ((noneR c).n), .string ((noneR c).s), .bool ((noneR c).ok), .int .i64 ((noneR c).e)]) ?_
   refine s_lt (t_kern (.agg #[.int .i64 0, .int .i64 0, .int .i64 0, .string ByteArray.empty, .int .i64 0, .int .i64 0, .int .i64 0, .int .i64 0, .string ByteArray.empty, .int .i64 0, .int .i64 0, .string ByteArray.empty, .bool false, .int .i64 1])) ?_
   refine s_lt (Lt.to (t_eqS (fun w => (eqRsT (noneR c) (⟨zVl, zVl, 0, ByteArray.empty, false, 1⟩ : Rs) w).2)) (congrArg Value.bool ((congrArg Bool.not (decide_eq_true (noneR_in (by omega)) : (decide ((noneR c) = (⟨zVl, zVl, 0, ByteArray.empty, false, 1⟩ : Rs))) = true)).trans rfl : (!(decide ((noneR c) = (⟨zVl, zVl, 0, ByteArray.empty, false, 1⟩ : Rs)))) = false))) ?_
   refine s_nt ?_
   refine k_false ?_
   refine k_st ?_
   refine k_sr ?_
   refine sp (.pointer none) ?_
   refine sp (.int .i64 id) ?_
   refine s_vcall (fun _ h => nobj_s id 0) ?_
   rintro _ rfl
   refine sp (.tuple #[.agg #[.int .i64 0, .int .i64 0, .int .i64 0, (.slice none 0 0), (.slice none 0 0)], .bool false]) ?_
   refine sp (.agg #[.int .i64 0, .int .i64 0, .int .i64 0, (.slice none 0 0), (.slice none 0 0)]) ?_
   refine sp (.bool false) ?_
   refine s_alloc (.agg #[.int .i64 0, .int .i64 0, .int .i64 0, (.slice none 0 0), (.slice none 0 0)]) #[.int .i64 0, .int .i64 0, .int .i64 0, (.slice none 0 0), (.slice none 0 0)] (fun g11 => ?_)
   refine s_store 0 #[.int .i64 0, .int .i64 0, .int .i64 0, (.slice none 0 0), (.slice none 0 0)] ?_
   refine sp (.bool false) ?_
   refine s_nr ?_
   refine sp (.bool false) ?_
   refine sp (.bool true) ?_
   refine sp (.bool true) ?_
   refine sp (.pointer none) ?_
   refine s_vcall (fun _ h => nids_s) ?_
   rintro _ rfl
   refine s_lt (t_len iTy_ok Try.underlying54 .nil) ?_
   refine s_lt (Lt.to t_cmp (congrArg Value.bool (decide_eq_true rfl : (decide (([].length : Int) = 0)) = true))) ?_
   refine sp (.bool true) ?_
   refine sp (.bool true) ?_
   refine sp (.pointer none) ?_
   refine s_vcall (fun _ h => ntch_s) ?_
   rintro _ rfl
   refine s_lt (t_len iTy_ok Try.underlying54 .nil) ?_
   refine s_lt (Lt.to t_cmp (congrArg Value.bool (decide_eq_true rfl : (decide (([].length : Int) = 0)) = true))) ?_
   refine sp (.bool true) ?_
   refine sp (.bool true) ?_
   refine sp (.pointer none) ?_
   refine s_vcall (fun _ h => ncnt_s) ?_
   rintro _ rfl
   refine s_lt (t_cmp (c := true)) ?_
   refine sp (.bool true) ?_
   refine sp (.bool true) ?_
   refine sp (.pointer none) ?_
   refine s_vcall (fun _ h => nsz_s) ?_
   rintro _ rfl
   refine s_lt (t_cmp (c := true)) ?_
   refine sp (.bool true) ?_
   refine sp (.bool true) ?_
   refine s_vcall (fun _ h => awake_s) ?_
   rintro _ rfl
   refine sp (.bool true) ?_
   refine sp (.bool true) ?_
   refine s_nt ?_
   refine k_ret ?_
   exact xs_fin [.bool true] [] (SI.tmp 4 SI.nil) (fun _ h => h.re [] [0, 0, 0]) ⟨rfl, rfl⟩
  ·
   have p12 := c6
   simp only [Bool.and_eq_true, Bool.or_eq_true, Bool.and_eq_false_iff, Bool.or_eq_false_iff, Bool.not_eq_true', Bool.not_eq_false', decide_eq_true_eq, decide_eq_false_iff_not] at p12
   refine k_sr ?_
   refine s_lt (t_loadA 0 #[.int .i64 (((noneR c).v).kind), .int .i64 (((noneR c).v).p), .int .i64 (((noneR c).v).q), .string (((noneR c).v).str), .int .i64 (((noneR c).v).ref), .int .i64 (((noneR c).w).kind), .int .i64 (((noneR c).w).p), .int .i64 (((noneR c).w).q), .string (((noneR c).w).str), .int .i64 (((noneR c).w).ref), .int .i64 ((noneR c).n), .string ((noneR c).s), .bool ((noneR c).ok), .int .i64 ((noneR c).e)]) ?_
   refine s_lt (t_kern (.agg #[.int .i64 0, .int .i64 0, .int .i64 0, .string ByteArray.empty, .int .i64 0, .int .i64 0, .int .i64 0, .int .i64 0, .string ByteArray.empty, .int .i64 0, .int .i64 0, .string ByteArray.empty, .bool false, .int .i64 0])) ?_
   refine s_lt (Lt.to (t_eqS (fun w => (eqRsT (noneR c) (⟨zVl, zVl, 0, ByteArray.empty, false, 0⟩ : Rs) w).2)) (congrArg Value.bool ((congrArg Bool.not (decide_eq_true (noneR_out (by omega)) : (decide ((noneR c) = (⟨zVl, zVl, 0, ByteArray.empty, false, 0⟩ : Rs))) = true)).trans rfl : (!(decide ((noneR c) = (⟨zVl, zVl, 0, ByteArray.empty, false, 0⟩ : Rs)))) = false))) ?_
   refine s_nt ?_
   refine k_false ?_
   refine k_st ?_
   refine k_sr ?_
   refine sp (.pointer none) ?_
   refine sp (.int .i64 id) ?_
   refine s_vcall (fun _ h => nobj_s id 0) ?_
   rintro _ rfl
   refine sp (.tuple #[.agg #[.int .i64 0, .int .i64 0, .int .i64 0, (.slice none 0 0), (.slice none 0 0)], .bool false]) ?_
   refine sp (.agg #[.int .i64 0, .int .i64 0, .int .i64 0, (.slice none 0 0), (.slice none 0 0)]) ?_
   refine sp (.bool false) ?_
   refine s_alloc (.agg #[.int .i64 0, .int .i64 0, .int .i64 0, (.slice none 0 0), (.slice none 0 0)]) #[.int .i64 0, .int .i64 0, .int .i64 0, (.slice none 0 0), (.slice none 0 0)] (fun g13 => ?_)
   refine s_store 0 #[.int .i64 0, .int .i64 0, .int .i64 0, (.slice none 0 0), (.slice none 0 0)] ?_
   refine sp (.bool false) ?_
   refine s_nr ?_
   refine sp (.bool false) ?_
   refine sp (.bool true) ?_
   refine sp (.bool true) ?_
   refine sp (.pointer none) ?_
   refine s_vcall (fun _ h => nids_s) ?_
   rintro _ rfl
   refine s_lt (t_len iTy_ok Try.underlying54 .nil) ?_
   refine s_lt (Lt.to t_cmp (congrArg Value.bool (decide_eq_true rfl : (decide (([].length : Int) = 0)) = true))) ?_
   refine sp (.bool true) ?_
   refine sp (.bool true) ?_
   refine sp (.pointer none) ?_
   refine s_vcall (fun _ h => ntch_s) ?_
   rintro _ rfl
   refine s_lt (t_len iTy_ok Try.underlying54 .nil) ?_
   refine s_lt (Lt.to t_cmp (congrArg Value.bool (decide_eq_true rfl : (decide (([].length : Int) = 0)) = true))) ?_
   refine sp (.bool true) ?_
   refine sp (.bool true) ?_
   refine sp (.pointer none) ?_
   refine s_vcall (fun _ h => ncnt_s) ?_
   rintro _ rfl
   refine s_lt (t_cmp (c := true)) ?_
   refine sp (.bool true) ?_
   refine sp (.bool true) ?_
   refine sp (.pointer none) ?_
   refine s_vcall (fun _ h => nsz_s) ?_
   rintro _ rfl
   refine s_lt (t_cmp (c := true)) ?_
   refine sp (.bool true) ?_
   refine sp (.bool true) ?_
   refine s_vcall (fun _ h => awake_s) ?_
   rintro _ rfl
   refine sp (.bool true) ?_
   refine sp (.bool true) ?_
   refine s_nt ?_
   refine k_ret ?_
   exact xs_fin [.bool true] [] (SI.tmp 4 SI.nil) (fun _ h => h.re [] [0, 0, 0]) ⟨rfl, rfl⟩
end Go.Proofs.Ytmilekfknhglkaa
