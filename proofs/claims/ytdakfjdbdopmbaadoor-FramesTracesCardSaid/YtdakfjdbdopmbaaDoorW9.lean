/-
  The line of a place.
-/
import Derived.Test.YtdakfjdbdopmbaaDoorW8
set_option linter.unusedSimpArgs false
set_option linter.unusedVariables false
set_option maxRecDepth 100000
namespace Go.Proofs.YtdakfjdbdopmbaaDoor
open Go.Hp Go.J Go.S
open Go.Mem (Ty KTy blk elemAt pre suf blk_pre blk_suf aget aset strK aggDesc)
open Go.Mem
def lineT (p : Pl) : ByteArray :=
  if p.tail then (if 0 < p.line then p.name ++ ⟨#[58]⟩ ++ itoaB p.line else p.name) ++ ⟨#[32, 40, 116, 97, 105, 108, 32, 99, 97, 108, 108, 41]⟩ else (if 0 < p.line then p.name ++ ⟨#[58]⟩ ++ itoaB p.line else p.name)
theorem tail_cat (s : ByteArray) : s ++ ⟨#[32]⟩ ++ ⟨#[40, 116, 97, 105, 108, 32, 99, 97, 108, 108, 41]⟩ = s ++ ⟨#[32, 40, 116, 97, 105, 108, 32, 99, 97, 108, 108, 41]⟩ := by rw [ByteArray.append_assoc]; rfl
def okP (p : Pl) : Prop := -9223372036854775808 ≤ p.line ∧ p.line ≤ 9223372036854775807 ∧ (p.name.size : Int) ≤ 4611686018427387904
theorem line_s {Z : Zone} (ht : KnTab Z) (p : Pl) (hp : okP p) : SF Tryd.prog 32 #[p.v] Z [] fun r Bs => r = .string (lineT p) ∧ Bs = [] := by
  obtain ⟨h0, h1, h2⟩ := hp
  refine sf_enter Tryd.func32 21 [(0, .agg #[.string p.name, .int .i64 p.line, .bool p.tail])] (fun w0 => ?_)
  refine k_seq ?_
  refine k_reg ?_
  refine s_box #[.string p.name, .int .i64 p.line, .bool p.tail] (fun g1 => ?_)
  refine s_lt (t_pure (.string ByteArray.empty)) ?_
  refine s_nil ?_
  refine xs_then ?_
  refine k_seq ?_
  refine k_reg ?_
  refine s_lt (t_pure (.pointer (some ⟨g1, 0, none⟩))) ?_
  refine s_lt (t_load 0 (.string p.name)) ?_
  refine s_lt (t_pure (.string p.name)) ?_
  refine s_nil ?_
  refine xs_then ?_
  refine k_seq ?_
  refine k_seq ?_
  refine k_reg ?_
  refine s_lt (t_pure (.pointer (some ⟨g1, 1, none⟩))) ?_
  refine s_lt (t_load 0 (.int .i64 p.line)) ?_
  refine s_lt t_cmp ?_
  refine s_nil ?_
  refine xs_then ?_
  refine k_cond (decide ((0 : Int) < p.line)) (fun c2 => ?_) (fun c2 => ?_)
  ·
    have p3 := of_decide_eq_true c2
    refine k_reg ?_
    refine s_lt (t_pure (.string p.name)) ?_
    refine s_lt (t_pure (.pointer (some ⟨g1, 1, none⟩))) ?_
    refine s_lt (t_load 0 (.int .i64 p.line)) ?_
    have z4 := itoaB_size (n := p.line) (by omega) (by omega)
    refine s_vcall (fun _ h => itoa_s (ht.at h) p.line (by omega) (by omega)) ?_
    rintro _ rfl
    refine s_buildSlice (e := 9) [(0, .string p.name), (1, .string ⟨#[58]⟩), (2, .string (itoaB p.line))] #[.string p.name, .string ⟨#[58]⟩, .string (itoaB p.line)] (fun g5 => ?_) (hb := by kernel_rfl)
    refine s_vcall (fun _ h => join_s (Acc.kn (.lit 0 st_ok [p.name, ⟨#[58]⟩, (itoaB p.line)]) h) (by simp only [szs3, join3, ByteArray.size_append, sz_mk, List.length_cons, List.length_nil]; omega) (by (try simp only [List.length_nil, List.length_cons, List.length_append, List.length_take, List.length_drop, List.length_set, List.length_replicate, List.length_reverse]); omega)) ?_
    rintro _ rfl
    refine s_lt (t_pure (.string (joinT [p.name, ⟨#[58]⟩, (itoaB p.line)]))) ?_
    refine s_nil ?_
    refine xs_then ?_
    refine k_seq ?_
    refine k_seq ?_
    refine k_reg ?_
    refine s_lt (t_pure (.pointer (some ⟨g1, 2, none⟩))) ?_
    refine s_lt (t_load 1 (.bool p.tail)) ?_
    refine s_nil ?_
    refine xs_then ?_
    refine k_cond p.tail (fun c7 => ?_) (fun c7 => ?_)
    ·
      refine k_reg ?_
      refine s_lt (t_pure (.string (joinT [p.name, ⟨#[58]⟩, (itoaB p.line)]))) ?_
      refine s_buildSlice (e := 9) [(0, .string (joinT [p.name, ⟨#[58]⟩, (itoaB p.line)])), (1, .string ⟨#[32]⟩), (2, .string ⟨#[40, 116, 97, 105, 108, 32, 99, 97, 108, 108, 41]⟩)] #[.string (joinT [p.name, ⟨#[58]⟩, (itoaB p.line)]), .string ⟨#[32]⟩, .string ⟨#[40, 116, 97, 105, 108, 32, 99, 97, 108, 108, 41]⟩] (fun g8 => ?_) (hb := by kernel_rfl)
      refine s_vcall (fun _ h => join_s (Acc.kn (.lit 0 st_ok [(joinT [p.name, ⟨#[58]⟩, (itoaB p.line)]), ⟨#[32]⟩, ⟨#[40, 116, 97, 105, 108, 32, 99, 97, 108, 108, 41]⟩]) h) (by simp only [szs3, join3, ByteArray.size_append, sz_mk, List.length_cons, List.length_nil]; omega) (by (try simp only [List.length_nil, List.length_cons, List.length_append, List.length_take, List.length_drop, List.length_set, List.length_replicate, List.length_reverse]); omega)) ?_
      rintro _ rfl
      refine s_lt (t_pure (.string (joinT [(joinT [p.name, ⟨#[58]⟩, (itoaB p.line)]), ⟨#[32]⟩, ⟨#[40, 116, 97, 105, 108, 32, 99, 97, 108, 108, 41]⟩]))) ?_
      refine s_nil ?_
      refine xs_then ?_
      refine k_seq ?_
      refine k_reg ?_
      refine s_lt (t_pure (.string (joinT [(joinT [p.name, ⟨#[58]⟩, (itoaB p.line)]), ⟨#[32]⟩, ⟨#[40, 116, 97, 105, 108, 32, 99, 97, 108, 108, 41]⟩]))) ?_
      refine s_lt (t_pure (.string (joinT [(joinT [p.name, ⟨#[58]⟩, (itoaB p.line)]), ⟨#[32]⟩, ⟨#[40, 116, 97, 105, 108, 32, 99, 97, 108, 108, 41]⟩]))) ?_
      refine s_nil ?_
      refine xs_then ?_
      refine k_ret ?_
      refine xs_fin [.string (joinT [(joinT [p.name, ⟨#[58]⟩, (itoaB p.line)]), ⟨#[32]⟩, ⟨#[40, 116, 97, 105, 108, 32, 99, 97, 108, 108, 41]⟩])] [] (SI.tmp 2 SI.nil) (fun _ h => h.re [] [0, 0, 0]) ⟨?_, rfl⟩
      refine congrArg Value.string ?_; simp [lineT, join3, tail_cat, p3, c7]
    ·
      refine k_skip ?_
      refine xs_then ?_
      refine k_seq ?_
      refine k_reg ?_
      refine s_lt (t_pure (.string (joinT [p.name, ⟨#[58]⟩, (itoaB p.line)]))) ?_
      refine s_lt (t_pure (.string (joinT [p.name, ⟨#[58]⟩, (itoaB p.line)]))) ?_
      refine s_nil ?_
      refine xs_then ?_
      refine k_ret ?_
      refine xs_fin [.string (joinT [p.name, ⟨#[58]⟩, (itoaB p.line)])] [] (SI.tmp 2 SI.nil) (fun _ h => h.re [] [0, 0]) ⟨?_, rfl⟩
      refine congrArg Value.string ?_; simp [lineT, join3, tail_cat, p3, c7]
  ·
    have p10 := of_decide_eq_false c2
    refine k_skip ?_
    refine xs_then ?_
    refine k_seq ?_
    refine k_seq ?_
    refine k_reg ?_
    refine s_lt (t_pure (.pointer (some ⟨g1, 2, none⟩))) ?_
    refine s_lt (t_load 0 (.bool p.tail)) ?_
    refine s_nil ?_
    refine xs_then ?_
    refine k_cond p.tail (fun c11 => ?_) (fun c11 => ?_)
    ·
      refine k_reg ?_
      refine s_lt (t_pure (.string p.name)) ?_
      refine s_buildSlice (e := 9) [(0, .string p.name), (1, .string ⟨#[32]⟩), (2, .string ⟨#[40, 116, 97, 105, 108, 32, 99, 97, 108, 108, 41]⟩)] #[.string p.name, .string ⟨#[32]⟩, .string ⟨#[40, 116, 97, 105, 108, 32, 99, 97, 108, 108, 41]⟩] (fun g12 => ?_) (hb := by kernel_rfl)
      refine s_vcall (fun _ h => join_s (Acc.kn (.lit 0 st_ok [p.name, ⟨#[32]⟩, ⟨#[40, 116, 97, 105, 108, 32, 99, 97, 108, 108, 41]⟩]) h) (by simp only [szs3, join3, ByteArray.size_append, sz_mk, List.length_cons, List.length_nil]; omega) (by (try simp only [List.length_nil, List.length_cons, List.length_append, List.length_take, List.length_drop, List.length_set, List.length_replicate, List.length_reverse]); omega)) ?_
      rintro _ rfl
      refine s_lt (t_pure (.string (joinT [p.name, ⟨#[32]⟩, ⟨#[40, 116, 97, 105, 108, 32, 99, 97, 108, 108, 41]⟩]))) ?_
      refine s_nil ?_
      refine xs_then ?_
      refine k_seq ?_
      refine k_reg ?_
      refine s_lt (t_pure (.string (joinT [p.name, ⟨#[32]⟩, ⟨#[40, 116, 97, 105, 108, 32, 99, 97, 108, 108, 41]⟩]))) ?_
      refine s_lt (t_pure (.string (joinT [p.name, ⟨#[32]⟩, ⟨#[40, 116, 97, 105, 108, 32, 99, 97, 108, 108, 41]⟩]))) ?_
      refine s_nil ?_
      refine xs_then ?_
      refine k_ret ?_
      refine xs_fin [.string (joinT [p.name, ⟨#[32]⟩, ⟨#[40, 116, 97, 105, 108, 32, 99, 97, 108, 108, 41]⟩])] [] (SI.tmp 2 SI.nil) (fun _ h => h.re [] [0, 0]) ⟨?_, rfl⟩
      refine congrArg Value.string ?_; simp [lineT, join3, tail_cat, p10, c11]
    ·
      refine k_skip ?_
      refine xs_then ?_
      refine k_seq ?_
      refine k_reg ?_
      refine s_lt (t_pure (.string p.name)) ?_
      refine s_lt (t_pure (.string p.name)) ?_
      refine s_nil ?_
      refine xs_then ?_
      refine k_ret ?_
      refine xs_fin [.string p.name] [] (SI.tmp 2 SI.nil) (fun _ h => h.re [] [0]) ⟨?_, rfl⟩
      refine congrArg Value.string ?_; simp [lineT, join3, tail_cat, p10, c11]
end Go.Proofs.YtdakfjdbdopmbaaDoor
