/-
  The texts of values, by the program and by the reference.
-/
import Derived.Test.YtdakfjdbdopmbaaDoorW4
set_option linter.unusedSimpArgs false
set_option linter.unusedVariables false
set_option maxRecDepth 100000
namespace Go.Proofs.YtdakfjdbdopmbaaDoor
open Go.Hp Go.J Go.S
open Go.Mem (Ty KTy blk elemAt pre suf blk_pre blk_suf aget aset strK aggDesc)
open Go.Mem
theorem typeT_size (k : Int) : (typeT k).size ≤ 10 := by
  unfold typeT; repeat' split
  all_goals decide
def textT (v : Vl) : ByteArray :=
  if v.kind = 0 then ⟨#[110, 105, 108]⟩ else if v.kind = 1 then (if v.ref = 0 then ⟨#[102, 97, 108, 115, 101]⟩ else ⟨#[116, 114, 117, 101]⟩) else if v.kind = 2 then numT v.p v.q else if v.kind = 3 then v.str else if v.kind = 6 then ⟨#[98, 117, 105, 108, 116, 105, 110, 58, 32]⟩ ++ v.str else
  if v.kind = 4 ∨ v.kind = 5 ∨ v.kind = 7 ∨ v.kind = 8 then typeT v.kind ++ ⟨#[58, 32]⟩ ++ itoaB v.ref else ByteArray.empty
theorem typeT_nil : typeT 0 = ⟨#[110, 105, 108]⟩ := rfl
theorem typeT_out {k : Int} (h : ¬ (k = 0 ∨ k = 1 ∨ k = 2 ∨ k = 3 ∨ k = 4 ∨ k = 5 ∨ k = 6 ∨ k = 7 ∨ k = 8)) : typeT k = ByteArray.empty := by
  unfold typeT
  rw [if_neg (by omega), if_neg (by omega), if_neg (by omega), if_neg (by omega), if_neg (by omega), if_neg (by omega), if_neg (by omega), if_neg (by omega), if_neg (by omega)]
theorem text_s {Z : Zone} (ht : KnTab Z) (v : Vl) (h0 : -9223372036854775808 ≤ v.ref) (h1 : v.ref ≤ 9223372036854775807) (hs : (v.str.size : Int) ≤ 4611686018427387904) : SF Tryd.prog 20 #[v.v] Z [] fun r Bs => r = .string (textT v) ∧ Bs = [] := by
  have hts := typeT_size v.kind
  refine sf_enter Tryd.func20 38 [(0, .agg #[.int .i64 v.kind, .int .i64 v.p, .int .i64 v.q, .string v.str, .int .i64 v.ref])] (fun w0 => ?_)
  refine k_seq ?_
  refine k_reg ?_
  refine s_box #[.int .i64 v.kind, .int .i64 v.p, .int .i64 v.q, .string v.str, .int .i64 v.ref] (fun g1 => ?_)
  refine s_lt (t_pure (.string ByteArray.empty)) ?_
  refine s_nil ?_
  refine xs_then ?_
  refine k_seq ?_
  refine k_seq ?_
  refine k_reg ?_
  refine s_lt (t_pure (.pointer (some ⟨g1, 0, none⟩))) ?_
  refine s_lt (t_load 0 (.int .i64 v.kind)) ?_
  refine s_nil ?_
  refine xs_then ?_
  refine k_block ?_
  refine k_seq ?_
  refine k_reg ?_
  refine s_lt t_cmp ?_
  refine s_lt (t_pure (.bool (decide (v.kind = 0)))) ?_
  refine s_nil ?_
  refine xs_then ?_
  refine k_cond (decide (v.kind = 0)) (fun c2 => ?_) (fun c2 => ?_)
  ·
    have p3 := of_decide_eq_true c2
    refine k_seq ?_
    refine k_reg ?_
    refine s_lt (t_pure (.string ⟨#[110, 105, 108]⟩)) ?_
    refine s_nil ?_
    refine xs_then ?_
    refine k_ret ?_
    refine xs_retBlock ?_
    refine xs_ret ?_
    refine xs_fin [.string ⟨#[110, 105, 108]⟩] [] (SI.tmp 2 SI.nil) (fun _ h => h.re [] [0]) ⟨?_, rfl⟩
    refine congrArg Value.string ?_; first | (simp [textT, p3]; done) | (by_cases e0 : v.kind = 0 <;> simp_all [textT, typeT]; done)
  ·
    have p4 := of_decide_eq_false c2
    refine k_seq ?_
    refine k_reg ?_
    refine s_lt t_cmp ?_
    refine s_lt (t_pure (.bool (decide (v.kind = 1)))) ?_
    refine s_nil ?_
    refine xs_then ?_
    refine k_cond (decide (v.kind = 1)) (fun c5 => ?_) (fun c5 => ?_)
    ·
      have p6 := of_decide_eq_true c5
      refine k_seq ?_
      refine k_seq ?_
      refine k_reg ?_
      refine s_lt (t_pure (.pointer (some ⟨g1, 4, none⟩))) ?_
      refine s_lt (t_load 0 (.int .i64 v.ref)) ?_
      refine s_lt t_cmp ?_
      refine s_nil ?_
      refine xs_then ?_
      refine k_cond (decide (v.ref = 0)) (fun c7 => ?_) (fun c7 => ?_)
      ·
        have p8 := of_decide_eq_true c7
        refine k_seq ?_
        refine k_reg ?_
        refine s_lt (t_pure (.string ⟨#[102, 97, 108, 115, 101]⟩)) ?_
        refine s_nil ?_
        refine xs_then ?_
        refine k_ret ?_
        refine xs_ret ?_
        refine xs_retBlock ?_
        refine xs_ret ?_
        refine xs_fin [.string ⟨#[102, 97, 108, 115, 101]⟩] [] (SI.tmp 2 SI.nil) (fun _ h => h.re [] [0]) ⟨?_, rfl⟩
        refine congrArg Value.string ?_; first | (simp [textT, p4, p6, p8]; done) | (by_cases e0 : v.kind = 0 <;> simp_all [textT, typeT]; done)
      ·
        have p9 := of_decide_eq_false c7
        refine k_skip ?_
        refine xs_then ?_
        refine k_seq ?_
        refine k_reg ?_
        refine s_lt (t_pure (.string ⟨#[116, 114, 117, 101]⟩)) ?_
        refine s_nil ?_
        refine xs_then ?_
        refine k_ret ?_
        refine xs_retBlock ?_
        refine xs_ret ?_
        refine xs_fin [.string ⟨#[116, 114, 117, 101]⟩] [] (SI.tmp 2 SI.nil) (fun _ h => h.re [] [0]) ⟨?_, rfl⟩
        refine congrArg Value.string ?_; first | (simp [textT, p4, p6, p9]; done) | (by_cases e0 : v.kind = 0 <;> simp_all [textT, typeT]; done)
    ·
      have p10 := of_decide_eq_false c5
      refine k_seq ?_
      refine k_reg ?_
      refine s_lt t_cmp ?_
      refine s_lt (t_pure (.bool (decide (v.kind = 2)))) ?_
      refine s_nil ?_
      refine xs_then ?_
      refine k_cond (decide (v.kind = 2)) (fun c11 => ?_) (fun c11 => ?_)
      ·
        have p12 := of_decide_eq_true c11
        refine k_seq ?_
        refine k_reg ?_
        refine s_lt (t_pure (.pointer (some ⟨g1, 1, none⟩))) ?_
        refine s_lt (t_loadA 0 #[.int .i64 v.p, .int .i64 v.q]) ?_
        refine s_vcall (fun _ h => ntext_s (ht.at h) v.p v.q) ?_
        rintro _ rfl
        refine s_lt (t_pure (.string (numT v.p v.q))) ?_
        refine s_nil ?_
        refine xs_then ?_
        refine k_ret ?_
        refine xs_retBlock ?_
        refine xs_ret ?_
        refine xs_fin [.string (numT v.p v.q)] [] (SI.tmp 2 SI.nil) (fun _ h => h.re [] [0]) ⟨?_, rfl⟩
        refine congrArg Value.string ?_; first | (simp [textT, p4, p10, p12]; done) | (by_cases e0 : v.kind = 0 <;> simp_all [textT, typeT]; done)
      ·
        have p13 := of_decide_eq_false c11
        refine k_seq ?_
        refine k_reg ?_
        refine s_lt t_cmp ?_
        refine s_lt (t_pure (.bool (decide (v.kind = 3)))) ?_
        refine s_nil ?_
        refine xs_then ?_
        refine k_cond (decide (v.kind = 3)) (fun c14 => ?_) (fun c14 => ?_)
        ·
          have p15 := of_decide_eq_true c14
          refine k_seq ?_
          refine k_reg ?_
          refine s_lt (t_pure (.pointer (some ⟨g1, 3, none⟩))) ?_
          refine s_lt (t_load 0 (.string v.str)) ?_
          refine s_lt (t_pure (.string v.str)) ?_
          refine s_nil ?_
          refine xs_then ?_
          refine k_ret ?_
          refine xs_retBlock ?_
          refine xs_ret ?_
          refine xs_fin [.string v.str] [] (SI.tmp 2 SI.nil) (fun _ h => h.re [] [0]) ⟨?_, rfl⟩
          refine congrArg Value.string ?_; first | (simp [textT, p4, p10, p13, p15]; done) | (by_cases e0 : v.kind = 0 <;> simp_all [textT, typeT]; done)
        ·
          have p16 := of_decide_eq_false c14
          refine k_seq ?_
          refine k_reg ?_
          refine s_lt t_cmp ?_
          refine s_lt (t_pure (.bool (decide (v.kind = 6)))) ?_
          refine s_nil ?_
          refine xs_then ?_
          refine k_cond (decide (v.kind = 6)) (fun c17 => ?_) (fun c17 => ?_)
          ·
            have p18 := of_decide_eq_true c17
            refine k_seq ?_
            refine k_reg ?_
            refine s_lt (t_pure (.pointer (some ⟨g1, 3, none⟩))) ?_
            refine s_lt (t_load 0 (.string v.str)) ?_
            refine s_lt (t_cat ⟨#[98, 117, 105, 108, 116, 105, 110, 58, 32]⟩ v.str (by simp only [ByteArray.size_append, sz_mk, List.length_cons, List.length_nil]; omega)) ?_
            refine s_lt (t_pure (.string (⟨#[98, 117, 105, 108, 116, 105, 110, 58, 32]⟩ ++ v.str))) ?_
            refine s_nil ?_
            refine xs_then ?_
            refine k_ret ?_
            refine xs_retBlock ?_
            refine xs_ret ?_
            refine xs_fin [.string (⟨#[98, 117, 105, 108, 116, 105, 110, 58, 32]⟩ ++ v.str)] [] (SI.tmp 2 SI.nil) (fun _ h => h.re [] [0]) ⟨?_, rfl⟩
            refine congrArg Value.string ?_; first | (simp [textT, p4, p10, p13, p16, p18]; done) | (by_cases e0 : v.kind = 0 <;> simp_all [textT, typeT]; done)
          ·
            have p19 := of_decide_eq_false c17
            refine k_seq ?_
            refine k_seq ?_
            refine k_reg ?_
            refine s_lt t_cmp ?_
            refine s_lt (t_pure (.bool (decide (v.kind = 4)))) ?_
            refine s_nil ?_
            refine xs_then ?_
            refine k_cond (decide (v.kind = 4)) (fun c20 => ?_) (fun c20 => ?_)
            ·
              have p21 := of_decide_eq_true c20
              refine k_skip ?_
              refine xs_then ?_
              refine k_true (hv := congrArg Value.bool c20) ?_
              refine k_seq ?_
              refine k_held [blkA g1 #[.int .i64 v.kind, .int .i64 v.p, .int .i64 v.q, .string v.str, .int .i64 v.ref] 39] ?_
              refine h_lt 0 rfl (np_then (np_block (np_then np_finS))) [0] (fun _ => (t_loadA 0 #[.int .i64 v.kind, .int .i64 v.p, .int .i64 v.q, .string v.str, .int .i64 v.ref])) ?_
              refine h_lt 3 rfl (np_then (np_block (np_then np_finS))) [0] (fun _ => (t_pure (.pointer (some ⟨g1, 4, none⟩)))) ?_
              refine h_lt 4 rfl (np_then (np_block (np_then np_finS))) [0] (fun _ => (t_load 0 (.int .i64 v.ref))) ?_
              refine h_stepS 1 ?_
              refine s_vcall (fun _ h => type_s v) ?_
              rintro _ rfl
              refine s_nil (xs_held [0] ?_)
              refine h_lt 2 rfl (np_then (np_block (np_then np_finS))) [0] (fun _ => (t_cat (typeT v.kind) ⟨#[58, 32]⟩ (by simp only [ByteArray.size_append, sz_mk, List.length_cons, List.length_nil]; omega))) ?_
              refine h_stepS 5 ?_
              have z22 := itoaB_size (n := v.ref) (by omega) (by omega)
              refine s_vcall (fun _ h => itoa_s (ht.at h) v.ref (by omega) (by omega)) ?_
              rintro _ rfl
              refine s_nil (xs_held [0] ?_)
              refine h_lt 6 rfl (np_then (np_block (np_then np_finS))) [0] (fun _ => (t_cat ((typeT v.kind) ++ ⟨#[58, 32]⟩) (itoaB v.ref) (by simp only [ByteArray.size_append, sz_mk, List.length_cons, List.length_nil]; omega))) ?_
              refine h_lt 7 rfl (np_then (np_block (np_then np_finS))) [0] (fun _ => (t_pure (.string (((typeT v.kind) ++ ⟨#[58, 32]⟩) ++ (itoaB v.ref))))) ?_
              refine h_doneS ?_
              refine xs_then ?_
              refine k_ret ?_
              refine xs_retBlock ?_
              refine xs_ret ?_
              refine xs_fin [.string (((typeT v.kind) ++ ⟨#[58, 32]⟩) ++ (itoaB v.ref))] [] (SI.tmp 2 SI.nil) (fun _ h => h.re [] [0]) ⟨?_, rfl⟩
              refine congrArg Value.string ?_; first | (simp [textT, p4, p10, p13, p16, p19, p21]; done) | (by_cases e0 : v.kind = 0 <;> simp_all [textT, typeT]; done)
            ·
              have p23 := of_decide_eq_false c20
              refine k_seq ?_
              refine k_reg ?_
              refine s_lt t_cmp ?_
              refine s_lt (t_pure (.bool (decide (v.kind = 5)))) ?_
              refine s_nil ?_
              refine xs_then ?_
              refine k_cond (decide (v.kind = 5)) (fun c24 => ?_) (fun c24 => ?_)
              ·
                have p25 := of_decide_eq_true c24
                refine k_skip ?_
                refine xs_then ?_
                refine k_true (hv := congrArg Value.bool c24) ?_
                refine k_seq ?_
                refine k_held [blkA g1 #[.int .i64 v.kind, .int .i64 v.p, .int .i64 v.q, .string v.str, .int .i64 v.ref] 39] ?_
                refine h_lt 0 rfl (np_then (np_block (np_then np_finS))) [0] (fun _ => (t_loadA 0 #[.int .i64 v.kind, .int .i64 v.p, .int .i64 v.q, .string v.str, .int .i64 v.ref])) ?_
                refine h_lt 3 rfl (np_then (np_block (np_then np_finS))) [0] (fun _ => (t_pure (.pointer (some ⟨g1, 4, none⟩)))) ?_
                refine h_lt 4 rfl (np_then (np_block (np_then np_finS))) [0] (fun _ => (t_load 0 (.int .i64 v.ref))) ?_
                refine h_stepS 1 ?_
                refine s_vcall (fun _ h => type_s v) ?_
                rintro _ rfl
                refine s_nil (xs_held [0] ?_)
                refine h_lt 2 rfl (np_then (np_block (np_then np_finS))) [0] (fun _ => (t_cat (typeT v.kind) ⟨#[58, 32]⟩ (by simp only [ByteArray.size_append, sz_mk, List.length_cons, List.length_nil]; omega))) ?_
                refine h_stepS 5 ?_
                have z26 := itoaB_size (n := v.ref) (by omega) (by omega)
                refine s_vcall (fun _ h => itoa_s (ht.at h) v.ref (by omega) (by omega)) ?_
                rintro _ rfl
                refine s_nil (xs_held [0] ?_)
                refine h_lt 6 rfl (np_then (np_block (np_then np_finS))) [0] (fun _ => (t_cat ((typeT v.kind) ++ ⟨#[58, 32]⟩) (itoaB v.ref) (by simp only [ByteArray.size_append, sz_mk, List.length_cons, List.length_nil]; omega))) ?_
                refine h_lt 7 rfl (np_then (np_block (np_then np_finS))) [0] (fun _ => (t_pure (.string (((typeT v.kind) ++ ⟨#[58, 32]⟩) ++ (itoaB v.ref))))) ?_
                refine h_doneS ?_
                refine xs_then ?_
                refine k_ret ?_
                refine xs_retBlock ?_
                refine xs_ret ?_
                refine xs_fin [.string (((typeT v.kind) ++ ⟨#[58, 32]⟩) ++ (itoaB v.ref))] [] (SI.tmp 2 SI.nil) (fun _ h => h.re [] [0]) ⟨?_, rfl⟩
                refine congrArg Value.string ?_; first | (simp [textT, p4, p10, p13, p16, p19, p23, p25]; done) | (by_cases e0 : v.kind = 0 <;> simp_all [textT, typeT]; done)
              ·
                have p27 := of_decide_eq_false c24
                refine k_seq ?_
                refine k_reg ?_
                refine s_lt t_cmp ?_
                refine s_lt (t_pure (.bool (decide (v.kind = 7)))) ?_
                refine s_nil ?_
                refine xs_then ?_
                refine k_cond (decide (v.kind = 7)) (fun c28 => ?_) (fun c28 => ?_)
                ·
                  have p29 := of_decide_eq_true c28
                  refine k_skip ?_
                  refine xs_then ?_
                  refine k_true (hv := congrArg Value.bool c28) ?_
                  refine k_seq ?_
                  refine k_held [blkA g1 #[.int .i64 v.kind, .int .i64 v.p, .int .i64 v.q, .string v.str, .int .i64 v.ref] 39] ?_
                  refine h_lt 0 rfl (np_then (np_block (np_then np_finS))) [0] (fun _ => (t_loadA 0 #[.int .i64 v.kind, .int .i64 v.p, .int .i64 v.q, .string v.str, .int .i64 v.ref])) ?_
                  refine h_lt 3 rfl (np_then (np_block (np_then np_finS))) [0] (fun _ => (t_pure (.pointer (some ⟨g1, 4, none⟩)))) ?_
                  refine h_lt 4 rfl (np_then (np_block (np_then np_finS))) [0] (fun _ => (t_load 0 (.int .i64 v.ref))) ?_
                  refine h_stepS 1 ?_
                  refine s_vcall (fun _ h => type_s v) ?_
                  rintro _ rfl
                  refine s_nil (xs_held [0] ?_)
                  refine h_lt 2 rfl (np_then (np_block (np_then np_finS))) [0] (fun _ => (t_cat (typeT v.kind) ⟨#[58, 32]⟩ (by simp only [ByteArray.size_append, sz_mk, List.length_cons, List.length_nil]; omega))) ?_
                  refine h_stepS 5 ?_
                  have z30 := itoaB_size (n := v.ref) (by omega) (by omega)
                  refine s_vcall (fun _ h => itoa_s (ht.at h) v.ref (by omega) (by omega)) ?_
                  rintro _ rfl
                  refine s_nil (xs_held [0] ?_)
                  refine h_lt 6 rfl (np_then (np_block (np_then np_finS))) [0] (fun _ => (t_cat ((typeT v.kind) ++ ⟨#[58, 32]⟩) (itoaB v.ref) (by simp only [ByteArray.size_append, sz_mk, List.length_cons, List.length_nil]; omega))) ?_
                  refine h_lt 7 rfl (np_then (np_block (np_then np_finS))) [0] (fun _ => (t_pure (.string (((typeT v.kind) ++ ⟨#[58, 32]⟩) ++ (itoaB v.ref))))) ?_
                  refine h_doneS ?_
                  refine xs_then ?_
                  refine k_ret ?_
                  refine xs_retBlock ?_
                  refine xs_ret ?_
                  refine xs_fin [.string (((typeT v.kind) ++ ⟨#[58, 32]⟩) ++ (itoaB v.ref))] [] (SI.tmp 2 SI.nil) (fun _ h => h.re [] [0]) ⟨?_, rfl⟩
                  refine congrArg Value.string ?_; first | (simp [textT, p4, p10, p13, p16, p19, p23, p27, p29]; done) | (by_cases e0 : v.kind = 0 <;> simp_all [textT, typeT]; done)
                ·
                  have p31 := of_decide_eq_false c28
                  refine k_reg ?_
                  refine s_lt t_cmp ?_
                  refine s_lt (t_pure (.bool (decide (v.kind = 8)))) ?_
                  refine s_nil ?_
                  refine xs_then ?_
                  refine k_cond (decide (v.kind = 8)) (fun c32 => ?_) (fun c32 => ?_)
                  ·
                    have p33 := of_decide_eq_true c32
                    refine k_seq ?_
                    refine k_held [blkA g1 #[.int .i64 v.kind, .int .i64 v.p, .int .i64 v.q, .string v.str, .int .i64 v.ref] 39] ?_
                    refine h_lt 0 rfl (np_then (np_block (np_then np_finS))) [0] (fun _ => (t_loadA 0 #[.int .i64 v.kind, .int .i64 v.p, .int .i64 v.q, .string v.str, .int .i64 v.ref])) ?_
                    refine h_lt 3 rfl (np_then (np_block (np_then np_finS))) [0] (fun _ => (t_pure (.pointer (some ⟨g1, 4, none⟩)))) ?_
                    refine h_lt 4 rfl (np_then (np_block (np_then np_finS))) [0] (fun _ => (t_load 0 (.int .i64 v.ref))) ?_
                    refine h_stepS 1 ?_
                    refine s_vcall (fun _ h => type_s v) ?_
                    rintro _ rfl
                    refine s_nil (xs_held [0] ?_)
                    refine h_lt 2 rfl (np_then (np_block (np_then np_finS))) [0] (fun _ => (t_cat (typeT v.kind) ⟨#[58, 32]⟩ (by simp only [ByteArray.size_append, sz_mk, List.length_cons, List.length_nil]; omega))) ?_
                    refine h_stepS 5 ?_
                    have z34 := itoaB_size (n := v.ref) (by omega) (by omega)
                    refine s_vcall (fun _ h => itoa_s (ht.at h) v.ref (by omega) (by omega)) ?_
                    rintro _ rfl
                    refine s_nil (xs_held [0] ?_)
                    refine h_lt 6 rfl (np_then (np_block (np_then np_finS))) [0] (fun _ => (t_cat ((typeT v.kind) ++ ⟨#[58, 32]⟩) (itoaB v.ref) (by simp only [ByteArray.size_append, sz_mk, List.length_cons, List.length_nil]; omega))) ?_
                    refine h_lt 7 rfl (np_then (np_block (np_then np_finS))) [0] (fun _ => (t_pure (.string (((typeT v.kind) ++ ⟨#[58, 32]⟩) ++ (itoaB v.ref))))) ?_
                    refine h_doneS ?_
                    refine xs_then ?_
                    refine k_ret ?_
                    refine xs_retBlock ?_
                    refine xs_ret ?_
                    refine xs_fin [.string (((typeT v.kind) ++ ⟨#[58, 32]⟩) ++ (itoaB v.ref))] [] (SI.tmp 2 SI.nil) (fun _ h => h.re [] [0]) ⟨?_, rfl⟩
                    refine congrArg Value.string ?_; first | (simp [textT, p4, p10, p13, p16, p19, p23, p27, p31, p33]; done) | (by_cases e0 : v.kind = 0 <;> simp_all [textT, typeT]; done)
                  ·
                    have p35 := of_decide_eq_false c32
                    refine k_skip ?_
                    refine xs_block ?_
                    refine xs_then ?_
                    refine k_seq ?_
                    refine k_reg ?_
                    refine s_lt (t_pure (.string ByteArray.empty)) ?_
                    refine s_nil ?_
                    refine xs_then ?_
                    refine k_ret ?_
                    refine xs_fin [.string ByteArray.empty] [] (SI.tmp 2 SI.nil) (fun _ h => h.re [] [0]) ⟨?_, rfl⟩
                    refine congrArg Value.string ?_; first | (simp [textT, p4, p10, p13, p16, p19, p23, p27, p31, p35]; done) | (by_cases e0 : v.kind = 0 <;> simp_all [textT, typeT]; done)
end Go.Proofs.YtdakfjdbdopmbaaDoor
