/-
  The messages of codes.
-/
import Derived.Test.YtiddapedgkifoaaDoorW7
set_option linter.unusedSimpArgs false
set_option linter.unusedVariables false
set_option maxRecDepth 100000
namespace Go.Proofs.YtiddapedgkifoaaDoor
open Go.Hp Go.J Go.S
open Go.Mem (Ty KTy blk elemAt pre suf blk_pre blk_suf aget aset strK aggDesc)
open Go.Mem
def firstT (e k : Int) : ByteArray := if e = 0 then ByteArray.empty else if e = 1 then ⟨#[110, 105, 108, 32, 111, 98, 106, 101, 99, 116]⟩ else if e = 2 then ⟨#[98, 97, 100, 32, 97, 114, 103, 117, 109, 101, 110, 116]⟩ else if e = 3 then ⟨#[116, 111, 111, 32, 109, 97, 110, 121, 32, 118, 97, 108, 117, 101, 115]⟩ else if e = 4 then ⟨#[109, 97, 108, 102, 111, 114, 109, 101, 100, 32, 116, 101, 120, 116]⟩ else if e = 5 then ⟨#[117, 110, 101, 120, 112, 101, 99, 116, 101, 100, 32, 101, 110, 100]⟩ else if e = 6 then ⟨#[110, 117, 109, 98, 101, 114, 32, 111, 117, 116, 32, 111, 102, 32, 114, 97, 110, 103, 101]⟩ else if e = 7 then ⟨#[100, 105, 118, 105, 115, 105, 111, 110, 32, 98, 121, 32, 122, 101, 114, 111]⟩ else if e = 8 then (⟨#[97, 116, 116, 101, 109, 112, 116, 32, 116, 111, 32, 99, 97, 108, 108, 32, 97, 32]⟩ ++ typeT k ++ ⟨#[32, 118, 97, 108, 117, 101]⟩) else if e = 9 then ⟨#[117, 110, 107, 110, 111, 119, 110, 32, 110, 97, 109, 101]⟩ else if e = 10 then ⟨#[100, 101, 99, 108, 97, 114, 101, 100, 32, 116, 119, 105, 99, 101]⟩ else if e = 11 then ⟨#[97, 116, 116, 101, 109, 112, 116, 32, 116, 111, 32, 97, 115, 115, 105, 103, 110, 32, 116, 111, 32, 97, 32, 99, 111, 110, 115, 116, 97, 110, 116]⟩ else if e = 12 then ⟨#[108, 97, 98, 101, 108, 32, 105, 115, 32, 110, 111, 116, 32, 118, 105, 115, 105, 98, 108, 101]⟩ else if e = 13 then ⟨#[105, 110, 100, 101, 120, 32, 105, 115, 32, 110, 105, 108]⟩ else ⟨#[117, 110, 107, 110, 111, 119, 110, 32, 101, 114, 114, 111, 114]⟩
def rfirstT (e k : Int) : ByteArray := if e = 1 then ⟨#[110, 105, 108, 32, 111, 98, 106, 101, 99, 116]⟩ else if e = 2 then ⟨#[98, 97, 100, 32, 97, 114, 103, 117, 109, 101, 110, 116]⟩ else if e = 3 then ⟨#[116, 111, 111, 32, 109, 97, 110, 121, 32, 118, 97, 108, 117, 101, 115]⟩ else if e = 4 then ⟨#[109, 97, 108, 102, 111, 114, 109, 101, 100, 32, 116, 101, 120, 116]⟩ else if e = 5 then ⟨#[117, 110, 101, 120, 112, 101, 99, 116, 101, 100, 32, 101, 110, 100]⟩ else if e = 6 then ⟨#[110, 117, 109, 98, 101, 114, 32, 111, 117, 116, 32, 111, 102, 32, 114, 97, 110, 103, 101]⟩ else if e = 7 then ⟨#[100, 105, 118, 105, 115, 105, 111, 110, 32, 98, 121, 32, 122, 101, 114, 111]⟩ else if e = 8 then (⟨#[97, 116, 116, 101, 109, 112, 116, 32, 116, 111, 32, 99, 97, 108, 108, 32, 97, 32]⟩ ++ typeT k ++ ⟨#[32, 118, 97, 108, 117, 101]⟩) else if e = 9 then ⟨#[117, 110, 107, 110, 111, 119, 110, 32, 110, 97, 109, 101]⟩ else if e = 10 then ⟨#[100, 101, 99, 108, 97, 114, 101, 100, 32, 116, 119, 105, 99, 101]⟩ else if e = 11 then ⟨#[97, 116, 116, 101, 109, 112, 116, 32, 116, 111, 32, 97, 115, 115, 105, 103, 110, 32, 116, 111, 32, 97, 32, 99, 111, 110, 115, 116, 97, 110, 116]⟩ else if e = 12 then ⟨#[108, 97, 98, 101, 108, 32, 105, 115, 32, 110, 111, 116, 32, 118, 105, 115, 105, 98, 108, 101]⟩ else if e = 13 then ⟨#[105, 110, 100, 101, 120, 32, 105, 115, 32, 110, 105, 108]⟩ else if e = 14 then ⟨#[115, 116, 114, 105, 110, 103, 32, 116, 111, 111, 32, 108, 111, 110, 103]⟩ else ⟨#[117, 110, 107, 110, 111, 119, 110, 32, 101, 114, 114, 111, 114]⟩
def descT (e k : Int) : ByteArray := if e = 14 then ⟨#[115, 116, 114, 105, 110, 103, 32, 116, 111, 111, 32, 108, 111, 110, 103]⟩ else if e = 15 then ⟨#[99, 104, 97, 105, 110, 32, 111, 102, 32, 109, 101, 116, 97, 116, 97, 98, 108, 101, 115, 32, 116, 111, 111, 32, 108, 111, 110, 103]⟩ else if e = 16 then ⟨#[99, 97, 110, 110, 111, 116, 32, 114, 101, 115, 117, 109, 101, 32, 110, 111, 110, 45, 115, 117, 115, 112, 101, 110, 100, 101, 100, 32, 99, 111, 114, 111, 117, 116, 105, 110, 101]⟩ else if e = 17 then ⟨#[115, 116, 97, 99, 107, 32, 111, 118, 101, 114, 102, 108, 111, 119]⟩ else if e = 18 then ⟨#[110, 111, 116, 104, 105, 110, 103, 32, 105, 115, 32, 116, 104, 101, 114, 101]⟩ else if e = 19 then ⟨#[99, 97, 110, 110, 111, 116, 32, 114, 101, 115, 117, 109, 101, 32, 100, 101, 97, 100, 32, 99, 111, 114, 111, 117, 116, 105, 110, 101]⟩ else if e = 20 then ⟨#[119, 114, 111, 110, 103, 32, 99, 104, 101, 99, 107, 115, 117, 109]⟩ else if e = 21 then ⟨#[98, 121, 116, 101, 99, 111, 100, 101, 32, 105, 115, 32, 110, 111, 116, 32, 115, 97, 102, 101]⟩ else if e = 22 then ⟨#[116, 104, 105, 110, 103, 115, 32, 100, 111, 32, 110, 111, 116, 32, 109, 97, 116, 99, 104]⟩ else if e = 23 then ⟨#[110, 111, 116, 32, 101, 110, 111, 117, 103, 104, 32, 109, 101, 109, 111, 114, 121]⟩ else if e = 24 then ⟨#[116, 111, 111, 32, 109, 97, 110, 121, 32, 115, 116, 101, 112, 115]⟩ else if e = 25 then ⟨#[97, 116, 116, 101, 109, 112, 116, 32, 116, 111, 32, 121, 105, 101, 108, 100, 32, 102, 114, 111, 109, 32, 111, 117, 116, 115, 105, 100, 101, 32, 97, 32, 99, 111, 114, 111, 117, 116, 105, 110, 101]⟩ else if e = 26 then ⟨#[101, 114, 114, 111, 114, 32, 105, 110, 32, 97, 32, 115, 99, 114, 105, 112, 116]⟩ else firstT e k
def rdescT (e k : Int) : ByteArray := if e = 0 then ByteArray.empty else if e = 15 then ⟨#[99, 104, 97, 105, 110, 32, 111, 102, 32, 109, 101, 116, 97, 116, 97, 98, 108, 101, 115, 32, 116, 111, 111, 32, 108, 111, 110, 103]⟩ else if e = 16 then ⟨#[99, 97, 110, 110, 111, 116, 32, 114, 101, 115, 117, 109, 101, 32, 110, 111, 110, 45, 115, 117, 115, 112, 101, 110, 100, 101, 100, 32, 99, 111, 114, 111, 117, 116, 105, 110, 101]⟩ else if e = 17 then ⟨#[115, 116, 97, 99, 107, 32, 111, 118, 101, 114, 102, 108, 111, 119]⟩ else if e = 18 then ⟨#[110, 111, 116, 104, 105, 110, 103, 32, 105, 115, 32, 116, 104, 101, 114, 101]⟩ else if e = 19 then ⟨#[99, 97, 110, 110, 111, 116, 32, 114, 101, 115, 117, 109, 101, 32, 100, 101, 97, 100, 32, 99, 111, 114, 111, 117, 116, 105, 110, 101]⟩ else if e = 20 then ⟨#[119, 114, 111, 110, 103, 32, 99, 104, 101, 99, 107, 115, 117, 109]⟩ else if e = 21 then ⟨#[98, 121, 116, 101, 99, 111, 100, 101, 32, 105, 115, 32, 110, 111, 116, 32, 115, 97, 102, 101]⟩ else if e = 22 then ⟨#[116, 104, 105, 110, 103, 115, 32, 100, 111, 32, 110, 111, 116, 32, 109, 97, 116, 99, 104]⟩ else if e = 23 then ⟨#[110, 111, 116, 32, 101, 110, 111, 117, 103, 104, 32, 109, 101, 109, 111, 114, 121]⟩ else if e = 24 then ⟨#[116, 111, 111, 32, 109, 97, 110, 121, 32, 115, 116, 101, 112, 115]⟩ else if e = 25 then ⟨#[97, 116, 116, 101, 109, 112, 116, 32, 116, 111, 32, 121, 105, 101, 108, 100, 32, 102, 114, 111, 109, 32, 111, 117, 116, 115, 105, 100, 101, 32, 97, 32, 99, 111, 114, 111, 117, 116, 105, 110, 101]⟩ else if e = 26 then ⟨#[101, 114, 114, 111, 114, 32, 105, 110, 32, 97, 32, 115, 99, 114, 105, 112, 116]⟩ else rfirstT e k
theorem desc_eq (e k : Int) : descT e k = rdescT e k := by
  by_cases h : 0 ≤ e ∧ e ≤ 26
  · have : e = 0 ∨ e = 1 ∨ e = 2 ∨ e = 3 ∨ e = 4 ∨ e = 5 ∨ e = 6 ∨ e = 7 ∨ e = 8 ∨ e = 9 ∨ e = 10 ∨ e = 11 ∨ e = 12 ∨ e = 13 ∨ e = 14 ∨ e = 15 ∨ e = 16 ∨ e = 17 ∨ e = 18 ∨ e = 19 ∨ e = 20 ∨ e = 21 ∨ e = 22 ∨ e = 23 ∨ e = 24 ∨ e = 25 ∨ e = 26 := by omega
    rcases this with rfl | rfl | rfl | rfl | rfl | rfl | rfl | rfl | rfl | rfl | rfl | rfl | rfl | rfl | rfl | rfl | rfl | rfl | rfl | rfl | rfl | rfl | rfl | rfl | rfl | rfl | rfl <;> rfl
  · unfold descT rdescT firstT rfirstT
    rw [if_neg (by omega), if_neg (by omega), if_neg (by omega), if_neg (by omega), if_neg (by omega), if_neg (by omega), if_neg (by omega), if_neg (by omega), if_neg (by omega), if_neg (by omega), if_neg (by omega), if_neg (by omega), if_neg (by omega), if_neg (by omega), if_neg (by omega), if_neg (by omega), if_neg (by omega), if_neg (by omega), if_neg (by omega), if_neg (by omega), if_neg (by omega), if_neg (by omega), if_neg (by omega), if_neg (by omega), if_neg (by omega), if_neg (by omega), if_neg (by omega), if_neg (by omega), if_neg (by omega), if_neg (by omega), if_neg (by omega), if_neg (by omega), if_neg (by omega), if_neg (by omega), if_neg (by omega), if_neg (by omega), if_neg (by omega), if_neg (by omega), if_neg (by omega), if_neg (by omega), if_neg (by omega), if_neg (by omega), if_neg (by omega), if_neg (by omega), if_neg (by omega), if_neg (by omega), if_neg (by omega), if_neg (by omega), if_neg (by omega), if_neg (by omega), if_neg (by omega), if_neg (by omega), if_neg (by omega), if_neg (by omega)]
theorem join3 (a b c : ByteArray) : joinT [a, b, c] = a ++ b ++ c := by simp [joinT]
theorem szs3 (a b c : ByteArray) : szs [a, b, c] = a.size + b.size + c.size := by simp [szs]; omega
theorem first_s {Z : Zone} (e : Int) (v : Vl) : SF Tryd.prog 38 #[.int .i64 e, v.v] Z [] fun r Bs => r = .string (firstT e v.kind) ∧ Bs = [] := by
  have hts := typeT_size v.kind
  refine sf_enter Tryd.func38 38 [(0, .int .i64 e), (1, .agg #[.int .i64 v.kind, .int .i64 v.p, .int .i64 v.q, .string v.str, .int .i64 v.ref])] (fun w0 => ?_)
  refine k_seq ?_
  refine k_reg ?_
  refine s_box #[.int .i64 v.kind, .int .i64 v.p, .int .i64 v.q, .string v.str, .int .i64 v.ref] (fun g1 => ?_)
  refine s_lt (t_pure (.string ByteArray.empty)) ?_
  refine s_nil ?_
  refine xs_then ?_
  refine k_seq ?_
  refine k_seq ?_
  refine k_reg ?_
  refine s_lt (t_pure (.int .i64 e)) ?_
  refine s_nil ?_
  refine xs_then ?_
  refine k_block ?_
  refine k_seq ?_
  refine k_reg ?_
  refine s_lt t_cmp ?_
  refine s_lt (t_pure (.bool (decide (e = 0)))) ?_
  refine s_nil ?_
  refine xs_then ?_
  refine k_cond (decide (e = 0)) (fun c2 => ?_) (fun c2 => ?_)
  ·
    have p3 := of_decide_eq_true c2
    refine k_seq ?_
    refine k_reg ?_
    refine s_lt (t_pure (.string ByteArray.empty)) ?_
    refine s_nil ?_
    refine xs_then ?_
    refine k_ret ?_
    refine xs_retBlock ?_
    refine xs_ret ?_
    refine xs_fin [.string ByteArray.empty] [] (SI.tmp 4 SI.nil) (fun _ h => h.re [] [0]) ⟨?_, rfl⟩
    refine congrArg Value.string ?_; simp [firstT, join3, p3]
  ·
    have p4 := of_decide_eq_false c2
    refine k_seq ?_
    refine k_reg ?_
    refine s_lt t_cmp ?_
    refine s_lt (t_pure (.bool (decide (e = 1)))) ?_
    refine s_nil ?_
    refine xs_then ?_
    refine k_cond (decide (e = 1)) (fun c5 => ?_) (fun c5 => ?_)
    ·
      have p6 := of_decide_eq_true c5
      refine k_seq ?_
      refine k_reg ?_
      refine s_lt (t_pure (.string ⟨#[110, 105, 108, 32, 111, 98, 106, 101, 99, 116]⟩)) ?_
      refine s_nil ?_
      refine xs_then ?_
      refine k_ret ?_
      refine xs_retBlock ?_
      refine xs_ret ?_
      refine xs_fin [.string ⟨#[110, 105, 108, 32, 111, 98, 106, 101, 99, 116]⟩] [] (SI.tmp 4 SI.nil) (fun _ h => h.re [] [0]) ⟨?_, rfl⟩
      refine congrArg Value.string ?_; simp [firstT, join3, p4, p6]
    ·
      have p7 := of_decide_eq_false c5
      refine k_seq ?_
      refine k_reg ?_
      refine s_lt t_cmp ?_
      refine s_lt (t_pure (.bool (decide (e = 2)))) ?_
      refine s_nil ?_
      refine xs_then ?_
      refine k_cond (decide (e = 2)) (fun c8 => ?_) (fun c8 => ?_)
      ·
        have p9 := of_decide_eq_true c8
        refine k_seq ?_
        refine k_reg ?_
        refine s_lt (t_pure (.string ⟨#[98, 97, 100, 32, 97, 114, 103, 117, 109, 101, 110, 116]⟩)) ?_
        refine s_nil ?_
        refine xs_then ?_
        refine k_ret ?_
        refine xs_retBlock ?_
        refine xs_ret ?_
        refine xs_fin [.string ⟨#[98, 97, 100, 32, 97, 114, 103, 117, 109, 101, 110, 116]⟩] [] (SI.tmp 4 SI.nil) (fun _ h => h.re [] [0]) ⟨?_, rfl⟩
        refine congrArg Value.string ?_; simp [firstT, join3, p4, p7, p9]
      ·
        have p10 := of_decide_eq_false c8
        refine k_seq ?_
        refine k_reg ?_
        refine s_lt t_cmp ?_
        refine s_lt (t_pure (.bool (decide (e = 3)))) ?_
        refine s_nil ?_
        refine xs_then ?_
        refine k_cond (decide (e = 3)) (fun c11 => ?_) (fun c11 => ?_)
        ·
          have p12 := of_decide_eq_true c11
          refine k_seq ?_
          refine k_reg ?_
          refine s_lt (t_pure (.string ⟨#[116, 111, 111, 32, 109, 97, 110, 121, 32, 118, 97, 108, 117, 101, 115]⟩)) ?_
          refine s_nil ?_
          refine xs_then ?_
          refine k_ret ?_
          refine xs_retBlock ?_
          refine xs_ret ?_
          refine xs_fin [.string ⟨#[116, 111, 111, 32, 109, 97, 110, 121, 32, 118, 97, 108, 117, 101, 115]⟩] [] (SI.tmp 4 SI.nil) (fun _ h => h.re [] [0]) ⟨?_, rfl⟩
          refine congrArg Value.string ?_; simp [firstT, join3, p4, p7, p10, p12]
        ·
          have p13 := of_decide_eq_false c11
          refine k_seq ?_
          refine k_reg ?_
          refine s_lt t_cmp ?_
          refine s_lt (t_pure (.bool (decide (e = 4)))) ?_
          refine s_nil ?_
          refine xs_then ?_
          refine k_cond (decide (e = 4)) (fun c14 => ?_) (fun c14 => ?_)
          ·
            have p15 := of_decide_eq_true c14
            refine k_seq ?_
            refine k_reg ?_
            refine s_lt (t_pure (.string ⟨#[109, 97, 108, 102, 111, 114, 109, 101, 100, 32, 116, 101, 120, 116]⟩)) ?_
            refine s_nil ?_
            refine xs_then ?_
            refine k_ret ?_
            refine xs_retBlock ?_
            refine xs_ret ?_
            refine xs_fin [.string ⟨#[109, 97, 108, 102, 111, 114, 109, 101, 100, 32, 116, 101, 120, 116]⟩] [] (SI.tmp 4 SI.nil) (fun _ h => h.re [] [0]) ⟨?_, rfl⟩
            refine congrArg Value.string ?_; simp [firstT, join3, p4, p7, p10, p13, p15]
          ·
            have p16 := of_decide_eq_false c14
            refine k_seq ?_
            refine k_reg ?_
            refine s_lt t_cmp ?_
            refine s_lt (t_pure (.bool (decide (e = 5)))) ?_
            refine s_nil ?_
            refine xs_then ?_
            refine k_cond (decide (e = 5)) (fun c17 => ?_) (fun c17 => ?_)
            ·
              have p18 := of_decide_eq_true c17
              refine k_seq ?_
              refine k_reg ?_
              refine s_lt (t_pure (.string ⟨#[117, 110, 101, 120, 112, 101, 99, 116, 101, 100, 32, 101, 110, 100]⟩)) ?_
              refine s_nil ?_
              refine xs_then ?_
              refine k_ret ?_
              refine xs_retBlock ?_
              refine xs_ret ?_
              refine xs_fin [.string ⟨#[117, 110, 101, 120, 112, 101, 99, 116, 101, 100, 32, 101, 110, 100]⟩] [] (SI.tmp 4 SI.nil) (fun _ h => h.re [] [0]) ⟨?_, rfl⟩
              refine congrArg Value.string ?_; simp [firstT, join3, p4, p7, p10, p13, p16, p18]
            ·
              have p19 := of_decide_eq_false c17
              refine k_seq ?_
              refine k_reg ?_
              refine s_lt t_cmp ?_
              refine s_lt (t_pure (.bool (decide (e = 6)))) ?_
              refine s_nil ?_
              refine xs_then ?_
              refine k_cond (decide (e = 6)) (fun c20 => ?_) (fun c20 => ?_)
              ·
                have p21 := of_decide_eq_true c20
                refine k_seq ?_
                refine k_reg ?_
                refine s_lt (t_pure (.string ⟨#[110, 117, 109, 98, 101, 114, 32, 111, 117, 116, 32, 111, 102, 32, 114, 97, 110, 103, 101]⟩)) ?_
                refine s_nil ?_
                refine xs_then ?_
                refine k_ret ?_
                refine xs_retBlock ?_
                refine xs_ret ?_
                refine xs_fin [.string ⟨#[110, 117, 109, 98, 101, 114, 32, 111, 117, 116, 32, 111, 102, 32, 114, 97, 110, 103, 101]⟩] [] (SI.tmp 4 SI.nil) (fun _ h => h.re [] [0]) ⟨?_, rfl⟩
                refine congrArg Value.string ?_; simp [firstT, join3, p4, p7, p10, p13, p16, p19, p21]
              ·
                have p22 := of_decide_eq_false c20
                refine k_seq ?_
                refine k_reg ?_
                refine s_lt t_cmp ?_
                refine s_lt (t_pure (.bool (decide (e = 7)))) ?_
                refine s_nil ?_
                refine xs_then ?_
                refine k_cond (decide (e = 7)) (fun c23 => ?_) (fun c23 => ?_)
                ·
                  have p24 := of_decide_eq_true c23
                  refine k_seq ?_
                  refine k_reg ?_
                  refine s_lt (t_pure (.string ⟨#[100, 105, 118, 105, 115, 105, 111, 110, 32, 98, 121, 32, 122, 101, 114, 111]⟩)) ?_
                  refine s_nil ?_
                  refine xs_then ?_
                  refine k_ret ?_
                  refine xs_retBlock ?_
                  refine xs_ret ?_
                  refine xs_fin [.string ⟨#[100, 105, 118, 105, 115, 105, 111, 110, 32, 98, 121, 32, 122, 101, 114, 111]⟩] [] (SI.tmp 4 SI.nil) (fun _ h => h.re [] [0]) ⟨?_, rfl⟩
                  refine congrArg Value.string ?_; simp [firstT, join3, p4, p7, p10, p13, p16, p19, p22, p24]
                ·
                  have p25 := of_decide_eq_false c23
                  refine k_seq ?_
                  refine k_reg ?_
                  refine s_lt t_cmp ?_
                  refine s_lt (t_pure (.bool (decide (e = 8)))) ?_
                  refine s_nil ?_
                  refine xs_then ?_
                  refine k_cond (decide (e = 8)) (fun c26 => ?_) (fun c26 => ?_)
                  ·
                    have p27 := of_decide_eq_true c26
                    refine k_seq ?_
                    refine k_reg ?_
                    refine s_lt (t_loadA 0 #[.int .i64 v.kind, .int .i64 v.p, .int .i64 v.q, .string v.str, .int .i64 v.ref]) ?_
                    refine s_vcall (fun _ h => type_s v) ?_
                    rintro _ rfl
                    refine s_buildSlice (e := 9) [(0, .string ⟨#[97, 116, 116, 101, 109, 112, 116, 32, 116, 111, 32, 99, 97, 108, 108, 32, 97, 32]⟩), (1, .string (typeT v.kind)), (2, .string ⟨#[32, 118, 97, 108, 117, 101]⟩)] #[.string ⟨#[97, 116, 116, 101, 109, 112, 116, 32, 116, 111, 32, 99, 97, 108, 108, 32, 97, 32]⟩, .string (typeT v.kind), .string ⟨#[32, 118, 97, 108, 117, 101]⟩] (fun g28 => ?_) (hb := by kernel_rfl)
                    refine s_vcall (fun _ h => join_s (Acc.kn (.lit 0 st_ok [⟨#[97, 116, 116, 101, 109, 112, 116, 32, 116, 111, 32, 99, 97, 108, 108, 32, 97, 32]⟩, (typeT v.kind), ⟨#[32, 118, 97, 108, 117, 101]⟩]) h) (by rw [szs3]; simp only [sz_mk, List.length_cons, List.length_nil]; omega) (by (try simp only [List.length_nil, List.length_cons, List.length_append, List.length_take, List.length_drop, List.length_set, List.length_replicate, List.length_reverse]); omega)) ?_
                    rintro _ rfl
                    refine s_lt (t_pure (.string (joinT [⟨#[97, 116, 116, 101, 109, 112, 116, 32, 116, 111, 32, 99, 97, 108, 108, 32, 97, 32]⟩, (typeT v.kind), ⟨#[32, 118, 97, 108, 117, 101]⟩]))) ?_
                    refine s_nil ?_
                    refine xs_then ?_
                    refine k_ret ?_
                    refine xs_retBlock ?_
                    refine xs_ret ?_
                    refine xs_fin [.string (joinT [⟨#[97, 116, 116, 101, 109, 112, 116, 32, 116, 111, 32, 99, 97, 108, 108, 32, 97, 32]⟩, (typeT v.kind), ⟨#[32, 118, 97, 108, 117, 101]⟩])] [] (SI.tmp 4 SI.nil) (fun _ h => h.re [] [0, 0]) ⟨?_, rfl⟩
                    refine congrArg Value.string ?_; simp [firstT, join3, p4, p7, p10, p13, p16, p19, p22, p25, p27]
                  ·
                    have p30 := of_decide_eq_false c26
                    refine k_seq ?_
                    refine k_reg ?_
                    refine s_lt t_cmp ?_
                    refine s_lt (t_pure (.bool (decide (e = 9)))) ?_
                    refine s_nil ?_
                    refine xs_then ?_
                    refine k_cond (decide (e = 9)) (fun c31 => ?_) (fun c31 => ?_)
                    ·
                      have p32 := of_decide_eq_true c31
                      refine k_seq ?_
                      refine k_reg ?_
                      refine s_lt (t_pure (.string ⟨#[117, 110, 107, 110, 111, 119, 110, 32, 110, 97, 109, 101]⟩)) ?_
                      refine s_nil ?_
                      refine xs_then ?_
                      refine k_ret ?_
                      refine xs_retBlock ?_
                      refine xs_ret ?_
                      refine xs_fin [.string ⟨#[117, 110, 107, 110, 111, 119, 110, 32, 110, 97, 109, 101]⟩] [] (SI.tmp 4 SI.nil) (fun _ h => h.re [] [0]) ⟨?_, rfl⟩
                      refine congrArg Value.string ?_; simp [firstT, join3, p4, p7, p10, p13, p16, p19, p22, p25, p30, p32]
                    ·
                      have p33 := of_decide_eq_false c31
                      refine k_seq ?_
                      refine k_reg ?_
                      refine s_lt t_cmp ?_
                      refine s_lt (t_pure (.bool (decide (e = 10)))) ?_
                      refine s_nil ?_
                      refine xs_then ?_
                      refine k_cond (decide (e = 10)) (fun c34 => ?_) (fun c34 => ?_)
                      ·
                        have p35 := of_decide_eq_true c34
                        refine k_seq ?_
                        refine k_reg ?_
                        refine s_lt (t_pure (.string ⟨#[100, 101, 99, 108, 97, 114, 101, 100, 32, 116, 119, 105, 99, 101]⟩)) ?_
                        refine s_nil ?_
                        refine xs_then ?_
                        refine k_ret ?_
                        refine xs_retBlock ?_
                        refine xs_ret ?_
                        refine xs_fin [.string ⟨#[100, 101, 99, 108, 97, 114, 101, 100, 32, 116, 119, 105, 99, 101]⟩] [] (SI.tmp 4 SI.nil) (fun _ h => h.re [] [0]) ⟨?_, rfl⟩
                        refine congrArg Value.string ?_; simp [firstT, join3, p4, p7, p10, p13, p16, p19, p22, p25, p30, p33, p35]
                      ·
                        have p36 := of_decide_eq_false c34
                        refine k_seq ?_
                        refine k_reg ?_
                        refine s_lt t_cmp ?_
                        refine s_lt (t_pure (.bool (decide (e = 11)))) ?_
                        refine s_nil ?_
                        refine xs_then ?_
                        refine k_cond (decide (e = 11)) (fun c37 => ?_) (fun c37 => ?_)
                        ·
                          have p38 := of_decide_eq_true c37
                          refine k_seq ?_
                          refine k_reg ?_
                          refine s_lt (t_pure (.string ⟨#[97, 116, 116, 101, 109, 112, 116, 32, 116, 111, 32, 97, 115, 115, 105, 103, 110, 32, 116, 111, 32, 97, 32, 99, 111, 110, 115, 116, 97, 110, 116]⟩)) ?_
                          refine s_nil ?_
                          refine xs_then ?_
                          refine k_ret ?_
                          refine xs_retBlock ?_
                          refine xs_ret ?_
                          refine xs_fin [.string ⟨#[97, 116, 116, 101, 109, 112, 116, 32, 116, 111, 32, 97, 115, 115, 105, 103, 110, 32, 116, 111, 32, 97, 32, 99, 111, 110, 115, 116, 97, 110, 116]⟩] [] (SI.tmp 4 SI.nil) (fun _ h => h.re [] [0]) ⟨?_, rfl⟩
                          refine congrArg Value.string ?_; simp [firstT, join3, p4, p7, p10, p13, p16, p19, p22, p25, p30, p33, p36, p38]
                        ·
                          have p39 := of_decide_eq_false c37
                          refine k_seq ?_
                          refine k_reg ?_
                          refine s_lt t_cmp ?_
                          refine s_lt (t_pure (.bool (decide (e = 12)))) ?_
                          refine s_nil ?_
                          refine xs_then ?_
                          refine k_cond (decide (e = 12)) (fun c40 => ?_) (fun c40 => ?_)
                          ·
                            have p41 := of_decide_eq_true c40
                            refine k_seq ?_
                            refine k_reg ?_
                            refine s_lt (t_pure (.string ⟨#[108, 97, 98, 101, 108, 32, 105, 115, 32, 110, 111, 116, 32, 118, 105, 115, 105, 98, 108, 101]⟩)) ?_
                            refine s_nil ?_
                            refine xs_then ?_
                            refine k_ret ?_
                            refine xs_retBlock ?_
                            refine xs_ret ?_
                            refine xs_fin [.string ⟨#[108, 97, 98, 101, 108, 32, 105, 115, 32, 110, 111, 116, 32, 118, 105, 115, 105, 98, 108, 101]⟩] [] (SI.tmp 4 SI.nil) (fun _ h => h.re [] [0]) ⟨?_, rfl⟩
                            refine congrArg Value.string ?_; simp [firstT, join3, p4, p7, p10, p13, p16, p19, p22, p25, p30, p33, p36, p39, p41]
                          ·
                            have p42 := of_decide_eq_false c40
                            refine k_seq ?_
                            refine k_reg ?_
                            refine s_lt t_cmp ?_
                            refine s_lt (t_pure (.bool (decide (e = 13)))) ?_
                            refine s_nil ?_
                            refine xs_then ?_
                            refine k_cond (decide (e = 13)) (fun c43 => ?_) (fun c43 => ?_)
                            ·
                              have p44 := of_decide_eq_true c43
                              refine k_seq ?_
                              refine k_reg ?_
                              refine s_lt (t_pure (.string ⟨#[105, 110, 100, 101, 120, 32, 105, 115, 32, 110, 105, 108]⟩)) ?_
                              refine s_nil ?_
                              refine xs_then ?_
                              refine k_ret ?_
                              refine xs_retBlock ?_
                              refine xs_ret ?_
                              refine xs_fin [.string ⟨#[105, 110, 100, 101, 120, 32, 105, 115, 32, 110, 105, 108]⟩] [] (SI.tmp 4 SI.nil) (fun _ h => h.re [] [0]) ⟨?_, rfl⟩
                              refine congrArg Value.string ?_; simp [firstT, join3, p4, p7, p10, p13, p16, p19, p22, p25, p30, p33, p36, p39, p42, p44]
                            ·
                              have p45 := of_decide_eq_false c43
                              refine k_skip ?_
                              refine xs_block ?_
                              refine xs_then ?_
                              refine k_seq ?_
                              refine k_reg ?_
                              refine s_lt (t_pure (.string ⟨#[117, 110, 107, 110, 111, 119, 110, 32, 101, 114, 114, 111, 114]⟩)) ?_
                              refine s_nil ?_
                              refine xs_then ?_
                              refine k_ret ?_
                              refine xs_fin [.string ⟨#[117, 110, 107, 110, 111, 119, 110, 32, 101, 114, 114, 111, 114]⟩] [] (SI.tmp 4 SI.nil) (fun _ h => h.re [] [0]) ⟨?_, rfl⟩
                              refine congrArg Value.string ?_; simp [firstT, join3, p4, p7, p10, p13, p16, p19, p22, p25, p30, p33, p36, p39, p42, p45]
theorem rfirst_s {Z : Zone} (e : Int) (v : Vl) : SF Tryd.prog 39 #[.int .i64 e, v.v] Z [] fun r Bs => r = .string (rfirstT e v.kind) ∧ Bs = [] := by
  have hts := typeT_size v.kind
  refine sf_enter Tryd.func39 38 [(0, .int .i64 e), (1, .agg #[.int .i64 v.kind, .int .i64 v.p, .int .i64 v.q, .string v.str, .int .i64 v.ref])] (fun w0 => ?_)
  refine k_seq ?_
  refine k_reg ?_
  refine s_box #[.int .i64 v.kind, .int .i64 v.p, .int .i64 v.q, .string v.str, .int .i64 v.ref] (fun g1 => ?_)
  refine s_lt (t_pure (.string ByteArray.empty)) ?_
  refine s_nil ?_
  refine xs_then ?_
  refine k_seq ?_
  refine k_seq ?_
  refine k_reg ?_
  refine s_lt (t_pure (.int .i64 e)) ?_
  refine s_nil ?_
  refine xs_then ?_
  refine k_block ?_
  refine k_seq ?_
  refine k_reg ?_
  refine s_lt t_cmp ?_
  refine s_lt (t_pure (.bool (decide (e = 1)))) ?_
  refine s_nil ?_
  refine xs_then ?_
  refine k_cond (decide (e = 1)) (fun c2 => ?_) (fun c2 => ?_)
  ·
    have p3 := of_decide_eq_true c2
    refine k_seq ?_
    refine k_reg ?_
    refine s_lt (t_pure (.string ⟨#[110, 105, 108, 32, 111, 98, 106, 101, 99, 116]⟩)) ?_
    refine s_nil ?_
    refine xs_then ?_
    refine k_ret ?_
    refine xs_retBlock ?_
    refine xs_ret ?_
    refine xs_fin [.string ⟨#[110, 105, 108, 32, 111, 98, 106, 101, 99, 116]⟩] [] (SI.tmp 4 SI.nil) (fun _ h => h.re [] [0]) ⟨?_, rfl⟩
    refine congrArg Value.string ?_; simp [rfirstT, join3, p3]
  ·
    have p4 := of_decide_eq_false c2
    refine k_seq ?_
    refine k_reg ?_
    refine s_lt t_cmp ?_
    refine s_lt (t_pure (.bool (decide (e = 2)))) ?_
    refine s_nil ?_
    refine xs_then ?_
    refine k_cond (decide (e = 2)) (fun c5 => ?_) (fun c5 => ?_)
    ·
      have p6 := of_decide_eq_true c5
      refine k_seq ?_
      refine k_reg ?_
      refine s_lt (t_pure (.string ⟨#[98, 97, 100, 32, 97, 114, 103, 117, 109, 101, 110, 116]⟩)) ?_
      refine s_nil ?_
      refine xs_then ?_
      refine k_ret ?_
      refine xs_retBlock ?_
      refine xs_ret ?_
      refine xs_fin [.string ⟨#[98, 97, 100, 32, 97, 114, 103, 117, 109, 101, 110, 116]⟩] [] (SI.tmp 4 SI.nil) (fun _ h => h.re [] [0]) ⟨?_, rfl⟩
      refine congrArg Value.string ?_; simp [rfirstT, join3, p4, p6]
    ·
      have p7 := of_decide_eq_false c5
      refine k_seq ?_
      refine k_reg ?_
      refine s_lt t_cmp ?_
      refine s_lt (t_pure (.bool (decide (e = 3)))) ?_
      refine s_nil ?_
      refine xs_then ?_
      refine k_cond (decide (e = 3)) (fun c8 => ?_) (fun c8 => ?_)
      ·
        have p9 := of_decide_eq_true c8
        refine k_seq ?_
        refine k_reg ?_
        refine s_lt (t_pure (.string ⟨#[116, 111, 111, 32, 109, 97, 110, 121, 32, 118, 97, 108, 117, 101, 115]⟩)) ?_
        refine s_nil ?_
        refine xs_then ?_
        refine k_ret ?_
        refine xs_retBlock ?_
        refine xs_ret ?_
        refine xs_fin [.string ⟨#[116, 111, 111, 32, 109, 97, 110, 121, 32, 118, 97, 108, 117, 101, 115]⟩] [] (SI.tmp 4 SI.nil) (fun _ h => h.re [] [0]) ⟨?_, rfl⟩
        refine congrArg Value.string ?_; simp [rfirstT, join3, p4, p7, p9]
      ·
        have p10 := of_decide_eq_false c8
        refine k_seq ?_
        refine k_reg ?_
        refine s_lt t_cmp ?_
        refine s_lt (t_pure (.bool (decide (e = 4)))) ?_
        refine s_nil ?_
        refine xs_then ?_
        refine k_cond (decide (e = 4)) (fun c11 => ?_) (fun c11 => ?_)
        ·
          have p12 := of_decide_eq_true c11
          refine k_seq ?_
          refine k_reg ?_
          refine s_lt (t_pure (.string ⟨#[109, 97, 108, 102, 111, 114, 109, 101, 100, 32, 116, 101, 120, 116]⟩)) ?_
          refine s_nil ?_
          refine xs_then ?_
          refine k_ret ?_
          refine xs_retBlock ?_
          refine xs_ret ?_
          refine xs_fin [.string ⟨#[109, 97, 108, 102, 111, 114, 109, 101, 100, 32, 116, 101, 120, 116]⟩] [] (SI.tmp 4 SI.nil) (fun _ h => h.re [] [0]) ⟨?_, rfl⟩
          refine congrArg Value.string ?_; simp [rfirstT, join3, p4, p7, p10, p12]
        ·
          have p13 := of_decide_eq_false c11
          refine k_seq ?_
          refine k_reg ?_
          refine s_lt t_cmp ?_
          refine s_lt (t_pure (.bool (decide (e = 5)))) ?_
          refine s_nil ?_
          refine xs_then ?_
          refine k_cond (decide (e = 5)) (fun c14 => ?_) (fun c14 => ?_)
          ·
            have p15 := of_decide_eq_true c14
            refine k_seq ?_
            refine k_reg ?_
            refine s_lt (t_pure (.string ⟨#[117, 110, 101, 120, 112, 101, 99, 116, 101, 100, 32, 101, 110, 100]⟩)) ?_
            refine s_nil ?_
            refine xs_then ?_
            refine k_ret ?_
            refine xs_retBlock ?_
            refine xs_ret ?_
            refine xs_fin [.string ⟨#[117, 110, 101, 120, 112, 101, 99, 116, 101, 100, 32, 101, 110, 100]⟩] [] (SI.tmp 4 SI.nil) (fun _ h => h.re [] [0]) ⟨?_, rfl⟩
            refine congrArg Value.string ?_; simp [rfirstT, join3, p4, p7, p10, p13, p15]
          ·
            have p16 := of_decide_eq_false c14
            refine k_seq ?_
            refine k_reg ?_
            refine s_lt t_cmp ?_
            refine s_lt (t_pure (.bool (decide (e = 6)))) ?_
            refine s_nil ?_
            refine xs_then ?_
            refine k_cond (decide (e = 6)) (fun c17 => ?_) (fun c17 => ?_)
            ·
              have p18 := of_decide_eq_true c17
              refine k_seq ?_
              refine k_reg ?_
              refine s_lt (t_pure (.string ⟨#[110, 117, 109, 98, 101, 114, 32, 111, 117, 116, 32, 111, 102, 32, 114, 97, 110, 103, 101]⟩)) ?_
              refine s_nil ?_
              refine xs_then ?_
              refine k_ret ?_
              refine xs_retBlock ?_
              refine xs_ret ?_
              refine xs_fin [.string ⟨#[110, 117, 109, 98, 101, 114, 32, 111, 117, 116, 32, 111, 102, 32, 114, 97, 110, 103, 101]⟩] [] (SI.tmp 4 SI.nil) (fun _ h => h.re [] [0]) ⟨?_, rfl⟩
              refine congrArg Value.string ?_; simp [rfirstT, join3, p4, p7, p10, p13, p16, p18]
            ·
              have p19 := of_decide_eq_false c17
              refine k_seq ?_
              refine k_reg ?_
              refine s_lt t_cmp ?_
              refine s_lt (t_pure (.bool (decide (e = 7)))) ?_
              refine s_nil ?_
              refine xs_then ?_
              refine k_cond (decide (e = 7)) (fun c20 => ?_) (fun c20 => ?_)
              ·
                have p21 := of_decide_eq_true c20
                refine k_seq ?_
                refine k_reg ?_
                refine s_lt (t_pure (.string ⟨#[100, 105, 118, 105, 115, 105, 111, 110, 32, 98, 121, 32, 122, 101, 114, 111]⟩)) ?_
                refine s_nil ?_
                refine xs_then ?_
                refine k_ret ?_
                refine xs_retBlock ?_
                refine xs_ret ?_
                refine xs_fin [.string ⟨#[100, 105, 118, 105, 115, 105, 111, 110, 32, 98, 121, 32, 122, 101, 114, 111]⟩] [] (SI.tmp 4 SI.nil) (fun _ h => h.re [] [0]) ⟨?_, rfl⟩
                refine congrArg Value.string ?_; simp [rfirstT, join3, p4, p7, p10, p13, p16, p19, p21]
              ·
                have p22 := of_decide_eq_false c20
                refine k_seq ?_
                refine k_reg ?_
                refine s_lt t_cmp ?_
                refine s_lt (t_pure (.bool (decide (e = 8)))) ?_
                refine s_nil ?_
                refine xs_then ?_
                refine k_cond (decide (e = 8)) (fun c23 => ?_) (fun c23 => ?_)
                ·
                  have p24 := of_decide_eq_true c23
                  refine k_seq ?_
                  refine k_reg ?_
                  refine s_lt (t_loadA 0 #[.int .i64 v.kind, .int .i64 v.p, .int .i64 v.q, .string v.str, .int .i64 v.ref]) ?_
                  refine s_vcall (fun _ h => rtype_s v) ?_
                  rintro _ rfl
                  refine s_lt (t_cat ⟨#[97, 116, 116, 101, 109, 112, 116, 32, 116, 111, 32, 99, 97, 108, 108, 32, 97, 32]⟩ (typeT v.kind) (by simp only [ByteArray.size_append, sz_mk, List.length_cons, List.length_nil]; omega)) ?_
                  refine s_lt (t_cat (⟨#[97, 116, 116, 101, 109, 112, 116, 32, 116, 111, 32, 99, 97, 108, 108, 32, 97, 32]⟩ ++ (typeT v.kind)) ⟨#[32, 118, 97, 108, 117, 101]⟩ (by simp only [ByteArray.size_append, sz_mk, List.length_cons, List.length_nil]; omega)) ?_
                  refine s_lt (t_pure (.string ((⟨#[97, 116, 116, 101, 109, 112, 116, 32, 116, 111, 32, 99, 97, 108, 108, 32, 97, 32]⟩ ++ (typeT v.kind)) ++ ⟨#[32, 118, 97, 108, 117, 101]⟩))) ?_
                  refine s_nil ?_
                  refine xs_then ?_
                  refine k_ret ?_
                  refine xs_retBlock ?_
                  refine xs_ret ?_
                  refine xs_fin [.string ((⟨#[97, 116, 116, 101, 109, 112, 116, 32, 116, 111, 32, 99, 97, 108, 108, 32, 97, 32]⟩ ++ (typeT v.kind)) ++ ⟨#[32, 118, 97, 108, 117, 101]⟩)] [] (SI.tmp 4 SI.nil) (fun _ h => h.re [] [0]) ⟨?_, rfl⟩
                  refine congrArg Value.string ?_; simp [rfirstT, join3, p4, p7, p10, p13, p16, p19, p22, p24]
                ·
                  have p25 := of_decide_eq_false c23
                  refine k_seq ?_
                  refine k_reg ?_
                  refine s_lt t_cmp ?_
                  refine s_lt (t_pure (.bool (decide (e = 9)))) ?_
                  refine s_nil ?_
                  refine xs_then ?_
                  refine k_cond (decide (e = 9)) (fun c26 => ?_) (fun c26 => ?_)
                  ·
                    have p27 := of_decide_eq_true c26
                    refine k_seq ?_
                    refine k_reg ?_
                    refine s_lt (t_pure (.string ⟨#[117, 110, 107, 110, 111, 119, 110, 32, 110, 97, 109, 101]⟩)) ?_
                    refine s_nil ?_
                    refine xs_then ?_
                    refine k_ret ?_
                    refine xs_retBlock ?_
                    refine xs_ret ?_
                    refine xs_fin [.string ⟨#[117, 110, 107, 110, 111, 119, 110, 32, 110, 97, 109, 101]⟩] [] (SI.tmp 4 SI.nil) (fun _ h => h.re [] [0]) ⟨?_, rfl⟩
                    refine congrArg Value.string ?_; simp [rfirstT, join3, p4, p7, p10, p13, p16, p19, p22, p25, p27]
                  ·
                    have p28 := of_decide_eq_false c26
                    refine k_seq ?_
                    refine k_reg ?_
                    refine s_lt t_cmp ?_
                    refine s_lt (t_pure (.bool (decide (e = 10)))) ?_
                    refine s_nil ?_
                    refine xs_then ?_
                    refine k_cond (decide (e = 10)) (fun c29 => ?_) (fun c29 => ?_)
                    ·
                      have p30 := of_decide_eq_true c29
                      refine k_seq ?_
                      refine k_reg ?_
                      refine s_lt (t_pure (.string ⟨#[100, 101, 99, 108, 97, 114, 101, 100, 32, 116, 119, 105, 99, 101]⟩)) ?_
                      refine s_nil ?_
                      refine xs_then ?_
                      refine k_ret ?_
                      refine xs_retBlock ?_
                      refine xs_ret ?_
                      refine xs_fin [.string ⟨#[100, 101, 99, 108, 97, 114, 101, 100, 32, 116, 119, 105, 99, 101]⟩] [] (SI.tmp 4 SI.nil) (fun _ h => h.re [] [0]) ⟨?_, rfl⟩
                      refine congrArg Value.string ?_; simp [rfirstT, join3, p4, p7, p10, p13, p16, p19, p22, p25, p28, p30]
                    ·
                      have p31 := of_decide_eq_false c29
                      refine k_seq ?_
                      refine k_reg ?_
                      refine s_lt t_cmp ?_
                      refine s_lt (t_pure (.bool (decide (e = 11)))) ?_
                      refine s_nil ?_
                      refine xs_then ?_
                      refine k_cond (decide (e = 11)) (fun c32 => ?_) (fun c32 => ?_)
                      ·
                        have p33 := of_decide_eq_true c32
                        refine k_seq ?_
                        refine k_reg ?_
                        refine s_lt (t_pure (.string ⟨#[97, 116, 116, 101, 109, 112, 116, 32, 116, 111, 32, 97, 115, 115, 105, 103, 110, 32, 116, 111, 32, 97, 32, 99, 111, 110, 115, 116, 97, 110, 116]⟩)) ?_
                        refine s_nil ?_
                        refine xs_then ?_
                        refine k_ret ?_
                        refine xs_retBlock ?_
                        refine xs_ret ?_
                        refine xs_fin [.string ⟨#[97, 116, 116, 101, 109, 112, 116, 32, 116, 111, 32, 97, 115, 115, 105, 103, 110, 32, 116, 111, 32, 97, 32, 99, 111, 110, 115, 116, 97, 110, 116]⟩] [] (SI.tmp 4 SI.nil) (fun _ h => h.re [] [0]) ⟨?_, rfl⟩
                        refine congrArg Value.string ?_; simp [rfirstT, join3, p4, p7, p10, p13, p16, p19, p22, p25, p28, p31, p33]
                      ·
                        have p34 := of_decide_eq_false c32
                        refine k_seq ?_
                        refine k_reg ?_
                        refine s_lt t_cmp ?_
                        refine s_lt (t_pure (.bool (decide (e = 12)))) ?_
                        refine s_nil ?_
                        refine xs_then ?_
                        refine k_cond (decide (e = 12)) (fun c35 => ?_) (fun c35 => ?_)
                        ·
                          have p36 := of_decide_eq_true c35
                          refine k_seq ?_
                          refine k_reg ?_
                          refine s_lt (t_pure (.string ⟨#[108, 97, 98, 101, 108, 32, 105, 115, 32, 110, 111, 116, 32, 118, 105, 115, 105, 98, 108, 101]⟩)) ?_
                          refine s_nil ?_
                          refine xs_then ?_
                          refine k_ret ?_
                          refine xs_retBlock ?_
                          refine xs_ret ?_
                          refine xs_fin [.string ⟨#[108, 97, 98, 101, 108, 32, 105, 115, 32, 110, 111, 116, 32, 118, 105, 115, 105, 98, 108, 101]⟩] [] (SI.tmp 4 SI.nil) (fun _ h => h.re [] [0]) ⟨?_, rfl⟩
                          refine congrArg Value.string ?_; simp [rfirstT, join3, p4, p7, p10, p13, p16, p19, p22, p25, p28, p31, p34, p36]
                        ·
                          have p37 := of_decide_eq_false c35
                          refine k_seq ?_
                          refine k_reg ?_
                          refine s_lt t_cmp ?_
                          refine s_lt (t_pure (.bool (decide (e = 13)))) ?_
                          refine s_nil ?_
                          refine xs_then ?_
                          refine k_cond (decide (e = 13)) (fun c38 => ?_) (fun c38 => ?_)
                          ·
                            have p39 := of_decide_eq_true c38
                            refine k_seq ?_
                            refine k_reg ?_
                            refine s_lt (t_pure (.string ⟨#[105, 110, 100, 101, 120, 32, 105, 115, 32, 110, 105, 108]⟩)) ?_
                            refine s_nil ?_
                            refine xs_then ?_
                            refine k_ret ?_
                            refine xs_retBlock ?_
                            refine xs_ret ?_
                            refine xs_fin [.string ⟨#[105, 110, 100, 101, 120, 32, 105, 115, 32, 110, 105, 108]⟩] [] (SI.tmp 4 SI.nil) (fun _ h => h.re [] [0]) ⟨?_, rfl⟩
                            refine congrArg Value.string ?_; simp [rfirstT, join3, p4, p7, p10, p13, p16, p19, p22, p25, p28, p31, p34, p37, p39]
                          ·
                            have p40 := of_decide_eq_false c38
                            refine k_seq ?_
                            refine k_reg ?_
                            refine s_lt t_cmp ?_
                            refine s_lt (t_pure (.bool (decide (e = 14)))) ?_
                            refine s_nil ?_
                            refine xs_then ?_
                            refine k_cond (decide (e = 14)) (fun c41 => ?_) (fun c41 => ?_)
                            ·
                              have p42 := of_decide_eq_true c41
                              refine k_seq ?_
                              refine k_reg ?_
                              refine s_lt (t_pure (.string ⟨#[115, 116, 114, 105, 110, 103, 32, 116, 111, 111, 32, 108, 111, 110, 103]⟩)) ?_
                              refine s_nil ?_
                              refine xs_then ?_
                              refine k_ret ?_
                              refine xs_retBlock ?_
                              refine xs_ret ?_
                              refine xs_fin [.string ⟨#[115, 116, 114, 105, 110, 103, 32, 116, 111, 111, 32, 108, 111, 110, 103]⟩] [] (SI.tmp 4 SI.nil) (fun _ h => h.re [] [0]) ⟨?_, rfl⟩
                              refine congrArg Value.string ?_; simp [rfirstT, join3, p4, p7, p10, p13, p16, p19, p22, p25, p28, p31, p34, p37, p40, p42]
                            ·
                              have p43 := of_decide_eq_false c41
                              refine k_skip ?_
                              refine xs_block ?_
                              refine xs_then ?_
                              refine k_seq ?_
                              refine k_reg ?_
                              refine s_lt (t_pure (.string ⟨#[117, 110, 107, 110, 111, 119, 110, 32, 101, 114, 114, 111, 114]⟩)) ?_
                              refine s_nil ?_
                              refine xs_then ?_
                              refine k_ret ?_
                              refine xs_fin [.string ⟨#[117, 110, 107, 110, 111, 119, 110, 32, 101, 114, 114, 111, 114]⟩] [] (SI.tmp 4 SI.nil) (fun _ h => h.re [] [0]) ⟨?_, rfl⟩
                              refine congrArg Value.string ?_; simp [rfirstT, join3, p4, p7, p10, p13, p16, p19, p22, p25, p28, p31, p34, p37, p40, p43]
theorem desc_s {Z : Zone} (e : Int) (v : Vl) : SF Tryd.prog 23 #[.int .i64 e, v.v] Z [] fun r Bs => r = .string (descT e v.kind) ∧ Bs = [] := by
  have hts := typeT_size v.kind
  refine sf_enter Tryd.func23 35 [(0, .int .i64 e), (1, .agg #[.int .i64 v.kind, .int .i64 v.p, .int .i64 v.q, .string v.str, .int .i64 v.ref])] (fun w0 => ?_)
  refine k_seq ?_
  refine k_reg ?_
  refine s_box #[.int .i64 v.kind, .int .i64 v.p, .int .i64 v.q, .string v.str, .int .i64 v.ref] (fun g1 => ?_)
  refine s_lt (t_pure (.string ByteArray.empty)) ?_
  refine s_nil ?_
  refine xs_then ?_
  refine k_seq ?_
  refine k_seq ?_
  refine k_reg ?_
  refine s_lt (t_pure (.int .i64 e)) ?_
  refine s_nil ?_
  refine xs_then ?_
  refine k_block ?_
  refine k_seq ?_
  refine k_reg ?_
  refine s_lt t_cmp ?_
  refine s_lt (t_pure (.bool (decide (e = 14)))) ?_
  refine s_nil ?_
  refine xs_then ?_
  refine k_cond (decide (e = 14)) (fun c2 => ?_) (fun c2 => ?_)
  ·
    have p3 := of_decide_eq_true c2
    refine k_seq ?_
    refine k_reg ?_
    refine s_lt (t_pure (.string ⟨#[115, 116, 114, 105, 110, 103, 32, 116, 111, 111, 32, 108, 111, 110, 103]⟩)) ?_
    refine s_nil ?_
    refine xs_then ?_
    refine k_ret ?_
    refine xs_retBlock ?_
    refine xs_ret ?_
    refine xs_fin [.string ⟨#[115, 116, 114, 105, 110, 103, 32, 116, 111, 111, 32, 108, 111, 110, 103]⟩] [] (SI.tmp 4 SI.nil) (fun _ h => h.re [] [0]) ⟨?_, rfl⟩
    refine congrArg Value.string ?_; simp [descT, join3, p3]
  ·
    have p4 := of_decide_eq_false c2
    refine k_seq ?_
    refine k_reg ?_
    refine s_lt t_cmp ?_
    refine s_lt (t_pure (.bool (decide (e = 15)))) ?_
    refine s_nil ?_
    refine xs_then ?_
    refine k_cond (decide (e = 15)) (fun c5 => ?_) (fun c5 => ?_)
    ·
      have p6 := of_decide_eq_true c5
      refine k_seq ?_
      refine k_reg ?_
      refine s_lt (t_pure (.string ⟨#[99, 104, 97, 105, 110, 32, 111, 102, 32, 109, 101, 116, 97, 116, 97, 98, 108, 101, 115, 32, 116, 111, 111, 32, 108, 111, 110, 103]⟩)) ?_
      refine s_nil ?_
      refine xs_then ?_
      refine k_ret ?_
      refine xs_retBlock ?_
      refine xs_ret ?_
      refine xs_fin [.string ⟨#[99, 104, 97, 105, 110, 32, 111, 102, 32, 109, 101, 116, 97, 116, 97, 98, 108, 101, 115, 32, 116, 111, 111, 32, 108, 111, 110, 103]⟩] [] (SI.tmp 4 SI.nil) (fun _ h => h.re [] [0]) ⟨?_, rfl⟩
      refine congrArg Value.string ?_; simp [descT, join3, p4, p6]
    ·
      have p7 := of_decide_eq_false c5
      refine k_seq ?_
      refine k_reg ?_
      refine s_lt t_cmp ?_
      refine s_lt (t_pure (.bool (decide (e = 16)))) ?_
      refine s_nil ?_
      refine xs_then ?_
      refine k_cond (decide (e = 16)) (fun c8 => ?_) (fun c8 => ?_)
      ·
        have p9 := of_decide_eq_true c8
        refine k_seq ?_
        refine k_reg ?_
        refine s_lt (t_pure (.string ⟨#[99, 97, 110, 110, 111, 116, 32, 114, 101, 115, 117, 109, 101, 32, 110, 111, 110, 45, 115, 117, 115, 112, 101, 110, 100, 101, 100, 32, 99, 111, 114, 111, 117, 116, 105, 110, 101]⟩)) ?_
        refine s_nil ?_
        refine xs_then ?_
        refine k_ret ?_
        refine xs_retBlock ?_
        refine xs_ret ?_
        refine xs_fin [.string ⟨#[99, 97, 110, 110, 111, 116, 32, 114, 101, 115, 117, 109, 101, 32, 110, 111, 110, 45, 115, 117, 115, 112, 101, 110, 100, 101, 100, 32, 99, 111, 114, 111, 117, 116, 105, 110, 101]⟩] [] (SI.tmp 4 SI.nil) (fun _ h => h.re [] [0]) ⟨?_, rfl⟩
        refine congrArg Value.string ?_; simp [descT, join3, p4, p7, p9]
      ·
        have p10 := of_decide_eq_false c8
        refine k_seq ?_
        refine k_reg ?_
        refine s_lt t_cmp ?_
        refine s_lt (t_pure (.bool (decide (e = 17)))) ?_
        refine s_nil ?_
        refine xs_then ?_
        refine k_cond (decide (e = 17)) (fun c11 => ?_) (fun c11 => ?_)
        ·
          have p12 := of_decide_eq_true c11
          refine k_seq ?_
          refine k_reg ?_
          refine s_lt (t_pure (.string ⟨#[115, 116, 97, 99, 107, 32, 111, 118, 101, 114, 102, 108, 111, 119]⟩)) ?_
          refine s_nil ?_
          refine xs_then ?_
          refine k_ret ?_
          refine xs_retBlock ?_
          refine xs_ret ?_
          refine xs_fin [.string ⟨#[115, 116, 97, 99, 107, 32, 111, 118, 101, 114, 102, 108, 111, 119]⟩] [] (SI.tmp 4 SI.nil) (fun _ h => h.re [] [0]) ⟨?_, rfl⟩
          refine congrArg Value.string ?_; simp [descT, join3, p4, p7, p10, p12]
        ·
          have p13 := of_decide_eq_false c11
          refine k_seq ?_
          refine k_reg ?_
          refine s_lt t_cmp ?_
          refine s_lt (t_pure (.bool (decide (e = 18)))) ?_
          refine s_nil ?_
          refine xs_then ?_
          refine k_cond (decide (e = 18)) (fun c14 => ?_) (fun c14 => ?_)
          ·
            have p15 := of_decide_eq_true c14
            refine k_seq ?_
            refine k_reg ?_
            refine s_lt (t_pure (.string ⟨#[110, 111, 116, 104, 105, 110, 103, 32, 105, 115, 32, 116, 104, 101, 114, 101]⟩)) ?_
            refine s_nil ?_
            refine xs_then ?_
            refine k_ret ?_
            refine xs_retBlock ?_
            refine xs_ret ?_
            refine xs_fin [.string ⟨#[110, 111, 116, 104, 105, 110, 103, 32, 105, 115, 32, 116, 104, 101, 114, 101]⟩] [] (SI.tmp 4 SI.nil) (fun _ h => h.re [] [0]) ⟨?_, rfl⟩
            refine congrArg Value.string ?_; simp [descT, join3, p4, p7, p10, p13, p15]
          ·
            have p16 := of_decide_eq_false c14
            refine k_seq ?_
            refine k_reg ?_
            refine s_lt t_cmp ?_
            refine s_lt (t_pure (.bool (decide (e = 19)))) ?_
            refine s_nil ?_
            refine xs_then ?_
            refine k_cond (decide (e = 19)) (fun c17 => ?_) (fun c17 => ?_)
            ·
              have p18 := of_decide_eq_true c17
              refine k_seq ?_
              refine k_reg ?_
              refine s_lt (t_pure (.string ⟨#[99, 97, 110, 110, 111, 116, 32, 114, 101, 115, 117, 109, 101, 32, 100, 101, 97, 100, 32, 99, 111, 114, 111, 117, 116, 105, 110, 101]⟩)) ?_
              refine s_nil ?_
              refine xs_then ?_
              refine k_ret ?_
              refine xs_retBlock ?_
              refine xs_ret ?_
              refine xs_fin [.string ⟨#[99, 97, 110, 110, 111, 116, 32, 114, 101, 115, 117, 109, 101, 32, 100, 101, 97, 100, 32, 99, 111, 114, 111, 117, 116, 105, 110, 101]⟩] [] (SI.tmp 4 SI.nil) (fun _ h => h.re [] [0]) ⟨?_, rfl⟩
              refine congrArg Value.string ?_; simp [descT, join3, p4, p7, p10, p13, p16, p18]
            ·
              have p19 := of_decide_eq_false c17
              refine k_seq ?_
              refine k_reg ?_
              refine s_lt t_cmp ?_
              refine s_lt (t_pure (.bool (decide (e = 20)))) ?_
              refine s_nil ?_
              refine xs_then ?_
              refine k_cond (decide (e = 20)) (fun c20 => ?_) (fun c20 => ?_)
              ·
                have p21 := of_decide_eq_true c20
                refine k_seq ?_
                refine k_reg ?_
                refine s_lt (t_pure (.string ⟨#[119, 114, 111, 110, 103, 32, 99, 104, 101, 99, 107, 115, 117, 109]⟩)) ?_
                refine s_nil ?_
                refine xs_then ?_
                refine k_ret ?_
                refine xs_retBlock ?_
                refine xs_ret ?_
                refine xs_fin [.string ⟨#[119, 114, 111, 110, 103, 32, 99, 104, 101, 99, 107, 115, 117, 109]⟩] [] (SI.tmp 4 SI.nil) (fun _ h => h.re [] [0]) ⟨?_, rfl⟩
                refine congrArg Value.string ?_; simp [descT, join3, p4, p7, p10, p13, p16, p19, p21]
              ·
                have p22 := of_decide_eq_false c20
                refine k_seq ?_
                refine k_reg ?_
                refine s_lt t_cmp ?_
                refine s_lt (t_pure (.bool (decide (e = 21)))) ?_
                refine s_nil ?_
                refine xs_then ?_
                refine k_cond (decide (e = 21)) (fun c23 => ?_) (fun c23 => ?_)
                ·
                  have p24 := of_decide_eq_true c23
                  refine k_seq ?_
                  refine k_reg ?_
                  refine s_lt (t_pure (.string ⟨#[98, 121, 116, 101, 99, 111, 100, 101, 32, 105, 115, 32, 110, 111, 116, 32, 115, 97, 102, 101]⟩)) ?_
                  refine s_nil ?_
                  refine xs_then ?_
                  refine k_ret ?_
                  refine xs_retBlock ?_
                  refine xs_ret ?_
                  refine xs_fin [.string ⟨#[98, 121, 116, 101, 99, 111, 100, 101, 32, 105, 115, 32, 110, 111, 116, 32, 115, 97, 102, 101]⟩] [] (SI.tmp 4 SI.nil) (fun _ h => h.re [] [0]) ⟨?_, rfl⟩
                  refine congrArg Value.string ?_; simp [descT, join3, p4, p7, p10, p13, p16, p19, p22, p24]
                ·
                  have p25 := of_decide_eq_false c23
                  refine k_seq ?_
                  refine k_reg ?_
                  refine s_lt t_cmp ?_
                  refine s_lt (t_pure (.bool (decide (e = 22)))) ?_
                  refine s_nil ?_
                  refine xs_then ?_
                  refine k_cond (decide (e = 22)) (fun c26 => ?_) (fun c26 => ?_)
                  ·
                    have p27 := of_decide_eq_true c26
                    refine k_seq ?_
                    refine k_reg ?_
                    refine s_lt (t_pure (.string ⟨#[116, 104, 105, 110, 103, 115, 32, 100, 111, 32, 110, 111, 116, 32, 109, 97, 116, 99, 104]⟩)) ?_
                    refine s_nil ?_
                    refine xs_then ?_
                    refine k_ret ?_
                    refine xs_retBlock ?_
                    refine xs_ret ?_
                    refine xs_fin [.string ⟨#[116, 104, 105, 110, 103, 115, 32, 100, 111, 32, 110, 111, 116, 32, 109, 97, 116, 99, 104]⟩] [] (SI.tmp 4 SI.nil) (fun _ h => h.re [] [0]) ⟨?_, rfl⟩
                    refine congrArg Value.string ?_; simp [descT, join3, p4, p7, p10, p13, p16, p19, p22, p25, p27]
                  ·
                    have p28 := of_decide_eq_false c26
                    refine k_seq ?_
                    refine k_reg ?_
                    refine s_lt t_cmp ?_
                    refine s_lt (t_pure (.bool (decide (e = 23)))) ?_
                    refine s_nil ?_
                    refine xs_then ?_
                    refine k_cond (decide (e = 23)) (fun c29 => ?_) (fun c29 => ?_)
                    ·
                      have p30 := of_decide_eq_true c29
                      refine k_seq ?_
                      refine k_reg ?_
                      refine s_lt (t_pure (.string ⟨#[110, 111, 116, 32, 101, 110, 111, 117, 103, 104, 32, 109, 101, 109, 111, 114, 121]⟩)) ?_
                      refine s_nil ?_
                      refine xs_then ?_
                      refine k_ret ?_
                      refine xs_retBlock ?_
                      refine xs_ret ?_
                      refine xs_fin [.string ⟨#[110, 111, 116, 32, 101, 110, 111, 117, 103, 104, 32, 109, 101, 109, 111, 114, 121]⟩] [] (SI.tmp 4 SI.nil) (fun _ h => h.re [] [0]) ⟨?_, rfl⟩
                      refine congrArg Value.string ?_; simp [descT, join3, p4, p7, p10, p13, p16, p19, p22, p25, p28, p30]
                    ·
                      have p31 := of_decide_eq_false c29
                      refine k_seq ?_
                      refine k_reg ?_
                      refine s_lt t_cmp ?_
                      refine s_lt (t_pure (.bool (decide (e = 24)))) ?_
                      refine s_nil ?_
                      refine xs_then ?_
                      refine k_cond (decide (e = 24)) (fun c32 => ?_) (fun c32 => ?_)
                      ·
                        have p33 := of_decide_eq_true c32
                        refine k_seq ?_
                        refine k_reg ?_
                        refine s_lt (t_pure (.string ⟨#[116, 111, 111, 32, 109, 97, 110, 121, 32, 115, 116, 101, 112, 115]⟩)) ?_
                        refine s_nil ?_
                        refine xs_then ?_
                        refine k_ret ?_
                        refine xs_retBlock ?_
                        refine xs_ret ?_
                        refine xs_fin [.string ⟨#[116, 111, 111, 32, 109, 97, 110, 121, 32, 115, 116, 101, 112, 115]⟩] [] (SI.tmp 4 SI.nil) (fun _ h => h.re [] [0]) ⟨?_, rfl⟩
                        refine congrArg Value.string ?_; simp [descT, join3, p4, p7, p10, p13, p16, p19, p22, p25, p28, p31, p33]
                      ·
                        have p34 := of_decide_eq_false c32
                        refine k_seq ?_
                        refine k_reg ?_
                        refine s_lt t_cmp ?_
                        refine s_lt (t_pure (.bool (decide (e = 25)))) ?_
                        refine s_nil ?_
                        refine xs_then ?_
                        refine k_cond (decide (e = 25)) (fun c35 => ?_) (fun c35 => ?_)
                        ·
                          have p36 := of_decide_eq_true c35
                          refine k_seq ?_
                          refine k_reg ?_
                          refine s_lt (t_pure (.string ⟨#[97, 116, 116, 101, 109, 112, 116, 32, 116, 111, 32, 121, 105, 101, 108, 100, 32, 102, 114, 111, 109, 32, 111, 117, 116, 115, 105, 100, 101, 32, 97, 32, 99, 111, 114, 111, 117, 116, 105, 110, 101]⟩)) ?_
                          refine s_nil ?_
                          refine xs_then ?_
                          refine k_ret ?_
                          refine xs_retBlock ?_
                          refine xs_ret ?_
                          refine xs_fin [.string ⟨#[97, 116, 116, 101, 109, 112, 116, 32, 116, 111, 32, 121, 105, 101, 108, 100, 32, 102, 114, 111, 109, 32, 111, 117, 116, 115, 105, 100, 101, 32, 97, 32, 99, 111, 114, 111, 117, 116, 105, 110, 101]⟩] [] (SI.tmp 4 SI.nil) (fun _ h => h.re [] [0]) ⟨?_, rfl⟩
                          refine congrArg Value.string ?_; simp [descT, join3, p4, p7, p10, p13, p16, p19, p22, p25, p28, p31, p34, p36]
                        ·
                          have p37 := of_decide_eq_false c35
                          refine k_seq ?_
                          refine k_reg ?_
                          refine s_lt t_cmp ?_
                          refine s_lt (t_pure (.bool (decide (e = 26)))) ?_
                          refine s_nil ?_
                          refine xs_then ?_
                          refine k_cond (decide (e = 26)) (fun c38 => ?_) (fun c38 => ?_)
                          ·
                            have p39 := of_decide_eq_true c38
                            refine k_seq ?_
                            refine k_reg ?_
                            refine s_lt (t_pure (.string ⟨#[101, 114, 114, 111, 114, 32, 105, 110, 32, 97, 32, 115, 99, 114, 105, 112, 116]⟩)) ?_
                            refine s_nil ?_
                            refine xs_then ?_
                            refine k_ret ?_
                            refine xs_retBlock ?_
                            refine xs_ret ?_
                            refine xs_fin [.string ⟨#[101, 114, 114, 111, 114, 32, 105, 110, 32, 97, 32, 115, 99, 114, 105, 112, 116]⟩] [] (SI.tmp 4 SI.nil) (fun _ h => h.re [] [0]) ⟨?_, rfl⟩
                            refine congrArg Value.string ?_; simp [descT, join3, p4, p7, p10, p13, p16, p19, p22, p25, p28, p31, p34, p37, p39]
                          ·
                            have p40 := of_decide_eq_false c38
                            refine k_skip ?_
                            refine xs_block ?_
                            refine xs_then ?_
                            refine k_seq ?_
                            refine k_reg ?_
                            refine s_lt (t_pure (.int .i64 e)) ?_
                            refine s_lt (t_loadA 0 #[.int .i64 v.kind, .int .i64 v.p, .int .i64 v.q, .string v.str, .int .i64 v.ref]) ?_
                            refine s_vcall (fun _ h => first_s e v) ?_
                            rintro _ rfl
                            refine s_lt (t_pure (.string (firstT e v.kind))) ?_
                            refine s_nil ?_
                            refine xs_then ?_
                            refine k_ret ?_
                            refine xs_fin [.string (firstT e v.kind)] [] (SI.tmp 4 SI.nil) (fun _ h => h.re [] [0]) ⟨?_, rfl⟩
                            refine congrArg Value.string ?_; simp [descT, join3, p4, p7, p10, p13, p16, p19, p22, p25, p28, p31, p34, p37, p40]
theorem rdesc_s {Z : Zone} (e : Int) (v : Vl) : SF Tryd.prog 24 #[.int .i64 e, v.v] Z [] fun r Bs => r = .string (rdescT e v.kind) ∧ Bs = [] := by
  have hts := typeT_size v.kind
  refine sf_enter Tryd.func24 35 [(0, .int .i64 e), (1, .agg #[.int .i64 v.kind, .int .i64 v.p, .int .i64 v.q, .string v.str, .int .i64 v.ref])] (fun w0 => ?_)
  refine k_seq ?_
  refine k_reg ?_
  refine s_box #[.int .i64 v.kind, .int .i64 v.p, .int .i64 v.q, .string v.str, .int .i64 v.ref] (fun g1 => ?_)
  refine s_lt (t_pure (.string ByteArray.empty)) ?_
  refine s_nil ?_
  refine xs_then ?_
  refine k_seq ?_
  refine k_seq ?_
  refine k_reg ?_
  refine s_lt (t_pure (.int .i64 e)) ?_
  refine s_nil ?_
  refine xs_then ?_
  refine k_block ?_
  refine k_seq ?_
  refine k_reg ?_
  refine s_lt t_cmp ?_
  refine s_lt (t_pure (.bool (decide (e = 0)))) ?_
  refine s_nil ?_
  refine xs_then ?_
  refine k_cond (decide (e = 0)) (fun c2 => ?_) (fun c2 => ?_)
  ·
    have p3 := of_decide_eq_true c2
    refine k_seq ?_
    refine k_reg ?_
    refine s_lt (t_pure (.string ByteArray.empty)) ?_
    refine s_nil ?_
    refine xs_then ?_
    refine k_ret ?_
    refine xs_retBlock ?_
    refine xs_ret ?_
    refine xs_fin [.string ByteArray.empty] [] (SI.tmp 4 SI.nil) (fun _ h => h.re [] [0]) ⟨?_, rfl⟩
    refine congrArg Value.string ?_; simp [rdescT, join3, p3]
  ·
    have p4 := of_decide_eq_false c2
    refine k_seq ?_
    refine k_reg ?_
    refine s_lt t_cmp ?_
    refine s_lt (t_pure (.bool (decide (e = 15)))) ?_
    refine s_nil ?_
    refine xs_then ?_
    refine k_cond (decide (e = 15)) (fun c5 => ?_) (fun c5 => ?_)
    ·
      have p6 := of_decide_eq_true c5
      refine k_seq ?_
      refine k_reg ?_
      refine s_lt (t_pure (.string ⟨#[99, 104, 97, 105, 110, 32, 111, 102, 32, 109, 101, 116, 97, 116, 97, 98, 108, 101, 115, 32, 116, 111, 111, 32, 108, 111, 110, 103]⟩)) ?_
      refine s_nil ?_
      refine xs_then ?_
      refine k_ret ?_
      refine xs_retBlock ?_
      refine xs_ret ?_
      refine xs_fin [.string ⟨#[99, 104, 97, 105, 110, 32, 111, 102, 32, 109, 101, 116, 97, 116, 97, 98, 108, 101, 115, 32, 116, 111, 111, 32, 108, 111, 110, 103]⟩] [] (SI.tmp 4 SI.nil) (fun _ h => h.re [] [0]) ⟨?_, rfl⟩
      refine congrArg Value.string ?_; simp [rdescT, join3, p4, p6]
    ·
      have p7 := of_decide_eq_false c5
      refine k_seq ?_
      refine k_reg ?_
      refine s_lt t_cmp ?_
      refine s_lt (t_pure (.bool (decide (e = 16)))) ?_
      refine s_nil ?_
      refine xs_then ?_
      refine k_cond (decide (e = 16)) (fun c8 => ?_) (fun c8 => ?_)
      ·
        have p9 := of_decide_eq_true c8
        refine k_seq ?_
        refine k_reg ?_
        refine s_lt (t_pure (.string ⟨#[99, 97, 110, 110, 111, 116, 32, 114, 101, 115, 117, 109, 101, 32, 110, 111, 110, 45, 115, 117, 115, 112, 101, 110, 100, 101, 100, 32, 99, 111, 114, 111, 117, 116, 105, 110, 101]⟩)) ?_
        refine s_nil ?_
        refine xs_then ?_
        refine k_ret ?_
        refine xs_retBlock ?_
        refine xs_ret ?_
        refine xs_fin [.string ⟨#[99, 97, 110, 110, 111, 116, 32, 114, 101, 115, 117, 109, 101, 32, 110, 111, 110, 45, 115, 117, 115, 112, 101, 110, 100, 101, 100, 32, 99, 111, 114, 111, 117, 116, 105, 110, 101]⟩] [] (SI.tmp 4 SI.nil) (fun _ h => h.re [] [0]) ⟨?_, rfl⟩
        refine congrArg Value.string ?_; simp [rdescT, join3, p4, p7, p9]
      ·
        have p10 := of_decide_eq_false c8
        refine k_seq ?_
        refine k_reg ?_
        refine s_lt t_cmp ?_
        refine s_lt (t_pure (.bool (decide (e = 17)))) ?_
        refine s_nil ?_
        refine xs_then ?_
        refine k_cond (decide (e = 17)) (fun c11 => ?_) (fun c11 => ?_)
        ·
          have p12 := of_decide_eq_true c11
          refine k_seq ?_
          refine k_reg ?_
          refine s_lt (t_pure (.string ⟨#[115, 116, 97, 99, 107, 32, 111, 118, 101, 114, 102, 108, 111, 119]⟩)) ?_
          refine s_nil ?_
          refine xs_then ?_
          refine k_ret ?_
          refine xs_retBlock ?_
          refine xs_ret ?_
          refine xs_fin [.string ⟨#[115, 116, 97, 99, 107, 32, 111, 118, 101, 114, 102, 108, 111, 119]⟩] [] (SI.tmp 4 SI.nil) (fun _ h => h.re [] [0]) ⟨?_, rfl⟩
          refine congrArg Value.string ?_; simp [rdescT, join3, p4, p7, p10, p12]
        ·
          have p13 := of_decide_eq_false c11
          refine k_seq ?_
          refine k_reg ?_
          refine s_lt t_cmp ?_
          refine s_lt (t_pure (.bool (decide (e = 18)))) ?_
          refine s_nil ?_
          refine xs_then ?_
          refine k_cond (decide (e = 18)) (fun c14 => ?_) (fun c14 => ?_)
          ·
            have p15 := of_decide_eq_true c14
            refine k_seq ?_
            refine k_reg ?_
            refine s_lt (t_pure (.string ⟨#[110, 111, 116, 104, 105, 110, 103, 32, 105, 115, 32, 116, 104, 101, 114, 101]⟩)) ?_
            refine s_nil ?_
            refine xs_then ?_
            refine k_ret ?_
            refine xs_retBlock ?_
            refine xs_ret ?_
            refine xs_fin [.string ⟨#[110, 111, 116, 104, 105, 110, 103, 32, 105, 115, 32, 116, 104, 101, 114, 101]⟩] [] (SI.tmp 4 SI.nil) (fun _ h => h.re [] [0]) ⟨?_, rfl⟩
            refine congrArg Value.string ?_; simp [rdescT, join3, p4, p7, p10, p13, p15]
          ·
            have p16 := of_decide_eq_false c14
            refine k_seq ?_
            refine k_reg ?_
            refine s_lt t_cmp ?_
            refine s_lt (t_pure (.bool (decide (e = 19)))) ?_
            refine s_nil ?_
            refine xs_then ?_
            refine k_cond (decide (e = 19)) (fun c17 => ?_) (fun c17 => ?_)
            ·
              have p18 := of_decide_eq_true c17
              refine k_seq ?_
              refine k_reg ?_
              refine s_lt (t_pure (.string ⟨#[99, 97, 110, 110, 111, 116, 32, 114, 101, 115, 117, 109, 101, 32, 100, 101, 97, 100, 32, 99, 111, 114, 111, 117, 116, 105, 110, 101]⟩)) ?_
              refine s_nil ?_
              refine xs_then ?_
              refine k_ret ?_
              refine xs_retBlock ?_
              refine xs_ret ?_
              refine xs_fin [.string ⟨#[99, 97, 110, 110, 111, 116, 32, 114, 101, 115, 117, 109, 101, 32, 100, 101, 97, 100, 32, 99, 111, 114, 111, 117, 116, 105, 110, 101]⟩] [] (SI.tmp 4 SI.nil) (fun _ h => h.re [] [0]) ⟨?_, rfl⟩
              refine congrArg Value.string ?_; simp [rdescT, join3, p4, p7, p10, p13, p16, p18]
            ·
              have p19 := of_decide_eq_false c17
              refine k_seq ?_
              refine k_reg ?_
              refine s_lt t_cmp ?_
              refine s_lt (t_pure (.bool (decide (e = 20)))) ?_
              refine s_nil ?_
              refine xs_then ?_
              refine k_cond (decide (e = 20)) (fun c20 => ?_) (fun c20 => ?_)
              ·
                have p21 := of_decide_eq_true c20
                refine k_seq ?_
                refine k_reg ?_
                refine s_lt (t_pure (.string ⟨#[119, 114, 111, 110, 103, 32, 99, 104, 101, 99, 107, 115, 117, 109]⟩)) ?_
                refine s_nil ?_
                refine xs_then ?_
                refine k_ret ?_
                refine xs_retBlock ?_
                refine xs_ret ?_
                refine xs_fin [.string ⟨#[119, 114, 111, 110, 103, 32, 99, 104, 101, 99, 107, 115, 117, 109]⟩] [] (SI.tmp 4 SI.nil) (fun _ h => h.re [] [0]) ⟨?_, rfl⟩
                refine congrArg Value.string ?_; simp [rdescT, join3, p4, p7, p10, p13, p16, p19, p21]
              ·
                have p22 := of_decide_eq_false c20
                refine k_seq ?_
                refine k_reg ?_
                refine s_lt t_cmp ?_
                refine s_lt (t_pure (.bool (decide (e = 21)))) ?_
                refine s_nil ?_
                refine xs_then ?_
                refine k_cond (decide (e = 21)) (fun c23 => ?_) (fun c23 => ?_)
                ·
                  have p24 := of_decide_eq_true c23
                  refine k_seq ?_
                  refine k_reg ?_
                  refine s_lt (t_pure (.string ⟨#[98, 121, 116, 101, 99, 111, 100, 101, 32, 105, 115, 32, 110, 111, 116, 32, 115, 97, 102, 101]⟩)) ?_
                  refine s_nil ?_
                  refine xs_then ?_
                  refine k_ret ?_
                  refine xs_retBlock ?_
                  refine xs_ret ?_
                  refine xs_fin [.string ⟨#[98, 121, 116, 101, 99, 111, 100, 101, 32, 105, 115, 32, 110, 111, 116, 32, 115, 97, 102, 101]⟩] [] (SI.tmp 4 SI.nil) (fun _ h => h.re [] [0]) ⟨?_, rfl⟩
                  refine congrArg Value.string ?_; simp [rdescT, join3, p4, p7, p10, p13, p16, p19, p22, p24]
                ·
                  have p25 := of_decide_eq_false c23
                  refine k_seq ?_
                  refine k_reg ?_
                  refine s_lt t_cmp ?_
                  refine s_lt (t_pure (.bool (decide (e = 22)))) ?_
                  refine s_nil ?_
                  refine xs_then ?_
                  refine k_cond (decide (e = 22)) (fun c26 => ?_) (fun c26 => ?_)
                  ·
                    have p27 := of_decide_eq_true c26
                    refine k_seq ?_
                    refine k_reg ?_
                    refine s_lt (t_pure (.string ⟨#[116, 104, 105, 110, 103, 115, 32, 100, 111, 32, 110, 111, 116, 32, 109, 97, 116, 99, 104]⟩)) ?_
                    refine s_nil ?_
                    refine xs_then ?_
                    refine k_ret ?_
                    refine xs_retBlock ?_
                    refine xs_ret ?_
                    refine xs_fin [.string ⟨#[116, 104, 105, 110, 103, 115, 32, 100, 111, 32, 110, 111, 116, 32, 109, 97, 116, 99, 104]⟩] [] (SI.tmp 4 SI.nil) (fun _ h => h.re [] [0]) ⟨?_, rfl⟩
                    refine congrArg Value.string ?_; simp [rdescT, join3, p4, p7, p10, p13, p16, p19, p22, p25, p27]
                  ·
                    have p28 := of_decide_eq_false c26
                    refine k_seq ?_
                    refine k_reg ?_
                    refine s_lt t_cmp ?_
                    refine s_lt (t_pure (.bool (decide (e = 23)))) ?_
                    refine s_nil ?_
                    refine xs_then ?_
                    refine k_cond (decide (e = 23)) (fun c29 => ?_) (fun c29 => ?_)
                    ·
                      have p30 := of_decide_eq_true c29
                      refine k_seq ?_
                      refine k_reg ?_
                      refine s_lt (t_pure (.string ⟨#[110, 111, 116, 32, 101, 110, 111, 117, 103, 104, 32, 109, 101, 109, 111, 114, 121]⟩)) ?_
                      refine s_nil ?_
                      refine xs_then ?_
                      refine k_ret ?_
                      refine xs_retBlock ?_
                      refine xs_ret ?_
                      refine xs_fin [.string ⟨#[110, 111, 116, 32, 101, 110, 111, 117, 103, 104, 32, 109, 101, 109, 111, 114, 121]⟩] [] (SI.tmp 4 SI.nil) (fun _ h => h.re [] [0]) ⟨?_, rfl⟩
                      refine congrArg Value.string ?_; simp [rdescT, join3, p4, p7, p10, p13, p16, p19, p22, p25, p28, p30]
                    ·
                      have p31 := of_decide_eq_false c29
                      refine k_seq ?_
                      refine k_reg ?_
                      refine s_lt t_cmp ?_
                      refine s_lt (t_pure (.bool (decide (e = 24)))) ?_
                      refine s_nil ?_
                      refine xs_then ?_
                      refine k_cond (decide (e = 24)) (fun c32 => ?_) (fun c32 => ?_)
                      ·
                        have p33 := of_decide_eq_true c32
                        refine k_seq ?_
                        refine k_reg ?_
                        refine s_lt (t_pure (.string ⟨#[116, 111, 111, 32, 109, 97, 110, 121, 32, 115, 116, 101, 112, 115]⟩)) ?_
                        refine s_nil ?_
                        refine xs_then ?_
                        refine k_ret ?_
                        refine xs_retBlock ?_
                        refine xs_ret ?_
                        refine xs_fin [.string ⟨#[116, 111, 111, 32, 109, 97, 110, 121, 32, 115, 116, 101, 112, 115]⟩] [] (SI.tmp 4 SI.nil) (fun _ h => h.re [] [0]) ⟨?_, rfl⟩
                        refine congrArg Value.string ?_; simp [rdescT, join3, p4, p7, p10, p13, p16, p19, p22, p25, p28, p31, p33]
                      ·
                        have p34 := of_decide_eq_false c32
                        refine k_seq ?_
                        refine k_reg ?_
                        refine s_lt t_cmp ?_
                        refine s_lt (t_pure (.bool (decide (e = 25)))) ?_
                        refine s_nil ?_
                        refine xs_then ?_
                        refine k_cond (decide (e = 25)) (fun c35 => ?_) (fun c35 => ?_)
                        ·
                          have p36 := of_decide_eq_true c35
                          refine k_seq ?_
                          refine k_reg ?_
                          refine s_lt (t_pure (.string ⟨#[97, 116, 116, 101, 109, 112, 116, 32, 116, 111, 32, 121, 105, 101, 108, 100, 32, 102, 114, 111, 109, 32, 111, 117, 116, 115, 105, 100, 101, 32, 97, 32, 99, 111, 114, 111, 117, 116, 105, 110, 101]⟩)) ?_
                          refine s_nil ?_
                          refine xs_then ?_
                          refine k_ret ?_
                          refine xs_retBlock ?_
                          refine xs_ret ?_
                          refine xs_fin [.string ⟨#[97, 116, 116, 101, 109, 112, 116, 32, 116, 111, 32, 121, 105, 101, 108, 100, 32, 102, 114, 111, 109, 32, 111, 117, 116, 115, 105, 100, 101, 32, 97, 32, 99, 111, 114, 111, 117, 116, 105, 110, 101]⟩] [] (SI.tmp 4 SI.nil) (fun _ h => h.re [] [0]) ⟨?_, rfl⟩
                          refine congrArg Value.string ?_; simp [rdescT, join3, p4, p7, p10, p13, p16, p19, p22, p25, p28, p31, p34, p36]
                        ·
                          have p37 := of_decide_eq_false c35
                          refine k_seq ?_
                          refine k_reg ?_
                          refine s_lt t_cmp ?_
                          refine s_lt (t_pure (.bool (decide (e = 26)))) ?_
                          refine s_nil ?_
                          refine xs_then ?_
                          refine k_cond (decide (e = 26)) (fun c38 => ?_) (fun c38 => ?_)
                          ·
                            have p39 := of_decide_eq_true c38
                            refine k_seq ?_
                            refine k_reg ?_
                            refine s_lt (t_pure (.string ⟨#[101, 114, 114, 111, 114, 32, 105, 110, 32, 97, 32, 115, 99, 114, 105, 112, 116]⟩)) ?_
                            refine s_nil ?_
                            refine xs_then ?_
                            refine k_ret ?_
                            refine xs_retBlock ?_
                            refine xs_ret ?_
                            refine xs_fin [.string ⟨#[101, 114, 114, 111, 114, 32, 105, 110, 32, 97, 32, 115, 99, 114, 105, 112, 116]⟩] [] (SI.tmp 4 SI.nil) (fun _ h => h.re [] [0]) ⟨?_, rfl⟩
                            refine congrArg Value.string ?_; simp [rdescT, join3, p4, p7, p10, p13, p16, p19, p22, p25, p28, p31, p34, p37, p39]
                          ·
                            have p40 := of_decide_eq_false c38
                            refine k_skip ?_
                            refine xs_block ?_
                            refine xs_then ?_
                            refine k_seq ?_
                            refine k_reg ?_
                            refine s_lt (t_pure (.int .i64 e)) ?_
                            refine s_lt (t_loadA 0 #[.int .i64 v.kind, .int .i64 v.p, .int .i64 v.q, .string v.str, .int .i64 v.ref]) ?_
                            refine s_vcall (fun _ h => rfirst_s e v) ?_
                            rintro _ rfl
                            refine s_lt (t_pure (.string (rfirstT e v.kind))) ?_
                            refine s_nil ?_
                            refine xs_then ?_
                            refine k_ret ?_
                            refine xs_fin [.string (rfirstT e v.kind)] [] (SI.tmp 4 SI.nil) (fun _ h => h.re [] [0]) ⟨?_, rfl⟩
                            refine congrArg Value.string ?_; simp [rdescT, join3, p4, p7, p10, p13, p16, p19, p22, p25, p28, p31, p34, p37, p40]
end Go.Proofs.YtiddapedgkifoaaDoor
