/-
  Values that are valid, by the program.
-/
import Derived.Test.YtdakfjdbdopmbaaDoorKL
import Derived.Test.YtdakfjdbdopmbaaDoorW1
set_option linter.unusedSimpArgs false
set_option linter.unusedVariables false
set_option maxRecDepth 100000
namespace Go.Proofs.YtdakfjdbdopmbaaDoor.St
open Go.Hp Go.J Go.S
open Go.Mem (Ty KTy blk elemAt pre suf blk_pre blk_suf aget aset strK aggDesc)
theorem valid_s {Z : Zone} (v : Vl) : SF Tryd.prog 17 #[v.v] Z [] fun r Bs => r = .bool (validB v) ∧ Bs = [] := by
  refine sf_enter Tryd.func17 74 [(0, .agg #[.int .i64 v.kind, .int .i64 v.p, .int .i64 v.q, .string v.str, .int .i64 v.ref])] (fun w0 => ?_)
  refine k_seq ?_
  refine k_reg ?_
  refine s_box #[.int .i64 v.kind, .int .i64 v.p, .int .i64 v.q, .string v.str, .int .i64 v.ref] (fun g1 => ?_)
  refine s_lt (t_pure (.bool false)) ?_
  refine s_nil ?_
  refine xs_then ?_
  refine k_seq ?_
  refine k_reg ?_
  refine s_lt (t_pure (.pointer (some ⟨g1, 0, none⟩))) ?_
  refine s_lt (t_load 0 (.int .i64 v.kind)) ?_
  refine s_lt (t_kern (.agg #[.int .i64 v.kind, .int .i64 0, .int .i64 0, .string ByteArray.empty, .int .i64 0])) ?_
  refine s_alloc (.agg #[.int .i64 0, .int .i64 0, .int .i64 0, .string ByteArray.empty, .int .i64 0]) #[.int .i64 0, .int .i64 0, .int .i64 0, .string ByteArray.empty, .int .i64 0] (fun g2 => ?_)
  refine s_store 0 #[.int .i64 v.kind, .int .i64 0, .int .i64 0, .string ByteArray.empty, .int .i64 0] ?_
  refine s_nil ?_
  refine xs_then ?_
  refine k_seq ?_
  refine k_reg ?_
  refine s_lt (t_pure (.bool true)) ?_
  refine s_nil ?_
  refine xs_then ?_
  refine k_seq ?_
  refine k_seq ?_
  refine k_reg ?_
  refine s_lt (t_pure (.pointer (some ⟨g1, 0, none⟩))) ?_
  refine s_lt (t_load 1 (.int .i64 v.kind)) ?_
  refine s_nil ?_
  refine xs_then ?_
  refine k_block ?_
  refine k_seq ?_
  refine k_reg ?_
  refine s_lt t_cmp ?_
  refine s_lt (t_pure (.bool (decide (v.kind = 0)))) ?_
  refine s_nil ?_
  refine xs_then ?_
  refine k_cond (decide (v.kind = 0)) (fun c3 => ?_) (fun c3 => ?_)
  ·
    have p4 := of_decide_eq_true c3
    refine k_skip ?_
    refine xs_block ?_
    refine xs_then ?_
    refine k_seq ?_
    refine k_reg ?_
    refine s_lt (t_pure (.bool true)) ?_
    refine s_lt (t_pure (.bool true)) ?_
    refine s_lt (t_loadA 1 #[.int .i64 v.kind, .int .i64 v.p, .int .i64 v.q, .string v.str, .int .i64 v.ref]) ?_
    refine s_lt (t_loadA 0 #[.int .i64 v.kind, .int .i64 0, .int .i64 0, .string ByteArray.empty, .int .i64 0]) ?_
    refine s_lt (t_eqS (fun w => (eqVlT v (⟨v.kind, 0, 0, ByteArray.empty, 0⟩ : Vl) w).1)) ?_
    refine s_lt (t_pure (.bool (decide (v = (⟨v.kind, 0, 0, ByteArray.empty, 0⟩ : Vl))))) ?_
    refine s_lt (t_pure (.bool (decide (v = (⟨v.kind, 0, 0, ByteArray.empty, 0⟩ : Vl))))) ?_
    refine s_nil ?_
    refine xs_then ?_
    refine k_ret ?_
    refine xs_fin [.bool (decide (v = (⟨v.kind, 0, 0, ByteArray.empty, 0⟩ : Vl)))] [] (SI.tmp 2 SI.nil) (fun _ h => h.re [] [0, 0]) ⟨?_, rfl⟩
    refine congrArg Value.bool ?_
    first | (simp [validB, p4]; done) | (rw [Bool.and_comm]; simp [validB, p4]; done) | (rw [Bool.eq_iff_iff]; simp [validB, p4, and_comm, and_left_comm, and_assoc]; done)
  ·
    have p5 := of_decide_eq_false c3
    refine k_seq ?_
    refine k_reg ?_
    refine s_lt t_cmp ?_
    refine s_lt (t_pure (.bool (decide (v.kind = 1)))) ?_
    refine s_nil ?_
    refine xs_then ?_
    refine k_cond (decide (v.kind = 1)) (fun c6 => ?_) (fun c6 => ?_)
    ·
      have p7 := of_decide_eq_true c6
      refine k_seq ?_
      refine k_reg ?_
      refine s_lt (t_pure (.pointer (some ⟨g1, 4, none⟩))) ?_
      refine s_lt (t_load 1 (.int .i64 v.ref)) ?_
      refine s_lt (t_pure (.pointer (some ⟨g2, 4, none⟩))) ?_
      refine s_store 0 #[.int .i64 v.kind, .int .i64 0, .int .i64 0, .string ByteArray.empty, .int .i64 v.ref] ?_
      refine s_nil ?_
      refine xs_then ?_
      refine k_reg ?_
      refine s_lt (t_pure (.pointer (some ⟨g1, 4, none⟩))) ?_
      refine s_lt (t_load 1 (.int .i64 v.ref)) ?_
      refine s_lt t_cmp ?_
      refine s_lt (t_pure (.bool (decide (v.ref = 0)))) ?_
      refine s_fork 20 (decide (v.ref = 0)) (fun c8 => ?_) (fun c8 => ?_)
      ·
        have p9 := of_decide_eq_true c8
        refine s_skip ?_
        refine s_skip ?_
        refine s_skip ?_
        refine s_lt (t_pure (.bool true)) ?_
        refine s_lt (t_pure (.bool true)) ?_
        refine s_nil ?_
        refine xs_block ?_
        refine xs_then ?_
        refine k_seq ?_
        refine k_reg ?_
        refine s_lt (t_pure (.bool true)) ?_
        refine s_lt (t_pure (.bool true)) ?_
        refine s_lt (t_loadA 1 #[.int .i64 v.kind, .int .i64 v.p, .int .i64 v.q, .string v.str, .int .i64 v.ref]) ?_
        refine s_lt (t_loadA 0 #[.int .i64 v.kind, .int .i64 0, .int .i64 0, .string ByteArray.empty, .int .i64 v.ref]) ?_
        refine s_lt (t_eqS (fun w => (eqVlT v (⟨v.kind, 0, 0, ByteArray.empty, v.ref⟩ : Vl) w).1)) ?_
        refine s_lt (t_pure (.bool (decide (v = (⟨v.kind, 0, 0, ByteArray.empty, v.ref⟩ : Vl))))) ?_
        refine s_lt (t_pure (.bool (decide (v = (⟨v.kind, 0, 0, ByteArray.empty, v.ref⟩ : Vl))))) ?_
        refine s_nil ?_
        refine xs_then ?_
        refine k_ret ?_
        refine xs_fin [.bool (decide (v = (⟨v.kind, 0, 0, ByteArray.empty, v.ref⟩ : Vl)))] [] (SI.tmp 2 SI.nil) (fun _ h => h.re [] [0, 0]) ⟨?_, rfl⟩
        refine congrArg Value.bool ?_
        first | (simp [validB, p5, p7, p9]; done) | (rw [Bool.and_comm]; simp [validB, p5, p7, p9]; done) | (rw [Bool.eq_iff_iff]; simp [validB, p5, p7, p9, and_comm, and_left_comm, and_assoc]; done)
      ·
        have p10 := of_decide_eq_false c8
        refine s_lt (t_pure (.pointer (some ⟨g1, 4, none⟩))) ?_
        refine s_lt (t_load 1 (.int .i64 v.ref)) ?_
        refine s_lt t_cmp ?_
        refine s_lt (t_pure (.bool (decide (v.ref = 1)))) ?_
        refine s_lt (t_pure (.bool (decide (v.ref = 1)))) ?_
        refine s_nil ?_
        refine xs_block ?_
        refine xs_then ?_
        refine k_cut (ι := Unit) (fun _ => True) (fun _ => [(2, .bool ((decide (v.ref = 1)) && (decide (v = (⟨v.kind, 0, 0, ByteArray.empty, v.ref⟩ : Vl)))))]) (fun _ => [blkA g2 #[.int .i64 v.kind, .int .i64 0, .int .i64 0, .string ByteArray.empty, .int .i64 v.ref] 39, blkA g1 #[.int .i64 v.kind, .int .i64 v.p, .int .i64 v.q, .string v.str, .int .i64 v.ref] 39]) ?_ (fun _ _ => ?_)
        ·
          refine k_reg ?_
          refine s_lt (t_pure (.bool (decide (v.ref = 1)))) ?_
          refine s_lt (t_pure (.bool (decide (v.ref = 1)))) ?_
          refine s_fork 69 (decide (v.ref = 1)) (fun c11 => ?_) (fun c11 => ?_)
          ·
            have p12 := of_decide_eq_true c11
            refine s_lt (t_loadA 1 #[.int .i64 v.kind, .int .i64 v.p, .int .i64 v.q, .string v.str, .int .i64 v.ref]) ?_
            refine s_lt (t_loadA 0 #[.int .i64 v.kind, .int .i64 0, .int .i64 0, .string ByteArray.empty, .int .i64 v.ref]) ?_
            refine s_lt (t_eqS (fun w => (eqVlT v (⟨v.kind, 0, 0, ByteArray.empty, v.ref⟩ : Vl) w).1)) ?_
            refine s_lt (t_pure (.bool (decide (v = (⟨v.kind, 0, 0, ByteArray.empty, v.ref⟩ : Vl))))) ?_
            refine s_lt (t_pure (.bool (decide (v = (⟨v.kind, 0, 0, ByteArray.empty, v.ref⟩ : Vl))))) ?_
            refine s_nil ?_
            exact xs_cut () trivial (sub_of rfl ⟨⟨rfl, show Value.bool (decide (v = (⟨v.kind, 0, 0, ByteArray.empty, v.ref⟩ : Vl))) = Value.bool ((decide (v.ref = 1)) && (decide (v = (⟨v.kind, 0, 0, ByteArray.empty, v.ref⟩ : Vl)))) by first | (simp only [c11, Bool.true_and, Bool.false_and, Bool.and_true, Bool.and_false, Bool.true_or, Bool.or_true, Bool.false_or, Bool.or_false, Bool.not_true, Bool.not_false]; done) | simp [c11]⟩, trivial⟩) (fun _ h => h.re [0, 0] [])
          ·
            have p13 := of_decide_eq_false c11
            refine s_skip ?_
            refine s_skip ?_
            refine s_skip ?_
            refine s_lt (t_pure (.bool false)) ?_
            refine s_lt (t_pure (.bool false)) ?_
            refine s_nil ?_
            exact xs_cut () trivial (sub_of rfl ⟨⟨rfl, show Value.bool false = Value.bool ((decide (v.ref = 1)) && (decide (v = (⟨v.kind, 0, 0, ByteArray.empty, v.ref⟩ : Vl)))) by first | (simp only [c11, Bool.true_and, Bool.false_and, Bool.and_true, Bool.and_false, Bool.true_or, Bool.or_true, Bool.false_or, Bool.or_false, Bool.not_true, Bool.not_false]; done) | simp [c11]⟩, trivial⟩) (fun _ h => h.re [0, 0] [])
        ·
          refine k_ret ?_
          refine xs_fin [.bool ((decide (v.ref = 1)) && (decide (v = (⟨v.kind, 0, 0, ByteArray.empty, v.ref⟩ : Vl))))] [] (SI.tmp 2 SI.nil) (fun _ h => h.re [] [0, 0]) ⟨?_, rfl⟩
          refine congrArg Value.bool ?_
          first | (simp [validB, p5, p7, p10]; done) | (rw [Bool.and_comm]; simp [validB, p5, p7, p10]; done) | (rw [Bool.eq_iff_iff]; simp [validB, p5, p7, p10, and_comm, and_left_comm, and_assoc]; done)
    ·
      have p14 := of_decide_eq_false c6
      refine k_seq ?_
      refine k_reg ?_
      refine s_lt t_cmp ?_
      refine s_lt (t_pure (.bool (decide (v.kind = 2)))) ?_
      refine s_nil ?_
      refine xs_then ?_
      refine k_cond (decide (v.kind = 2)) (fun c15 => ?_) (fun c15 => ?_)
      ·
        have p16 := of_decide_eq_true c15
        refine k_seq ?_
        refine k_reg ?_
        refine s_lt (t_pure (.pointer (some ⟨g1, 1, none⟩))) ?_
        refine s_lt (t_loadA 1 #[.int .i64 v.p, .int .i64 v.q]) ?_
        refine s_lt (t_pure (.pointer (some ⟨g2, 1, none⟩))) ?_
        refine s_store 0 #[.int .i64 v.kind, .int .i64 v.p, .int .i64 v.q, .string ByteArray.empty, .int .i64 0] ?_
        refine s_nil ?_
        refine xs_then ?_
        refine k_reg ?_
        refine s_lt (t_pure (.pointer (some ⟨g1, 1, none⟩))) ?_
        refine s_lt (t_loadA 1 #[.int .i64 v.p, .int .i64 v.q]) ?_
        refine s_vcall (fun _ h => vnum_s v.p v.q) ?_
        rintro _ rfl
        refine s_lt (t_pure (.bool (validN v.p v.q))) ?_
        refine s_nil ?_
        refine xs_block ?_
        refine xs_then ?_
        refine k_cut (ι := Unit) (fun _ => True) (fun _ => [(2, .bool ((validN v.p v.q) && (decide (v = (⟨v.kind, v.p, v.q, ByteArray.empty, 0⟩ : Vl)))))]) (fun _ => [blkA g2 #[.int .i64 v.kind, .int .i64 v.p, .int .i64 v.q, .string ByteArray.empty, .int .i64 0] 39, blkA g1 #[.int .i64 v.kind, .int .i64 v.p, .int .i64 v.q, .string v.str, .int .i64 v.ref] 39]) ?_ (fun _ _ => ?_)
        ·
          refine k_reg ?_
          refine s_lt (t_pure (.bool (validN v.p v.q))) ?_
          refine s_lt (t_pure (.bool (validN v.p v.q))) ?_
          refine s_fork 69 (validN v.p v.q) (fun c17 => ?_) (fun c17 => ?_)
          ·
            refine s_lt (t_loadA 1 #[.int .i64 v.kind, .int .i64 v.p, .int .i64 v.q, .string v.str, .int .i64 v.ref]) ?_
            refine s_lt (t_loadA 0 #[.int .i64 v.kind, .int .i64 v.p, .int .i64 v.q, .string ByteArray.empty, .int .i64 0]) ?_
            refine s_lt (t_eqS (fun w => (eqVlT v (⟨v.kind, v.p, v.q, ByteArray.empty, 0⟩ : Vl) w).1)) ?_
            refine s_lt (t_pure (.bool (decide (v = (⟨v.kind, v.p, v.q, ByteArray.empty, 0⟩ : Vl))))) ?_
            refine s_lt (t_pure (.bool (decide (v = (⟨v.kind, v.p, v.q, ByteArray.empty, 0⟩ : Vl))))) ?_
            refine s_nil ?_
            exact xs_cut () trivial (sub_of rfl ⟨⟨rfl, show Value.bool (decide (v = (⟨v.kind, v.p, v.q, ByteArray.empty, 0⟩ : Vl))) = Value.bool ((validN v.p v.q) && (decide (v = (⟨v.kind, v.p, v.q, ByteArray.empty, 0⟩ : Vl)))) by first | (simp only [c17, Bool.true_and, Bool.false_and, Bool.and_true, Bool.and_false, Bool.true_or, Bool.or_true, Bool.false_or, Bool.or_false, Bool.not_true, Bool.not_false]; done) | simp [c17]⟩, trivial⟩) (fun _ h => h.re [0, 0] [])
          ·
            refine s_skip ?_
            refine s_skip ?_
            refine s_skip ?_
            refine s_lt (t_pure (.bool false)) ?_
            refine s_lt (t_pure (.bool false)) ?_
            refine s_nil ?_
            exact xs_cut () trivial (sub_of rfl ⟨⟨rfl, show Value.bool false = Value.bool ((validN v.p v.q) && (decide (v = (⟨v.kind, v.p, v.q, ByteArray.empty, 0⟩ : Vl)))) by first | (simp only [c17, Bool.true_and, Bool.false_and, Bool.and_true, Bool.and_false, Bool.true_or, Bool.or_true, Bool.false_or, Bool.or_false, Bool.not_true, Bool.not_false]; done) | simp [c17]⟩, trivial⟩) (fun _ h => h.re [0, 0] [])
        ·
          refine k_ret ?_
          refine xs_fin [.bool ((validN v.p v.q) && (decide (v = (⟨v.kind, v.p, v.q, ByteArray.empty, 0⟩ : Vl))))] [] (SI.tmp 2 SI.nil) (fun _ h => h.re [] [0, 0]) ⟨?_, rfl⟩
          refine congrArg Value.bool ?_
          first | (simp [validB, p5, p14, p16]; done) | (rw [Bool.and_comm]; simp [validB, p5, p14, p16]; done) | (rw [Bool.eq_iff_iff]; simp [validB, p5, p14, p16, and_comm, and_left_comm, and_assoc]; done)
      ·
        have p18 := of_decide_eq_false c15
        refine k_seq ?_
        refine k_reg ?_
        refine s_lt t_cmp ?_
        refine s_lt (t_pure (.bool (decide (v.kind = 3)))) ?_
        refine s_nil ?_
        refine xs_then ?_
        refine k_cond (decide (v.kind = 3)) (fun c19 => ?_) (fun c19 => ?_)
        ·
          have p20 := of_decide_eq_true c19
          refine k_seq ?_
          refine k_reg ?_
          refine s_lt (t_pure (.pointer (some ⟨g1, 3, none⟩))) ?_
          refine s_lt (t_load 1 (.string v.str)) ?_
          refine s_lt (t_pure (.pointer (some ⟨g2, 3, none⟩))) ?_
          refine s_store 0 #[.int .i64 v.kind, .int .i64 0, .int .i64 0, .string v.str, .int .i64 0] ?_
          refine s_nil ?_
          refine xs_then ?_
          refine k_reg ?_
          refine s_lt (t_pure (.pointer (some ⟨g1, 3, none⟩))) ?_
          refine s_lt (t_load 1 (.string v.str)) ?_
          refine s_lt (t_kern (.int .i64 (v.str.size : Int))) ?_
          refine s_lt t_cmp ?_
          refine s_lt (t_pure (.bool (decide ((v.str.size : Int) ≤ 4096)))) ?_
          refine s_nil ?_
          refine xs_block ?_
          refine xs_then ?_
          refine k_cut (ι := Unit) (fun _ => True) (fun _ => [(2, .bool ((decide ((v.str.size : Int) ≤ 4096)) && (decide (v = (⟨v.kind, 0, 0, v.str, 0⟩ : Vl)))))]) (fun _ => [blkA g2 #[.int .i64 v.kind, .int .i64 0, .int .i64 0, .string v.str, .int .i64 0] 39, blkA g1 #[.int .i64 v.kind, .int .i64 v.p, .int .i64 v.q, .string v.str, .int .i64 v.ref] 39]) ?_ (fun _ _ => ?_)
          ·
            refine k_reg ?_
            refine s_lt (t_pure (.bool (decide ((v.str.size : Int) ≤ 4096)))) ?_
            refine s_lt (t_pure (.bool (decide ((v.str.size : Int) ≤ 4096)))) ?_
            refine s_fork 69 (decide ((v.str.size : Int) ≤ 4096)) (fun c21 => ?_) (fun c21 => ?_)
            ·
              have p22 := of_decide_eq_true c21
              refine s_lt (t_loadA 1 #[.int .i64 v.kind, .int .i64 v.p, .int .i64 v.q, .string v.str, .int .i64 v.ref]) ?_
              refine s_lt (t_loadA 0 #[.int .i64 v.kind, .int .i64 0, .int .i64 0, .string v.str, .int .i64 0]) ?_
              refine s_lt (t_eqS (fun w => (eqVlT v (⟨v.kind, 0, 0, v.str, 0⟩ : Vl) w).1)) ?_
              refine s_lt (t_pure (.bool (decide (v = (⟨v.kind, 0, 0, v.str, 0⟩ : Vl))))) ?_
              refine s_lt (t_pure (.bool (decide (v = (⟨v.kind, 0, 0, v.str, 0⟩ : Vl))))) ?_
              refine s_nil ?_
              exact xs_cut () trivial (sub_of rfl ⟨⟨rfl, show Value.bool (decide (v = (⟨v.kind, 0, 0, v.str, 0⟩ : Vl))) = Value.bool ((decide ((v.str.size : Int) ≤ 4096)) && (decide (v = (⟨v.kind, 0, 0, v.str, 0⟩ : Vl)))) by first | (simp only [c21, Bool.true_and, Bool.false_and, Bool.and_true, Bool.and_false, Bool.true_or, Bool.or_true, Bool.false_or, Bool.or_false, Bool.not_true, Bool.not_false]; done) | simp [c21]⟩, trivial⟩) (fun _ h => h.re [0, 0] [])
            ·
              have p23 := of_decide_eq_false c21
              refine s_skip ?_
              refine s_skip ?_
              refine s_skip ?_
              refine s_lt (t_pure (.bool false)) ?_
              refine s_lt (t_pure (.bool false)) ?_
              refine s_nil ?_
              exact xs_cut () trivial (sub_of rfl ⟨⟨rfl, show Value.bool false = Value.bool ((decide ((v.str.size : Int) ≤ 4096)) && (decide (v = (⟨v.kind, 0, 0, v.str, 0⟩ : Vl)))) by first | (simp only [c21, Bool.true_and, Bool.false_and, Bool.and_true, Bool.and_false, Bool.true_or, Bool.or_true, Bool.false_or, Bool.or_false, Bool.not_true, Bool.not_false]; done) | simp [c21]⟩, trivial⟩) (fun _ h => h.re [0, 0] [])
          ·
            refine k_ret ?_
            refine xs_fin [.bool ((decide ((v.str.size : Int) ≤ 4096)) && (decide (v = (⟨v.kind, 0, 0, v.str, 0⟩ : Vl))))] [] (SI.tmp 2 SI.nil) (fun _ h => h.re [] [0, 0]) ⟨?_, rfl⟩
            refine congrArg Value.bool ?_
            first | (simp [validB, p5, p14, p18, p20]; done) | (rw [Bool.and_comm]; simp [validB, p5, p14, p18, p20]; done) | (rw [Bool.eq_iff_iff]; simp [validB, p5, p14, p18, p20, and_comm, and_left_comm, and_assoc]; done)
        ·
          have p24 := of_decide_eq_false c19
          refine k_seq ?_
          refine k_seq ?_
          refine k_reg ?_
          refine s_lt t_cmp ?_
          refine s_lt (t_pure (.bool (decide (v.kind = 4)))) ?_
          refine s_nil ?_
          refine xs_then ?_
          refine k_cond (decide (v.kind = 4)) (fun c25 => ?_) (fun c25 => ?_)
          ·
            have p26 := of_decide_eq_true c25
            refine k_skip ?_
            refine xs_then ?_
            refine k_true (hv := congrArg Value.bool c25) ?_
            refine k_seq ?_
            refine k_reg ?_
            refine s_lt (t_pure (.pointer (some ⟨g1, 4, none⟩))) ?_
            refine s_lt (t_load 1 (.int .i64 v.ref)) ?_
            refine s_lt (t_pure (.pointer (some ⟨g2, 4, none⟩))) ?_
            refine s_store 0 #[.int .i64 v.kind, .int .i64 0, .int .i64 0, .string ByteArray.empty, .int .i64 v.ref] ?_
            refine s_nil ?_
            refine xs_then ?_
            refine k_reg ?_
            refine s_lt (t_pure (.pointer (some ⟨g1, 4, none⟩))) ?_
            refine s_lt (t_load 1 (.int .i64 v.ref)) ?_
            refine s_lt t_cmp ?_
            refine s_lt (t_pure (.bool (decide ((1 : Int) ≤ v.ref)))) ?_
            refine s_nil ?_
            refine xs_block ?_
            refine xs_then ?_
            refine k_cut (ι := Unit) (fun _ => True) (fun _ => [(2, .bool ((decide ((1 : Int) ≤ v.ref)) && (decide (v = (⟨v.kind, 0, 0, ByteArray.empty, v.ref⟩ : Vl)))))]) (fun _ => [blkA g2 #[.int .i64 v.kind, .int .i64 0, .int .i64 0, .string ByteArray.empty, .int .i64 v.ref] 39, blkA g1 #[.int .i64 v.kind, .int .i64 v.p, .int .i64 v.q, .string v.str, .int .i64 v.ref] 39]) ?_ (fun _ _ => ?_)
            ·
              refine k_reg ?_
              refine s_lt (t_pure (.bool (decide ((1 : Int) ≤ v.ref)))) ?_
              refine s_lt (t_pure (.bool (decide ((1 : Int) ≤ v.ref)))) ?_
              refine s_fork 69 (decide ((1 : Int) ≤ v.ref)) (fun c27 => ?_) (fun c27 => ?_)
              ·
                have p28 := of_decide_eq_true c27
                refine s_lt (t_loadA 1 #[.int .i64 v.kind, .int .i64 v.p, .int .i64 v.q, .string v.str, .int .i64 v.ref]) ?_
                refine s_lt (t_loadA 0 #[.int .i64 v.kind, .int .i64 0, .int .i64 0, .string ByteArray.empty, .int .i64 v.ref]) ?_
                refine s_lt (t_eqS (fun w => (eqVlT v (⟨v.kind, 0, 0, ByteArray.empty, v.ref⟩ : Vl) w).1)) ?_
                refine s_lt (t_pure (.bool (decide (v = (⟨v.kind, 0, 0, ByteArray.empty, v.ref⟩ : Vl))))) ?_
                refine s_lt (t_pure (.bool (decide (v = (⟨v.kind, 0, 0, ByteArray.empty, v.ref⟩ : Vl))))) ?_
                refine s_nil ?_
                exact xs_cut () trivial (sub_of rfl ⟨⟨rfl, show Value.bool (decide (v = (⟨v.kind, 0, 0, ByteArray.empty, v.ref⟩ : Vl))) = Value.bool ((decide ((1 : Int) ≤ v.ref)) && (decide (v = (⟨v.kind, 0, 0, ByteArray.empty, v.ref⟩ : Vl)))) by first | (simp only [c27, Bool.true_and, Bool.false_and, Bool.and_true, Bool.and_false, Bool.true_or, Bool.or_true, Bool.false_or, Bool.or_false, Bool.not_true, Bool.not_false]; done) | simp [c27]⟩, trivial⟩) (fun _ h => h.re [0, 0] [])
              ·
                have p29 := of_decide_eq_false c27
                refine s_skip ?_
                refine s_skip ?_
                refine s_skip ?_
                refine s_lt (t_pure (.bool false)) ?_
                refine s_lt (t_pure (.bool false)) ?_
                refine s_nil ?_
                exact xs_cut () trivial (sub_of rfl ⟨⟨rfl, show Value.bool false = Value.bool ((decide ((1 : Int) ≤ v.ref)) && (decide (v = (⟨v.kind, 0, 0, ByteArray.empty, v.ref⟩ : Vl)))) by first | (simp only [c27, Bool.true_and, Bool.false_and, Bool.and_true, Bool.and_false, Bool.true_or, Bool.or_true, Bool.false_or, Bool.or_false, Bool.not_true, Bool.not_false]; done) | simp [c27]⟩, trivial⟩) (fun _ h => h.re [0, 0] [])
            ·
              refine k_ret ?_
              refine xs_fin [.bool ((decide ((1 : Int) ≤ v.ref)) && (decide (v = (⟨v.kind, 0, 0, ByteArray.empty, v.ref⟩ : Vl))))] [] (SI.tmp 2 SI.nil) (fun _ h => h.re [] [0, 0]) ⟨?_, rfl⟩
              refine congrArg Value.bool ?_
              first | (simp [validB, p5, p14, p18, p24, p26]; done) | (rw [Bool.and_comm]; simp [validB, p5, p14, p18, p24, p26]; done) | (rw [Bool.eq_iff_iff]; simp [validB, p5, p14, p18, p24, p26, and_comm, and_left_comm, and_assoc]; done)
          ·
            have p30 := of_decide_eq_false c25
            refine k_seq ?_
            refine k_reg ?_
            refine s_lt t_cmp ?_
            refine s_lt (t_pure (.bool (decide (v.kind = 5)))) ?_
            refine s_nil ?_
            refine xs_then ?_
            refine k_cond (decide (v.kind = 5)) (fun c31 => ?_) (fun c31 => ?_)
            ·
              have p32 := of_decide_eq_true c31
              refine k_skip ?_
              refine xs_then ?_
              refine k_true (hv := congrArg Value.bool c31) ?_
              refine k_seq ?_
              refine k_reg ?_
              refine s_lt (t_pure (.pointer (some ⟨g1, 4, none⟩))) ?_
              refine s_lt (t_load 1 (.int .i64 v.ref)) ?_
              refine s_lt (t_pure (.pointer (some ⟨g2, 4, none⟩))) ?_
              refine s_store 0 #[.int .i64 v.kind, .int .i64 0, .int .i64 0, .string ByteArray.empty, .int .i64 v.ref] ?_
              refine s_nil ?_
              refine xs_then ?_
              refine k_reg ?_
              refine s_lt (t_pure (.pointer (some ⟨g1, 4, none⟩))) ?_
              refine s_lt (t_load 1 (.int .i64 v.ref)) ?_
              refine s_lt t_cmp ?_
              refine s_lt (t_pure (.bool (decide ((1 : Int) ≤ v.ref)))) ?_
              refine s_nil ?_
              refine xs_block ?_
              refine xs_then ?_
              refine k_cut (ι := Unit) (fun _ => True) (fun _ => [(2, .bool ((decide ((1 : Int) ≤ v.ref)) && (decide (v = (⟨v.kind, 0, 0, ByteArray.empty, v.ref⟩ : Vl)))))]) (fun _ => [blkA g2 #[.int .i64 v.kind, .int .i64 0, .int .i64 0, .string ByteArray.empty, .int .i64 v.ref] 39, blkA g1 #[.int .i64 v.kind, .int .i64 v.p, .int .i64 v.q, .string v.str, .int .i64 v.ref] 39]) ?_ (fun _ _ => ?_)
              ·
                refine k_reg ?_
                refine s_lt (t_pure (.bool (decide ((1 : Int) ≤ v.ref)))) ?_
                refine s_lt (t_pure (.bool (decide ((1 : Int) ≤ v.ref)))) ?_
                refine s_fork 69 (decide ((1 : Int) ≤ v.ref)) (fun c33 => ?_) (fun c33 => ?_)
                ·
                  have p34 := of_decide_eq_true c33
                  refine s_lt (t_loadA 1 #[.int .i64 v.kind, .int .i64 v.p, .int .i64 v.q, .string v.str, .int .i64 v.ref]) ?_
                  refine s_lt (t_loadA 0 #[.int .i64 v.kind, .int .i64 0, .int .i64 0, .string ByteArray.empty, .int .i64 v.ref]) ?_
                  refine s_lt (t_eqS (fun w => (eqVlT v (⟨v.kind, 0, 0, ByteArray.empty, v.ref⟩ : Vl) w).1)) ?_
                  refine s_lt (t_pure (.bool (decide (v = (⟨v.kind, 0, 0, ByteArray.empty, v.ref⟩ : Vl))))) ?_
                  refine s_lt (t_pure (.bool (decide (v = (⟨v.kind, 0, 0, ByteArray.empty, v.ref⟩ : Vl))))) ?_
                  refine s_nil ?_
                  exact xs_cut () trivial (sub_of rfl ⟨⟨rfl, show Value.bool (decide (v = (⟨v.kind, 0, 0, ByteArray.empty, v.ref⟩ : Vl))) = Value.bool ((decide ((1 : Int) ≤ v.ref)) && (decide (v = (⟨v.kind, 0, 0, ByteArray.empty, v.ref⟩ : Vl)))) by first | (simp only [c33, Bool.true_and, Bool.false_and, Bool.and_true, Bool.and_false, Bool.true_or, Bool.or_true, Bool.false_or, Bool.or_false, Bool.not_true, Bool.not_false]; done) | simp [c33]⟩, trivial⟩) (fun _ h => h.re [0, 0] [])
                ·
                  have p35 := of_decide_eq_false c33
                  refine s_skip ?_
                  refine s_skip ?_
                  refine s_skip ?_
                  refine s_lt (t_pure (.bool false)) ?_
                  refine s_lt (t_pure (.bool false)) ?_
                  refine s_nil ?_
                  exact xs_cut () trivial (sub_of rfl ⟨⟨rfl, show Value.bool false = Value.bool ((decide ((1 : Int) ≤ v.ref)) && (decide (v = (⟨v.kind, 0, 0, ByteArray.empty, v.ref⟩ : Vl)))) by first | (simp only [c33, Bool.true_and, Bool.false_and, Bool.and_true, Bool.and_false, Bool.true_or, Bool.or_true, Bool.false_or, Bool.or_false, Bool.not_true, Bool.not_false]; done) | simp [c33]⟩, trivial⟩) (fun _ h => h.re [0, 0] [])
              ·
                refine k_ret ?_
                refine xs_fin [.bool ((decide ((1 : Int) ≤ v.ref)) && (decide (v = (⟨v.kind, 0, 0, ByteArray.empty, v.ref⟩ : Vl))))] [] (SI.tmp 2 SI.nil) (fun _ h => h.re [] [0, 0]) ⟨?_, rfl⟩
                refine congrArg Value.bool ?_
                first | (simp [validB, p5, p14, p18, p24, p30, p32]; done) | (rw [Bool.and_comm]; simp [validB, p5, p14, p18, p24, p30, p32]; done) | (rw [Bool.eq_iff_iff]; simp [validB, p5, p14, p18, p24, p30, p32, and_comm, and_left_comm, and_assoc]; done)
            ·
              have p36 := of_decide_eq_false c31
              refine k_seq ?_
              refine k_reg ?_
              refine s_lt t_cmp ?_
              refine s_lt (t_pure (.bool (decide (v.kind = 7)))) ?_
              refine s_nil ?_
              refine xs_then ?_
              refine k_cond (decide (v.kind = 7)) (fun c37 => ?_) (fun c37 => ?_)
              ·
                have p38 := of_decide_eq_true c37
                refine k_skip ?_
                refine xs_then ?_
                refine k_true (hv := congrArg Value.bool c37) ?_
                refine k_seq ?_
                refine k_reg ?_
                refine s_lt (t_pure (.pointer (some ⟨g1, 4, none⟩))) ?_
                refine s_lt (t_load 1 (.int .i64 v.ref)) ?_
                refine s_lt (t_pure (.pointer (some ⟨g2, 4, none⟩))) ?_
                refine s_store 0 #[.int .i64 v.kind, .int .i64 0, .int .i64 0, .string ByteArray.empty, .int .i64 v.ref] ?_
                refine s_nil ?_
                refine xs_then ?_
                refine k_reg ?_
                refine s_lt (t_pure (.pointer (some ⟨g1, 4, none⟩))) ?_
                refine s_lt (t_load 1 (.int .i64 v.ref)) ?_
                refine s_lt t_cmp ?_
                refine s_lt (t_pure (.bool (decide ((1 : Int) ≤ v.ref)))) ?_
                refine s_nil ?_
                refine xs_block ?_
                refine xs_then ?_
                refine k_cut (ι := Unit) (fun _ => True) (fun _ => [(2, .bool ((decide ((1 : Int) ≤ v.ref)) && (decide (v = (⟨v.kind, 0, 0, ByteArray.empty, v.ref⟩ : Vl)))))]) (fun _ => [blkA g2 #[.int .i64 v.kind, .int .i64 0, .int .i64 0, .string ByteArray.empty, .int .i64 v.ref] 39, blkA g1 #[.int .i64 v.kind, .int .i64 v.p, .int .i64 v.q, .string v.str, .int .i64 v.ref] 39]) ?_ (fun _ _ => ?_)
                ·
                  refine k_reg ?_
                  refine s_lt (t_pure (.bool (decide ((1 : Int) ≤ v.ref)))) ?_
                  refine s_lt (t_pure (.bool (decide ((1 : Int) ≤ v.ref)))) ?_
                  refine s_fork 69 (decide ((1 : Int) ≤ v.ref)) (fun c39 => ?_) (fun c39 => ?_)
                  ·
                    have p40 := of_decide_eq_true c39
                    refine s_lt (t_loadA 1 #[.int .i64 v.kind, .int .i64 v.p, .int .i64 v.q, .string v.str, .int .i64 v.ref]) ?_
                    refine s_lt (t_loadA 0 #[.int .i64 v.kind, .int .i64 0, .int .i64 0, .string ByteArray.empty, .int .i64 v.ref]) ?_
                    refine s_lt (t_eqS (fun w => (eqVlT v (⟨v.kind, 0, 0, ByteArray.empty, v.ref⟩ : Vl) w).1)) ?_
                    refine s_lt (t_pure (.bool (decide (v = (⟨v.kind, 0, 0, ByteArray.empty, v.ref⟩ : Vl))))) ?_
                    refine s_lt (t_pure (.bool (decide (v = (⟨v.kind, 0, 0, ByteArray.empty, v.ref⟩ : Vl))))) ?_
                    refine s_nil ?_
                    exact xs_cut () trivial (sub_of rfl ⟨⟨rfl, show Value.bool (decide (v = (⟨v.kind, 0, 0, ByteArray.empty, v.ref⟩ : Vl))) = Value.bool ((decide ((1 : Int) ≤ v.ref)) && (decide (v = (⟨v.kind, 0, 0, ByteArray.empty, v.ref⟩ : Vl)))) by first | (simp only [c39, Bool.true_and, Bool.false_and, Bool.and_true, Bool.and_false, Bool.true_or, Bool.or_true, Bool.false_or, Bool.or_false, Bool.not_true, Bool.not_false]; done) | simp [c39]⟩, trivial⟩) (fun _ h => h.re [0, 0] [])
                  ·
                    have p41 := of_decide_eq_false c39
                    refine s_skip ?_
                    refine s_skip ?_
                    refine s_skip ?_
                    refine s_lt (t_pure (.bool false)) ?_
                    refine s_lt (t_pure (.bool false)) ?_
                    refine s_nil ?_
                    exact xs_cut () trivial (sub_of rfl ⟨⟨rfl, show Value.bool false = Value.bool ((decide ((1 : Int) ≤ v.ref)) && (decide (v = (⟨v.kind, 0, 0, ByteArray.empty, v.ref⟩ : Vl)))) by first | (simp only [c39, Bool.true_and, Bool.false_and, Bool.and_true, Bool.and_false, Bool.true_or, Bool.or_true, Bool.false_or, Bool.or_false, Bool.not_true, Bool.not_false]; done) | simp [c39]⟩, trivial⟩) (fun _ h => h.re [0, 0] [])
                ·
                  refine k_ret ?_
                  refine xs_fin [.bool ((decide ((1 : Int) ≤ v.ref)) && (decide (v = (⟨v.kind, 0, 0, ByteArray.empty, v.ref⟩ : Vl))))] [] (SI.tmp 2 SI.nil) (fun _ h => h.re [] [0, 0]) ⟨?_, rfl⟩
                  refine congrArg Value.bool ?_
                  first | (simp [validB, p5, p14, p18, p24, p30, p36, p38]; done) | (rw [Bool.and_comm]; simp [validB, p5, p14, p18, p24, p30, p36, p38]; done) | (rw [Bool.eq_iff_iff]; simp [validB, p5, p14, p18, p24, p30, p36, p38, and_comm, and_left_comm, and_assoc]; done)
              ·
                have p42 := of_decide_eq_false c37
                refine k_reg ?_
                refine s_lt t_cmp ?_
                refine s_lt (t_pure (.bool (decide (v.kind = 8)))) ?_
                refine s_nil ?_
                refine xs_then ?_
                refine k_cond (decide (v.kind = 8)) (fun c43 => ?_) (fun c43 => ?_)
                ·
                  have p44 := of_decide_eq_true c43
                  refine k_seq ?_
                  refine k_reg ?_
                  refine s_lt (t_pure (.pointer (some ⟨g1, 4, none⟩))) ?_
                  refine s_lt (t_load 1 (.int .i64 v.ref)) ?_
                  refine s_lt (t_pure (.pointer (some ⟨g2, 4, none⟩))) ?_
                  refine s_store 0 #[.int .i64 v.kind, .int .i64 0, .int .i64 0, .string ByteArray.empty, .int .i64 v.ref] ?_
                  refine s_nil ?_
                  refine xs_then ?_
                  refine k_reg ?_
                  refine s_lt (t_pure (.pointer (some ⟨g1, 4, none⟩))) ?_
                  refine s_lt (t_load 1 (.int .i64 v.ref)) ?_
                  refine s_lt t_cmp ?_
                  refine s_lt (t_pure (.bool (decide ((1 : Int) ≤ v.ref)))) ?_
                  refine s_nil ?_
                  refine xs_block ?_
                  refine xs_then ?_
                  refine k_cut (ι := Unit) (fun _ => True) (fun _ => [(2, .bool ((decide ((1 : Int) ≤ v.ref)) && (decide (v = (⟨v.kind, 0, 0, ByteArray.empty, v.ref⟩ : Vl)))))]) (fun _ => [blkA g2 #[.int .i64 v.kind, .int .i64 0, .int .i64 0, .string ByteArray.empty, .int .i64 v.ref] 39, blkA g1 #[.int .i64 v.kind, .int .i64 v.p, .int .i64 v.q, .string v.str, .int .i64 v.ref] 39]) ?_ (fun _ _ => ?_)
                  ·
                    refine k_reg ?_
                    refine s_lt (t_pure (.bool (decide ((1 : Int) ≤ v.ref)))) ?_
                    refine s_lt (t_pure (.bool (decide ((1 : Int) ≤ v.ref)))) ?_
                    refine s_fork 69 (decide ((1 : Int) ≤ v.ref)) (fun c45 => ?_) (fun c45 => ?_)
                    ·
                      have p46 := of_decide_eq_true c45
                      refine s_lt (t_loadA 1 #[.int .i64 v.kind, .int .i64 v.p, .int .i64 v.q, .string v.str, .int .i64 v.ref]) ?_
                      refine s_lt (t_loadA 0 #[.int .i64 v.kind, .int .i64 0, .int .i64 0, .string ByteArray.empty, .int .i64 v.ref]) ?_
                      refine s_lt (t_eqS (fun w => (eqVlT v (⟨v.kind, 0, 0, ByteArray.empty, v.ref⟩ : Vl) w).1)) ?_
                      refine s_lt (t_pure (.bool (decide (v = (⟨v.kind, 0, 0, ByteArray.empty, v.ref⟩ : Vl))))) ?_
                      refine s_lt (t_pure (.bool (decide (v = (⟨v.kind, 0, 0, ByteArray.empty, v.ref⟩ : Vl))))) ?_
                      refine s_nil ?_
                      exact xs_cut () trivial (sub_of rfl ⟨⟨rfl, show Value.bool (decide (v = (⟨v.kind, 0, 0, ByteArray.empty, v.ref⟩ : Vl))) = Value.bool ((decide ((1 : Int) ≤ v.ref)) && (decide (v = (⟨v.kind, 0, 0, ByteArray.empty, v.ref⟩ : Vl)))) by first | (simp only [c45, Bool.true_and, Bool.false_and, Bool.and_true, Bool.and_false, Bool.true_or, Bool.or_true, Bool.false_or, Bool.or_false, Bool.not_true, Bool.not_false]; done) | simp [c45]⟩, trivial⟩) (fun _ h => h.re [0, 0] [])
                    ·
                      have p47 := of_decide_eq_false c45
                      refine s_skip ?_
                      refine s_skip ?_
                      refine s_skip ?_
                      refine s_lt (t_pure (.bool false)) ?_
                      refine s_lt (t_pure (.bool false)) ?_
                      refine s_nil ?_
                      exact xs_cut () trivial (sub_of rfl ⟨⟨rfl, show Value.bool false = Value.bool ((decide ((1 : Int) ≤ v.ref)) && (decide (v = (⟨v.kind, 0, 0, ByteArray.empty, v.ref⟩ : Vl)))) by first | (simp only [c45, Bool.true_and, Bool.false_and, Bool.and_true, Bool.and_false, Bool.true_or, Bool.or_true, Bool.false_or, Bool.or_false, Bool.not_true, Bool.not_false]; done) | simp [c45]⟩, trivial⟩) (fun _ h => h.re [0, 0] [])
                  ·
                    refine k_ret ?_
                    refine xs_fin [.bool ((decide ((1 : Int) ≤ v.ref)) && (decide (v = (⟨v.kind, 0, 0, ByteArray.empty, v.ref⟩ : Vl))))] [] (SI.tmp 2 SI.nil) (fun _ h => h.re [] [0, 0]) ⟨?_, rfl⟩
                    refine congrArg Value.bool ?_
                    first | (simp [validB, p5, p14, p18, p24, p30, p36, p42, p44]; done) | (rw [Bool.and_comm]; simp [validB, p5, p14, p18, p24, p30, p36, p42, p44]; done) | (rw [Bool.eq_iff_iff]; simp [validB, p5, p14, p18, p24, p30, p36, p42, p44, and_comm, and_left_comm, and_assoc]; done)
                ·
                  have p48 := of_decide_eq_false c43
                  refine k_seq ?_
                  refine k_reg ?_
                  refine s_lt t_cmp ?_
                  refine s_lt (t_pure (.bool (decide (v.kind = 6)))) ?_
                  refine s_nil ?_
                  refine xs_then ?_
                  refine k_cond (decide (v.kind = 6)) (fun c49 => ?_) (fun c49 => ?_)
                  ·
                    have p50 := of_decide_eq_true c49
                    refine k_seq ?_
                    refine k_reg ?_
                    refine s_lt (t_pure (.pointer (some ⟨g1, 3, none⟩))) ?_
                    refine s_lt (t_load 1 (.string v.str)) ?_
                    refine s_lt (t_pure (.pointer (some ⟨g2, 3, none⟩))) ?_
                    refine s_store 0 #[.int .i64 v.kind, .int .i64 0, .int .i64 0, .string v.str, .int .i64 0] ?_
                    refine s_nil ?_
                    refine xs_then ?_
                    refine k_reg ?_
                    refine s_lt (t_pure (.pointer (some ⟨g1, 3, none⟩))) ?_
                    refine s_lt (t_load 1 (.string v.str)) ?_
                    refine s_lt (t_kern (.int .i64 (v.str.size : Int))) ?_
                    refine s_lt t_cmp ?_
                    refine s_lt (t_pure (.bool (decide ((1 : Int) ≤ (v.str.size : Int))))) ?_
                    refine s_fork 62 (decide ((1 : Int) ≤ (v.str.size : Int))) (fun c51 => ?_) (fun c51 => ?_)
                    ·
                      have p52 := of_decide_eq_true c51
                      refine s_lt (t_pure (.pointer (some ⟨g1, 3, none⟩))) ?_
                      refine s_lt (t_load 1 (.string v.str)) ?_
                      refine s_lt (t_kern (.int .i64 (v.str.size : Int))) ?_
                      refine s_lt t_cmp ?_
                      refine s_lt (t_pure (.bool (decide ((v.str.size : Int) ≤ 4096)))) ?_
                      refine s_lt (t_pure (.bool (decide ((v.str.size : Int) ≤ 4096)))) ?_
                      refine s_nil ?_
                      refine xs_block ?_
                      refine xs_then ?_
                      refine k_cut (ι := Unit) (fun _ => True) (fun _ => [(2, .bool ((decide ((v.str.size : Int) ≤ 4096)) && (decide (v = (⟨v.kind, 0, 0, v.str, 0⟩ : Vl)))))]) (fun _ => [blkA g2 #[.int .i64 v.kind, .int .i64 0, .int .i64 0, .string v.str, .int .i64 0] 39, blkA g1 #[.int .i64 v.kind, .int .i64 v.p, .int .i64 v.q, .string v.str, .int .i64 v.ref] 39]) ?_ (fun _ _ => ?_)
                      ·
                        refine k_reg ?_
                        refine s_lt (t_pure (.bool (decide ((v.str.size : Int) ≤ 4096)))) ?_
                        refine s_lt (t_pure (.bool (decide ((v.str.size : Int) ≤ 4096)))) ?_
                        refine s_fork 69 (decide ((v.str.size : Int) ≤ 4096)) (fun c53 => ?_) (fun c53 => ?_)
                        ·
                          have p54 := of_decide_eq_true c53
                          refine s_lt (t_loadA 1 #[.int .i64 v.kind, .int .i64 v.p, .int .i64 v.q, .string v.str, .int .i64 v.ref]) ?_
                          refine s_lt (t_loadA 0 #[.int .i64 v.kind, .int .i64 0, .int .i64 0, .string v.str, .int .i64 0]) ?_
                          refine s_lt (t_eqS (fun w => (eqVlT v (⟨v.kind, 0, 0, v.str, 0⟩ : Vl) w).1)) ?_
                          refine s_lt (t_pure (.bool (decide (v = (⟨v.kind, 0, 0, v.str, 0⟩ : Vl))))) ?_
                          refine s_lt (t_pure (.bool (decide (v = (⟨v.kind, 0, 0, v.str, 0⟩ : Vl))))) ?_
                          refine s_nil ?_
                          exact xs_cut () trivial (sub_of rfl ⟨⟨rfl, show Value.bool (decide (v = (⟨v.kind, 0, 0, v.str, 0⟩ : Vl))) = Value.bool ((decide ((v.str.size : Int) ≤ 4096)) && (decide (v = (⟨v.kind, 0, 0, v.str, 0⟩ : Vl)))) by first | (simp only [c53, Bool.true_and, Bool.false_and, Bool.and_true, Bool.and_false, Bool.true_or, Bool.or_true, Bool.false_or, Bool.or_false, Bool.not_true, Bool.not_false]; done) | simp [c53]⟩, trivial⟩) (fun _ h => h.re [0, 0] [])
                        ·
                          have p55 := of_decide_eq_false c53
                          refine s_skip ?_
                          refine s_skip ?_
                          refine s_skip ?_
                          refine s_lt (t_pure (.bool false)) ?_
                          refine s_lt (t_pure (.bool false)) ?_
                          refine s_nil ?_
                          exact xs_cut () trivial (sub_of rfl ⟨⟨rfl, show Value.bool false = Value.bool ((decide ((v.str.size : Int) ≤ 4096)) && (decide (v = (⟨v.kind, 0, 0, v.str, 0⟩ : Vl)))) by first | (simp only [c53, Bool.true_and, Bool.false_and, Bool.and_true, Bool.and_false, Bool.true_or, Bool.or_true, Bool.false_or, Bool.or_false, Bool.not_true, Bool.not_false]; done) | simp [c53]⟩, trivial⟩) (fun _ h => h.re [0, 0] [])
                      ·
                        refine k_ret ?_
                        refine xs_fin [.bool ((decide ((v.str.size : Int) ≤ 4096)) && (decide (v = (⟨v.kind, 0, 0, v.str, 0⟩ : Vl))))] [] (SI.tmp 2 SI.nil) (fun _ h => h.re [] [0, 0]) ⟨?_, rfl⟩
                        refine congrArg Value.bool ?_
                        first | (simp [validB, p5, p14, p18, p24, p30, p36, p42, p48, p50, p52]; done) | (rw [Bool.and_comm]; simp [validB, p5, p14, p18, p24, p30, p36, p42, p48, p50, p52]; done) | (rw [Bool.eq_iff_iff]; simp [validB, p5, p14, p18, p24, p30, p36, p42, p48, p50, p52, and_comm, and_left_comm, and_assoc]; done)
                    ·
                      have p56 := of_decide_eq_false c51
                      refine s_skip ?_
                      refine s_skip ?_
                      refine s_skip ?_
                      refine s_skip ?_
                      refine s_lt (t_pure (.bool false)) ?_
                      refine s_lt (t_pure (.bool false)) ?_
                      refine s_nil ?_
                      refine xs_block ?_
                      refine xs_then ?_
                      refine k_seq ?_
                      refine k_reg ?_
                      refine s_lt (t_pure (.bool false)) ?_
                      refine s_lt (t_pure (.bool false)) ?_
                      refine s_skip ?_
                      refine s_skip ?_
                      refine s_skip ?_
                      refine s_lt (t_pure (.bool false)) ?_
                      refine s_lt (t_pure (.bool false)) ?_
                      refine s_nil ?_
                      refine xs_then ?_
                      refine k_ret ?_
                      refine xs_fin [.bool false] [] (SI.tmp 2 SI.nil) (fun _ h => h.re [] [0, 0]) ⟨?_, rfl⟩
                      refine congrArg Value.bool ?_
                      first | (simp [validB, p5, p14, p18, p24, p30, p36, p42, p48, p50, p56]; done) | (rw [Bool.and_comm]; simp [validB, p5, p14, p18, p24, p30, p36, p42, p48, p50, p56]; done) | (rw [Bool.eq_iff_iff]; simp [validB, p5, p14, p18, p24, p30, p36, p42, p48, p50, p56, and_comm, and_left_comm, and_assoc]; done)
                  ·
                    have p57 := of_decide_eq_false c49
                    refine k_reg ?_
                    refine s_lt (t_pure (.bool false)) ?_
                    refine s_nil ?_
                    refine xs_block ?_
                    refine xs_then ?_
                    refine k_seq ?_
                    refine k_reg ?_
                    refine s_lt (t_pure (.bool false)) ?_
                    refine s_lt (t_pure (.bool false)) ?_
                    refine s_skip ?_
                    refine s_skip ?_
                    refine s_skip ?_
                    refine s_lt (t_pure (.bool false)) ?_
                    refine s_lt (t_pure (.bool false)) ?_
                    refine s_nil ?_
                    refine xs_then ?_
                    refine k_ret ?_
                    refine xs_fin [.bool false] [] (SI.tmp 2 SI.nil) (fun _ h => h.re [] [0, 0]) ⟨?_, rfl⟩
                    refine congrArg Value.bool ?_
                    first | (simp [validB, p5, p14, p18, p24, p30, p36, p42, p48, p57]; done) | (rw [Bool.and_comm]; simp [validB, p5, p14, p18, p24, p30, p36, p42, p48, p57]; done) | (rw [Bool.eq_iff_iff]; simp [validB, p5, p14, p18, p24, p30, p36, p42, p48, p57, and_comm, and_left_comm, and_assoc]; done)
end Go.Proofs.YtdakfjdbdopmbaaDoor.St
