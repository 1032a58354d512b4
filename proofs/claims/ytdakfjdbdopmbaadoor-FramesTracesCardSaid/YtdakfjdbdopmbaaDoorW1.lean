/-
  Numbers that are valid, by the program and by the reference.
-/
import Derived.Test.YtdakfjdbdopmbaaDoorDefs
set_option linter.unusedSimpArgs false
set_option linter.unusedVariables false
set_option maxRecDepth 100000
namespace Go.Proofs.YtdakfjdbdopmbaaDoor
open Go.Hp Go.J Go.S
open Go.Mem (Ty KTy blk elemAt pre suf blk_pre blk_suf aget aset strK aggDesc)
theorem gcd_s {Z : Zone} (x y : Nat) : SF Tryd.prog 48 #[.int .i64 x, .int .i64 y] Z [] fun v Bs => v = .int .i64 (Nat.gcd x y) ∧ Bs = [] := by
  refine sf_enter Tryd.func48 12 [(0, .int .i64 (x : Int)), (1, .int .i64 (y : Int))] (fun w0 => ?_)
  refine k_seq ?_
  refine k_reg ?_
  refine s_lt (t_pure (.int .i64 0)) ?_
  refine s_nil ?_
  refine xs_then ?_
  refine k_seq ?_
  refine k_block ?_
  refine k_loop (ι := Nat × Nat) (fun (a, b) => Nat.gcd a b = Nat.gcd x y) (fun (a, b) => [(0, .int .i64 (a : Int)), (1, .int .i64 (b : Int)), (4, .int .i64 0)]) (fun (a, b) => []) (fun (a, b) => b) (x, y) rfl (sub_of rfl ⟨⟨rfl, rfl⟩, ⟨⟨rfl, rfl⟩, ⟨⟨rfl, rfl⟩, trivial⟩⟩⟩) (fun _ h => h.re [] []) ?_
  rintro ⟨a, b⟩ hi1
  replace hi1 : Nat.gcd a b = Nat.gcd x y := hi1
  show SK _ _ _ _ _ [(0, .int .i64 (a : Int)), (1, .int .i64 (b : Int)), (4, .int .i64 0)] _ []
  refine k_seq ?_
  refine k_seq ?_
  refine k_reg ?_
  refine s_lt (t_pure (.int .i64 (b : Int))) ?_
  refine s_lt t_cmp ?_
  refine s_nil ?_
  refine xs_then ?_
  refine k_cond (decide ((b : Int) ≠ 0)) (fun c2 => ?_) (fun c2 => ?_)
  ·
    have p3 := of_decide_eq_true c2
    refine k_skip ?_
    refine xs_then ?_
    refine k_block ?_
    refine k_draw ?_
    refine s_lt (t_pure (.int .i64 (b : Int))) ?_
    refine s_lt (t_pure (.int .i64 (a : Int))) ?_
    refine s_lt (t_pure (.int .i64 (b : Int))) ?_
    refine s_lt (Lt.to (v' := .int .i64 ((a % b : Nat) : Int)) (t_rem (a : Int) (b : Int) (by omega)) rfl) ?_
    refine s_lt (t_pure (.int .i64 (b : Int))) ?_
    refine s_lt (t_pure (.int .i64 ((a % b : Nat) : Int))) ?_
    refine s_nil ?_
    refine x_dynS (fun _ h => by kernel_rfl) ?_
    refine xs_block ?_
    exact xs_round (b, a % b) (by exact Nat.mod_lt _ (by omega)) (by show Nat.gcd b (a % b) = _; rw [gcd_step]; exact hi1) (sub_of rfl ⟨⟨rfl, rfl⟩, ⟨⟨rfl, rfl⟩, ⟨⟨rfl, rfl⟩, trivial⟩⟩⟩) (fun _ h => h.re [] [])
  ·
    have p4 := Decidable.not_not.1 (of_decide_eq_false c2)
    refine k_exit ?_
    refine xs_exit ?_
    refine xs_exit ?_
    refine xs_here ?_
    refine xs_then ?_
    refine k_seq ?_
    refine k_reg ?_
    refine s_lt (t_pure (.int .i64 (a : Int))) ?_
    refine s_lt (t_pure (.int .i64 (a : Int))) ?_
    refine s_nil ?_
    refine xs_then ?_
    refine k_ret ?_
    obtain rfl : b = 0 := by omega
    refine xs_fin [.int .i64 (a : Int)] [] (SI.tmp 4 SI.nil) (fun _ h => h.re [] []) ⟨?_, rfl⟩
    rw [← hi1, Nat.gcd_zero_right]; rfl
theorem gcd_i {Z : Zone} (x y : Int) (hx : 0 ≤ x) (hy : 0 ≤ y) : SF Tryd.prog 48 #[.int .i64 x, .int .i64 y] Z [] fun v Bs => v = .int .i64 (Nat.gcd x.toNat y.toNat) ∧ Bs = [] := by
  have h := gcd_s (Z := Z) x.toNat y.toNat
  rw [show ((x.toNat : Nat) : Int) = x by omega, show ((y.toNat : Nat) : Int) = y by omega] at h
  exact h
theorem vnum_s {Z : Zone} (p q : Int) : SF Tryd.prog 41 #[.agg #[.int .i64 p, .int .i64 q]] Z [] fun v Bs => v = .bool (validN p q) ∧ Bs = [] := by
  refine sf_enter Tryd.func41 33 [(0, .agg #[.int .i64 p, .int .i64 q])] (fun w0 => ?_)
  refine k_seq ?_
  refine k_reg ?_
  refine s_box #[.int .i64 p, .int .i64 q] (fun g1 => ?_)
  refine s_lt (t_pure (.bool false)) ?_
  refine s_nil ?_
  refine xs_then ?_
  refine k_cut (ι := Unit) (fun _ => True) (fun _ => [(2, .bool ((decide ((1 : Int) ≤ q)) && ((decide (q ≤ 2147483647)) && ((decide ((-2147483647) ≤ p)) && ((decide (p ≤ 2147483647)) && (decide (((Nat.gcd ((if p < (-p) then (-p) else p)).toNat (q).toNat : Nat) : Int) = 1)))))))]) (fun _ => [blkA g1 #[.int .i64 p, .int .i64 q] 37]) ?_ (fun _ _ => ?_)
  ·
    refine k_reg ?_
    refine s_lt (t_pure (.pointer (some ⟨g1, 1, none⟩))) ?_
    refine s_lt (t_load 0 (.int .i64 q)) ?_
    refine s_lt t_cmp ?_
    refine s_lt (t_pure (.bool (decide ((1 : Int) ≤ q)))) ?_
    refine s_fork 6 (decide ((1 : Int) ≤ q)) (fun c2 => ?_) (fun c2 => ?_)
    ·
      have p3 := of_decide_eq_true c2
      refine s_lt (t_pure (.pointer (some ⟨g1, 1, none⟩))) ?_
      refine s_lt (t_load 0 (.int .i64 q)) ?_
      refine s_lt t_cmp ?_
      refine s_lt (t_pure (.bool (decide (q ≤ 2147483647)))) ?_
      refine s_lt (t_pure (.bool (decide (q ≤ 2147483647)))) ?_
      refine s_fork 11 (decide (q ≤ 2147483647)) (fun c4 => ?_) (fun c4 => ?_)
      ·
        have p5 := of_decide_eq_true c4
        refine s_lt (t_pure (.pointer (some ⟨g1, 0, none⟩))) ?_
        refine s_lt (t_load 0 (.int .i64 p)) ?_
        refine s_lt t_cmp ?_
        refine s_lt (t_pure (.bool (decide ((-2147483647) ≤ p)))) ?_
        refine s_lt (t_pure (.bool (decide ((-2147483647) ≤ p)))) ?_
        refine s_fork 16 (decide ((-2147483647) ≤ p)) (fun c6 => ?_) (fun c6 => ?_)
        ·
          have p7 := of_decide_eq_true c6
          refine s_lt (t_pure (.pointer (some ⟨g1, 0, none⟩))) ?_
          refine s_lt (t_load 0 (.int .i64 p)) ?_
          refine s_lt t_cmp ?_
          refine s_lt (t_pure (.bool (decide (p ≤ 2147483647)))) ?_
          refine s_lt (t_pure (.bool (decide (p ≤ 2147483647)))) ?_
          refine s_fork 21 (decide (p ≤ 2147483647)) (fun c8 => ?_) (fun c8 => ?_)
          ·
            have p9 := of_decide_eq_true c8
            refine s_lt (t_pure (.pointer (some ⟨g1, 0, none⟩))) ?_
            refine s_lt (t_load 0 (.int .i64 p)) ?_
            refine s_lt (t_pure (.pointer (some ⟨g1, 0, none⟩))) ?_
            refine s_lt (t_load 0 (.int .i64 p)) ?_
            refine s_lt (t_neg p (by omega)) ?_
            refine s_lt t_max ?_
            refine s_lt (t_pure (.pointer (some ⟨g1, 1, none⟩))) ?_
            refine s_lt (t_load 0 (.int .i64 q)) ?_
            refine s_vcall (fun _ h => gcd_i (if p < (-p) then (-p) else p) q (by omega) (by omega)) ?_
            rintro _ rfl
            refine s_lt t_cmp ?_
            refine s_lt (t_pure (.bool (decide (((Nat.gcd ((if p < (-p) then (-p) else p)).toNat (q).toNat : Nat) : Int) = 1)))) ?_
            refine s_lt (t_pure (.bool (decide (((Nat.gcd ((if p < (-p) then (-p) else p)).toNat (q).toNat : Nat) : Int) = 1)))) ?_
            refine s_nil ?_
            exact xs_cut () trivial (sub_of rfl ⟨⟨rfl, show Value.bool (decide (((Nat.gcd ((if p < (-p) then (-p) else p)).toNat (q).toNat : Nat) : Int) = 1)) = Value.bool ((decide ((1 : Int) ≤ q)) && ((decide (q ≤ 2147483647)) && ((decide ((-2147483647) ≤ p)) && ((decide (p ≤ 2147483647)) && (decide (((Nat.gcd ((if p < (-p) then (-p) else p)).toNat (q).toNat : Nat) : Int) = 1)))))) by first | (simp only [c2, c4, c6, c8, Bool.true_and, Bool.false_and, Bool.and_true, Bool.and_false, Bool.true_or, Bool.or_true, Bool.false_or, Bool.or_false, Bool.not_true, Bool.not_false]; done) | simp [c2, c4, c6, c8]⟩, trivial⟩) (fun _ h => h.re [0] [])
          ·
            have p10 := of_decide_eq_false c8
            refine s_skip ?_
            refine s_skip ?_
            refine s_skip ?_
            refine s_skip ?_
            refine s_skip ?_
            refine s_skip ?_
            refine s_skip ?_
            refine s_skip ?_
            refine s_skip ?_
            refine s_skip ?_
            refine s_lt (t_pure (.bool false)) ?_
            refine s_lt (t_pure (.bool false)) ?_
            refine s_nil ?_
            exact xs_cut () trivial (sub_of rfl ⟨⟨rfl, show Value.bool false = Value.bool ((decide ((1 : Int) ≤ q)) && ((decide (q ≤ 2147483647)) && ((decide ((-2147483647) ≤ p)) && ((decide (p ≤ 2147483647)) && (decide (((Nat.gcd ((if p < (-p) then (-p) else p)).toNat (q).toNat : Nat) : Int) = 1)))))) by first | (simp only [c2, c4, c6, c8, Bool.true_and, Bool.false_and, Bool.and_true, Bool.and_false, Bool.true_or, Bool.or_true, Bool.false_or, Bool.or_false, Bool.not_true, Bool.not_false]; done) | simp [c2, c4, c6, c8]⟩, trivial⟩) (fun _ h => h.re [0] [])
        ·
          have p11 := of_decide_eq_false c6
          refine s_skip ?_
          refine s_skip ?_
          refine s_skip ?_
          refine s_lt (t_pure (.bool false)) ?_
          refine s_lt (t_pure (.bool false)) ?_
          refine s_skip ?_
          refine s_skip ?_
          refine s_skip ?_
          refine s_skip ?_
          refine s_skip ?_
          refine s_skip ?_
          refine s_skip ?_
          refine s_skip ?_
          refine s_skip ?_
          refine s_skip ?_
          refine s_lt (t_pure (.bool false)) ?_
          refine s_lt (t_pure (.bool false)) ?_
          refine s_nil ?_
          exact xs_cut () trivial (sub_of rfl ⟨⟨rfl, show Value.bool false = Value.bool ((decide ((1 : Int) ≤ q)) && ((decide (q ≤ 2147483647)) && ((decide ((-2147483647) ≤ p)) && ((decide (p ≤ 2147483647)) && (decide (((Nat.gcd ((if p < (-p) then (-p) else p)).toNat (q).toNat : Nat) : Int) = 1)))))) by first | (simp only [c2, c4, c6, Bool.true_and, Bool.false_and, Bool.and_true, Bool.and_false, Bool.true_or, Bool.or_true, Bool.false_or, Bool.or_false, Bool.not_true, Bool.not_false]; done) | simp [c2, c4, c6]⟩, trivial⟩) (fun _ h => h.re [0] [])
      ·
        have p12 := of_decide_eq_false c4
        refine s_skip ?_
        refine s_skip ?_
        refine s_skip ?_
        refine s_lt (t_pure (.bool false)) ?_
        refine s_lt (t_pure (.bool false)) ?_
        refine s_skip ?_
        refine s_skip ?_
        refine s_skip ?_
        refine s_lt (t_pure (.bool false)) ?_
        refine s_lt (t_pure (.bool false)) ?_
        refine s_skip ?_
        refine s_skip ?_
        refine s_skip ?_
        refine s_skip ?_
        refine s_skip ?_
        refine s_skip ?_
        refine s_skip ?_
        refine s_skip ?_
        refine s_skip ?_
        refine s_skip ?_
        refine s_lt (t_pure (.bool false)) ?_
        refine s_lt (t_pure (.bool false)) ?_
        refine s_nil ?_
        exact xs_cut () trivial (sub_of rfl ⟨⟨rfl, show Value.bool false = Value.bool ((decide ((1 : Int) ≤ q)) && ((decide (q ≤ 2147483647)) && ((decide ((-2147483647) ≤ p)) && ((decide (p ≤ 2147483647)) && (decide (((Nat.gcd ((if p < (-p) then (-p) else p)).toNat (q).toNat : Nat) : Int) = 1)))))) by first | (simp only [c2, c4, Bool.true_and, Bool.false_and, Bool.and_true, Bool.and_false, Bool.true_or, Bool.or_true, Bool.false_or, Bool.or_false, Bool.not_true, Bool.not_false]; done) | simp [c2, c4]⟩, trivial⟩) (fun _ h => h.re [0] [])
    ·
      have p13 := of_decide_eq_false c2
      refine s_skip ?_
      refine s_skip ?_
      refine s_skip ?_
      refine s_lt (t_pure (.bool false)) ?_
      refine s_lt (t_pure (.bool false)) ?_
      refine s_skip ?_
      refine s_skip ?_
      refine s_skip ?_
      refine s_lt (t_pure (.bool false)) ?_
      refine s_lt (t_pure (.bool false)) ?_
      refine s_skip ?_
      refine s_skip ?_
      refine s_skip ?_
      refine s_lt (t_pure (.bool false)) ?_
      refine s_lt (t_pure (.bool false)) ?_
      refine s_skip ?_
      refine s_skip ?_
      refine s_skip ?_
      refine s_skip ?_
      refine s_skip ?_
      refine s_skip ?_
      refine s_skip ?_
      refine s_skip ?_
      refine s_skip ?_
      refine s_skip ?_
      refine s_lt (t_pure (.bool false)) ?_
      refine s_lt (t_pure (.bool false)) ?_
      refine s_nil ?_
      exact xs_cut () trivial (sub_of rfl ⟨⟨rfl, show Value.bool false = Value.bool ((decide ((1 : Int) ≤ q)) && ((decide (q ≤ 2147483647)) && ((decide ((-2147483647) ≤ p)) && ((decide (p ≤ 2147483647)) && (decide (((Nat.gcd ((if p < (-p) then (-p) else p)).toNat (q).toNat : Nat) : Int) = 1)))))) by first | (simp only [c2, Bool.true_and, Bool.false_and, Bool.and_true, Bool.and_false, Bool.true_or, Bool.or_true, Bool.false_or, Bool.or_false, Bool.not_true, Bool.not_false]; done) | simp [c2]⟩, trivial⟩) (fun _ h => h.re [0] [])
  ·
    refine k_ret ?_
    refine xs_fin [.bool ((decide ((1 : Int) ≤ q)) && ((decide (q ≤ 2147483647)) && ((decide ((-2147483647) ≤ p)) && ((decide (p ≤ 2147483647)) && (decide (((Nat.gcd ((if p < (-p) then (-p) else p)).toNat (q).toNat : Nat) : Int) = 1))))))] [] (SI.tmp 2 SI.nil) (fun _ h => h.re [] [0]) ⟨?_, rfl⟩
    exact congrArg Value.bool (validN_eq p q)
end Go.Proofs.YtdakfjdbdopmbaaDoor
