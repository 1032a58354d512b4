/-
  Values; ordered maps of the program. Each law says its conditions.
-/
import Derived.Test.YtmilekfknhglkaaG2
section
set_option linter.unusedSimpArgs false
set_option linter.unusedVariables false
set_option maxRecDepth 100000
set_option maxHeartbeats 2000000
namespace Go.Proofs.Ytmilekfknhglkaa
open Go.Hp Go.J Go.S
open Go.Mem (Ty KTy blk elemAt pre suf blk_pre blk_suf aget aset strK aggDesc)
open Go.Mem (adel apos aget_aset aget_adel)
theorem gcd_s {Z : Zone} (x y : Nat) : SF Try.prog 84 #[.int .i64 x, .int .i64 y] Z [] fun v Bs => v = .int .i64 (Nat.gcd x y) ∧ Bs = [] := by
  refine sf_enter Try.func84 12 [(0, .int .i64 (x : Int)), (1, .int .i64 (y : Int))] (fun w0 => ?_)
  refine k_seq ?_
  refine k_reg ?_
  refine s_lt (t_pure (.int .i64 0)) ?_
  refine s_nil ?_
  refine xs_then ?_
  refine k_seq ?_
  refine k_block ?_
  refine k_loop (ι := Nat × Nat) (fun (a, b) => Nat.gcd a b = Nat.gcd x y) (fun (a, b) => [(0, .int .i64 (a : Int)), (1, .int .i64 (b : Int)), (4, .int .i64 0)]) (fun (a, b) => []) (fun (a, b) => b) (x, y) rfl (sub_of rfl ⟨⟨rfl, rfl⟩, ⟨⟨rfl, rfl⟩, ⟨⟨rfl, rfl⟩, trivial⟩⟩⟩) (fun _ h => h.re [] []) ?_
  rintro ⟨a, b⟩ hi1
  replace hi1 : Nat.gcd a b = Nat.gcd x y := hi1
  show SK _ _ _ _ _ [(0, .int .i64 (a : Int)), (1, .int .i64 (b : Int)), (4, .int .i64 0)] _ []
  refine k_seq ?_
  refine k_seq ?_
  refine k_reg ?_
  refine s_lt (t_pure (.int .i64 (b : Int))) ?_
  refine s_lt t_cmp ?_
  refine s_nil ?_
  refine xs_then ?_
  refine k_cond (decide ((b : Int) ≠ 0)) (fun c2 => ?_) (fun c2 => ?_)
  ·
    have p3 := of_decide_eq_true c2
    refine k_skip ?_
    refine xs_then ?_
    refine k_block ?_
    refine k_draw ?_
    refine s_lt (t_pure (.int .i64 (b : Int))) ?_
    refine s_lt (t_pure (.int .i64 (a : Int))) ?_
    refine s_lt (t_pure (.int .i64 (b : Int))) ?_
    refine s_lt (Lt.to (v' := .int .i64 ((a % b : Nat) : Int)) (t_rem (a : Int) (b : Int) (by omega)) rfl) ?_
    refine s_lt (t_pure (.int .i64 (b : Int))) ?_
    refine s_lt (t_pure (.int .i64 ((a % b : Nat) : Int))) ?_
    refine s_nil ?_
    refine x_dynS (fun _ h => by kernel_rfl) ?_
    refine xs_block ?_
    exact xs_round (b, a % b) (by exact Nat.mod_lt _ (by omega)) (by show Nat.gcd b (a % b) = _; rw [gcd_step]; exact hi1) (sub_of rfl ⟨⟨rfl, rfl⟩, ⟨⟨rfl, rfl⟩, ⟨⟨rfl, rfl⟩, trivial⟩⟩⟩) (fun _ h => h.re [] [])
  ·
    have p4 := Decidable.not_not.1 (of_decide_eq_false c2)
    refine k_exit ?_
    refine xs_exit ?_
    refine xs_exit ?_
    refine xs_here ?_
    refine xs_then ?_
    refine k_seq ?_
    refine k_reg ?_
    refine s_lt (t_pure (.int .i64 (a : Int))) ?_
    refine s_lt (t_pure (.int .i64 (a : Int))) ?_
    refine s_nil ?_
    refine xs_then ?_
    refine k_ret ?_
    obtain rfl : b = 0 := by omega
    refine xs_fin [.int .i64 (a : Int)] [] (SI.tmp 4 SI.nil) (fun _ h => h.re [] []) ⟨?_, rfl⟩
    rw [← hi1, Nat.gcd_zero_right]; rfl
theorem gcd_i {Z : Zone} (x y : Int) (hx : 0 ≤ x) (hy : 0 ≤ y) : SF Try.prog 84 #[.int .i64 x, .int .i64 y] Z [] fun v Bs => v = .int .i64 (Nat.gcd x.toNat y.toNat) ∧ Bs = [] := by
  have h := gcd_s (Z := Z) x.toNat y.toNat
  rw [show ((x.toNat : Nat) : Int) = x by omega, show ((y.toNat : Nat) : Int) = y by omega] at h
  exact h
theorem rgcd_s {Z : Zone} (x y : Nat) : SF Try.prog 78 #[.int .i64 x, .int .i64 y] Z [] fun v Bs => v = .int .i64 (Nat.gcd x y) ∧ Bs = [] := by
  refine sf_enter Try.func78 12 [(0, .int .i64 (x : Int)), (1, .int .i64 (y : Int))] (fun w0 => ?_)
  refine k_seq ?_
  refine k_reg ?_
  refine s_lt (t_pure (.int .i64 0)) ?_
  refine s_nil ?_
  refine xs_then ?_
  refine k_seq ?_
  refine k_block ?_
  refine k_loop (ι := Nat × Nat) (fun (a, b) => Nat.gcd a b = Nat.gcd x y) (fun (a, b) => [(0, .int .i64 (a : Int)), (1, .int .i64 (b : Int)), (4, .int .i64 0)]) (fun (a, b) => []) (fun (a, b) => b) (x, y) rfl (sub_of rfl ⟨⟨rfl, rfl⟩, ⟨⟨rfl, rfl⟩, ⟨⟨rfl, rfl⟩, trivial⟩⟩⟩) (fun _ h => h.re [] []) ?_
  rintro ⟨a, b⟩ hi1
  replace hi1 : Nat.gcd a b = Nat.gcd x y := hi1
  show SK _ _ _ _ _ [(0, .int .i64 (a : Int)), (1, .int .i64 (b : Int)), (4, .int .i64 0)] _ []
  refine k_seq ?_
  refine k_seq ?_
  refine k_reg ?_
  refine s_lt (t_pure (.int .i64 (b : Int))) ?_
  refine s_lt t_cmp ?_
  refine s_nil ?_
  refine xs_then ?_
  refine k_cond (decide ((b : Int) ≠ 0)) (fun c2 => ?_) (fun c2 => ?_)
  ·
    have p3 := of_decide_eq_true c2
    refine k_skip ?_
    refine xs_then ?_
    refine k_block ?_
    refine k_draw ?_
    refine s_lt (t_pure (.int .i64 (b : Int))) ?_
    refine s_lt (t_pure (.int .i64 (a : Int))) ?_
    refine s_lt (t_pure (.int .i64 (b : Int))) ?_
    refine s_lt (Lt.to (v' := .int .i64 ((a % b : Nat) : Int)) (t_rem (a : Int) (b : Int) (by omega)) rfl) ?_
    refine s_lt (t_pure (.int .i64 (b : Int))) ?_
    refine s_lt (t_pure (.int .i64 ((a % b : Nat) : Int))) ?_
    refine s_nil ?_
    refine x_dynS (fun _ h => by kernel_rfl) ?_
    refine xs_block ?_
    exact xs_round (b, a % b) (by exact Nat.mod_lt _ (by omega)) (by show Nat.gcd b (a % b) = _; rw [gcd_step]; exact hi1) (sub_of rfl ⟨⟨rfl, rfl⟩, ⟨⟨rfl, rfl⟩, ⟨⟨rfl, rfl⟩, trivial⟩⟩⟩) (fun _ h => h.re [] [])
  ·
    have p4 := Decidable.not_not.1 (of_decide_eq_false c2)
    refine k_exit ?_
    refine xs_exit ?_
    refine xs_exit ?_
    refine xs_here ?_
    refine xs_then ?_
    refine k_seq ?_
    refine k_reg ?_
    refine s_lt (t_pure (.int .i64 (a : Int))) ?_
    refine s_lt (t_pure (.int .i64 (a : Int))) ?_
    refine s_nil ?_
    refine xs_then ?_
    refine k_ret ?_
    obtain rfl : b = 0 := by omega
    refine xs_fin [.int .i64 (a : Int)] [] (SI.tmp 4 SI.nil) (fun _ h => h.re [] []) ⟨?_, rfl⟩
    rw [← hi1, Nat.gcd_zero_right]; rfl
theorem rgcd_i {Z : Zone} (x y : Int) (hx : 0 ≤ x) (hy : 0 ≤ y) : SF Try.prog 78 #[.int .i64 x, .int .i64 y] Z [] fun v Bs => v = .int .i64 (Nat.gcd x.toNat y.toNat) ∧ Bs = [] := by
  have h := rgcd_s (Z := Z) x.toNat y.toNat
  rw [show ((x.toNat : Nat) : Int) = x by omega, show ((y.toNat : Nat) : Int) = y by omega] at h
  exact h
theorem abs_s {Z : Zone} (x : Int) (h1 : -2147483647 ≤ x) (h2 : x ≤ 2147483647) : SF Try.prog 79 #[.int .i64 x] Z [] fun v Bs => v = .int .i64 (if x < -x then -x else x) ∧ Bs = [] := by
  refine sf_enter Try.func79 8 [(0, .int .i64 x)] (fun w0 => ?_)
  refine k_seq ?_
  refine k_reg ?_
  refine s_lt (t_pure (.int .i64 0)) ?_
  refine s_nil ?_
  refine xs_then ?_
  refine k_seq ?_
  refine k_seq ?_
  refine k_reg ?_
  refine s_lt (t_pure (.int .i64 x)) ?_
  refine s_lt t_cmp ?_
  refine s_nil ?_
  refine xs_then ?_
  refine k_cond (decide (x < 0)) (fun c1 => ?_) (fun c1 => ?_)
  ·
    have p2 := of_decide_eq_true c1
    refine k_seq ?_
    refine k_reg ?_
    refine s_lt (t_pure (.int .i64 x)) ?_
    refine s_lt (t_neg x (by omega)) ?_
    refine s_lt (t_pure (.int .i64 (-x))) ?_
    refine s_nil ?_
    refine xs_then ?_
    refine k_ret ?_
    refine xs_ret ?_
    refine xs_fin [.int .i64 (-x)] [] (SI.tmp 2 SI.nil) (fun _ h => h.re [] []) ⟨?_, rfl⟩
    exact congrArg (Value.int .i64) (by omega)
  ·
    have p3 := of_decide_eq_false c1
    refine k_skip ?_
    refine xs_then ?_
    refine k_seq ?_
    refine k_reg ?_
    refine s_lt (t_pure (.int .i64 x)) ?_
    refine s_lt (t_pure (.int .i64 x)) ?_
    refine s_nil ?_
    refine xs_then ?_
    refine k_ret ?_
    refine xs_fin [.int .i64 x] [] (SI.tmp 2 SI.nil) (fun _ h => h.re [] []) ⟨?_, rfl⟩
    exact congrArg (Value.int .i64) (by omega)
theorem vnum_s {Z : Zone} (p q : Int) : SF Try.prog 72 #[.agg #[.int .i64 p, .int .i64 q]] Z [] fun v Bs => v = .bool (validN p q) ∧ Bs = [] := by
  refine sf_enter Try.func72 33 [(0, .agg #[.int .i64 p, .int .i64 q])] (fun w0 => ?_)
  refine k_seq ?_
  refine k_reg ?_
  refine s_box #[.int .i64 p, .int .i64 q] (fun g1 => ?_)
  refine s_lt (t_pure (.bool false)) ?_
  refine s_nil ?_
  refine xs_then ?_
  refine k_cut (ι := Unit) (fun _ => True) (fun _ => [(2, .bool ((decide ((1 : Int) ≤ q)) && ((decide (q ≤ 2147483647)) && ((decide ((-2147483647) ≤ p)) && ((decide (p ≤ 2147483647)) && (decide (((Nat.gcd ((if p < (-p) then (-p) else p)).toNat (q).toNat : Nat) : Int) = 1)))))))]) (fun _ => [blkA g1 #[.int .i64 p, .int .i64 q] 24]) ?_ (fun _ _ => ?_)
  ·
    refine k_reg ?_
    refine s_lt (t_pure (.pointer (some ⟨g1, 1, none⟩))) ?_
    refine s_lt (t_load 0 (.int .i64 q)) ?_
    refine s_lt t_cmp ?_
    refine s_lt (t_pure (.bool (decide ((1 : Int) ≤ q)))) ?_
    refine s_fork 6 (decide ((1 : Int) ≤ q)) (fun c2 => ?_) (fun c2 => ?_)
    ·
      have p3 := of_decide_eq_true c2
      refine s_lt (t_pure (.pointer (some ⟨g1, 1, none⟩))) ?_
      refine s_lt (t_load 0 (.int .i64 q)) ?_
      refine s_lt t_cmp ?_
      refine s_lt (t_pure (.bool (decide (q ≤ 2147483647)))) ?_
      refine s_lt (t_pure (.bool (decide (q ≤ 2147483647)))) ?_
      refine s_fork 11 (decide (q ≤ 2147483647)) (fun c4 => ?_) (fun c4 => ?_)
      ·
        have p5 := of_decide_eq_true c4
        refine s_lt (t_pure (.pointer (some ⟨g1, 0, none⟩))) ?_
        refine s_lt (t_load 0 (.int .i64 p)) ?_
        refine s_lt t_cmp ?_
        refine s_lt (t_pure (.bool (decide ((-2147483647) ≤ p)))) ?_
        refine s_lt (t_pure (.bool (decide ((-2147483647) ≤ p)))) ?_
        refine s_fork 16 (decide ((-2147483647) ≤ p)) (fun c6 => ?_) (fun c6 => ?_)
        ·
          have p7 := of_decide_eq_true c6
          refine s_lt (t_pure (.pointer (some ⟨g1, 0, none⟩))) ?_
          refine s_lt (t_load 0 (.int .i64 p)) ?_
          refine s_lt t_cmp ?_
          refine s_lt (t_pure (.bool (decide (p ≤ 2147483647)))) ?_
          refine s_lt (t_pure (.bool (decide (p ≤ 2147483647)))) ?_
          refine s_fork 21 (decide (p ≤ 2147483647)) (fun c8 => ?_) (fun c8 => ?_)
          ·
            have p9 := of_decide_eq_true c8
            refine s_lt (t_pure (.pointer (some ⟨g1, 0, none⟩))) ?_
            refine s_lt (t_load 0 (.int .i64 p)) ?_
            refine s_lt (t_pure (.pointer (some ⟨g1, 0, none⟩))) ?_
            refine s_lt (t_load 0 (.int .i64 p)) ?_
            refine s_lt (t_neg p (by omega)) ?_
            refine s_lt t_max ?_
            refine s_lt (t_pure (.pointer (some ⟨g1, 1, none⟩))) ?_
            refine s_lt (t_load 0 (.int .i64 q)) ?_
            refine s_vcall (fun _ h => gcd_i (if p < (-p) then (-p) else p) q (by omega) (by omega)) ?_
            rintro _ rfl
            refine s_lt t_cmp ?_
            refine s_lt (t_pure (.bool (decide (((Nat.gcd ((if p < (-p) then (-p) else p)).toNat (q).toNat : Nat) : Int) = 1)))) ?_
            refine s_lt (t_pure (.bool (decide (((Nat.gcd ((if p < (-p) then (-p) else p)).toNat (q).toNat : Nat) : Int) = 1)))) ?_
            refine s_nil ?_
            exact xs_cut () trivial (sub_of rfl ⟨⟨rfl, show Value.bool (decide (((Nat.gcd ((if p < (-p) then (-p) else p)).toNat (q).toNat : Nat) : Int) = 1)) = Value.bool ((decide ((1 : Int) ≤ q)) && ((decide (q ≤ 2147483647)) && ((decide ((-2147483647) ≤ p)) && ((decide (p ≤ 2147483647)) && (decide (((Nat.gcd ((if p < (-p) then (-p) else p)).toNat (q).toNat : Nat) : Int) = 1)))))) by first | (simp only [c2, c4, c6, c8, Bool.true_and, Bool.false_and, Bool.and_true, Bool.and_false, Bool.true_or, Bool.or_true, Bool.false_or, Bool.or_false, Bool.not_true, Bool.not_false]; done) | simp [c2, c4, c6, c8]⟩, trivial⟩) (fun _ h => h.re [0] [])
          ·
            have p10 := of_decide_eq_false c8
            refine s_skip ?_
            refine s_skip ?_
            refine s_skip ?_
            refine s_skip ?_
            refine s_skip ?_
            refine s_skip ?_
            refine s_skip ?_
            refine s_skip ?_
            refine s_skip ?_
            refine s_skip ?_
            refine s_lt (t_pure (.bool false)) ?_
            refine s_lt (t_pure (.bool false)) ?_
            refine s_nil ?_
            exact xs_cut () trivial (sub_of rfl ⟨⟨rfl, show Value.bool false = Value.bool ((decide ((1 : Int) ≤ q)) && ((decide (q ≤ 2147483647)) && ((decide ((-2147483647) ≤ p)) && ((decide (p ≤ 2147483647)) && (decide (((Nat.gcd ((if p < (-p) then (-p) else p)).toNat (q).toNat : Nat) : Int) = 1)))))) by first | (simp only [c2, c4, c6, c8, Bool.true_and, Bool.false_and, Bool.and_true, Bool.and_false, Bool.true_or, Bool.or_true, Bool.false_or, Bool.or_false, Bool.not_true, Bool.not_false]; done) | simp [c2, c4, c6, c8]⟩, trivial⟩) (fun _ h => h.re [0] [])
        ·
          have p11 := of_decide_eq_false c6
          refine s_skip ?_
          refine s_skip ?_
          refine s_skip ?_
          refine s_lt (t_pure (.bool false)) ?_
          refine s_lt (t_pure (.bool false)) ?_
          refine s_skip ?_
          refine s_skip ?_
          refine s_skip ?_
          refine s_skip ?_
          refine s_skip ?_
          refine s_skip ?_
          refine s_skip ?_
          refine s_skip ?_
          refine s_skip ?_
          refine s_skip ?_
          refine s_lt (t_pure (.bool false)) ?_
          refine s_lt (t_pure (.bool false)) ?_
          refine s_nil ?_
          exact xs_cut () trivial (sub_of rfl ⟨⟨rfl, show Value.bool false = Value.bool ((decide ((1 : Int) ≤ q)) && ((decide (q ≤ 2147483647)) && ((decide ((-2147483647) ≤ p)) && ((decide (p ≤ 2147483647)) && (decide (((Nat.gcd ((if p < (-p) then (-p) else p)).toNat (q).toNat : Nat) : Int) = 1)))))) by first | (simp only [c2, c4, c6, Bool.true_and, Bool.false_and, Bool.and_true, Bool.and_false, Bool.true_or, Bool.or_true, Bool.false_or, Bool.or_false, Bool.not_true, Bool.not_false]; done) | simp [c2, c4, c6]⟩, trivial⟩) (fun _ h => h.re [0] [])
      ·
        have p12 := of_decide_eq_false c4
        refine s_skip ?_
        refine s_skip ?_
        refine s_skip ?_
        refine s_lt (t_pure (.bool false)) ?_
        refine s_lt (t_pure (.bool false)) ?_
        refine s_skip ?_
        refine s_skip ?_
        refine s_skip ?_
        refine s_lt (t_pure (.bool false)) ?_
        refine s_lt (t_pure (.bool false)) ?_
        refine s_skip ?_
        refine s_skip ?_
        refine s_skip ?_
        refine s_skip ?_
        refine s_skip ?_
        refine s_skip ?_
        refine s_skip ?_
        refine s_skip ?_
        refine s_skip ?_
        refine s_skip ?_
        refine s_lt (t_pure (.bool false)) ?_
        refine s_lt (t_pure (.bool false)) ?_
        refine s_nil ?_
        exact xs_cut () trivial (sub_of rfl ⟨⟨rfl, show Value.bool false = Value.bool ((decide ((1 : Int) ≤ q)) && ((decide (q ≤ 2147483647)) && ((decide ((-2147483647) ≤ p)) && ((decide (p ≤ 2147483647)) && (decide (((Nat.gcd ((if p < (-p) then (-p) else p)).toNat (q).toNat : Nat) : Int) = 1)))))) by first | (simp only [c2, c4, Bool.true_and, Bool.false_and, Bool.and_true, Bool.and_false, Bool.true_or, Bool.or_true, Bool.false_or, Bool.or_false, Bool.not_true, Bool.not_false]; done) | simp [c2, c4]⟩, trivial⟩) (fun _ h => h.re [0] [])
    ·
      have p13 := of_decide_eq_false c2
      refine s_skip ?_
      refine s_skip ?_
      refine s_skip ?_
      refine s_lt (t_pure (.bool false)) ?_
      refine s_lt (t_pure (.bool false)) ?_
      refine s_skip ?_
      refine s_skip ?_
      refine s_skip ?_
      refine s_lt (t_pure (.bool false)) ?_
      refine s_lt (t_pure (.bool false)) ?_
      refine s_skip ?_
      refine s_skip ?_
      refine s_skip ?_
      refine s_lt (t_pure (.bool false)) ?_
      refine s_lt (t_pure (.bool false)) ?_
      refine s_skip ?_
      refine s_skip ?_
      refine s_skip ?_
      refine s_skip ?_
      refine s_skip ?_
      refine s_skip ?_
      refine s_skip ?_
      refine s_skip ?_
      refine s_skip ?_
      refine s_skip ?_
      refine s_lt (t_pure (.bool false)) ?_
      refine s_lt (t_pure (.bool false)) ?_
      refine s_nil ?_
      exact xs_cut () trivial (sub_of rfl ⟨⟨rfl, show Value.bool false = Value.bool ((decide ((1 : Int) ≤ q)) && ((decide (q ≤ 2147483647)) && ((decide ((-2147483647) ≤ p)) && ((decide (p ≤ 2147483647)) && (decide (((Nat.gcd ((if p < (-p) then (-p) else p)).toNat (q).toNat : Nat) : Int) = 1)))))) by first | (simp only [c2, Bool.true_and, Bool.false_and, Bool.and_true, Bool.and_false, Bool.true_or, Bool.or_true, Bool.false_or, Bool.or_false, Bool.not_true, Bool.not_false]; done) | simp [c2]⟩, trivial⟩) (fun _ h => h.re [0] [])
  ·
    refine k_ret ?_
    refine xs_fin [.bool ((decide ((1 : Int) ≤ q)) && ((decide (q ≤ 2147483647)) && ((decide ((-2147483647) ≤ p)) && ((decide (p ≤ 2147483647)) && (decide (((Nat.gcd ((if p < (-p) then (-p) else p)).toNat (q).toNat : Nat) : Int) = 1))))))] [] (SI.tmp 2 SI.nil) (fun _ h => h.re [] [0]) ⟨?_, rfl⟩
    exact congrArg Value.bool (validN_eq p q)
theorem rvnum_s {Z : Zone} (p q : Int) : SF Try.prog 68 #[.agg #[.int .i64 p, .int .i64 q]] Z [] fun v Bs => v = .bool (validN p q) ∧ Bs = [] := by
  refine sf_enter Try.func68 30 [(0, .agg #[.int .i64 p, .int .i64 q])] (fun w0 => ?_)
  refine k_seq ?_
  refine k_reg ?_
  refine s_box #[.int .i64 p, .int .i64 q] (fun g1 => ?_)
  refine s_lt (t_pure (.bool false)) ?_
  refine s_nil ?_
  refine xs_then ?_
  refine k_cut (ι := Unit) (fun _ => True) (fun _ => [(2, .bool ((decide ((1 : Int) ≤ q)) && ((decide (q ≤ 2147483647)) && ((decide (p ≤ 2147483647)) && ((decide ((-2147483647) ≤ p)) && (decide (((Nat.gcd ((if p < (-p) then (-p) else p)).toNat (q).toNat : Nat) : Int) = 1)))))))]) (fun _ => [blkA g1 #[.int .i64 p, .int .i64 q] 24]) ?_ (fun _ _ => ?_)
  ·
    refine k_held [blkA g1 #[.int .i64 p, .int .i64 q] 24] ?_
    refine h_lt 0 rfl (np_then np_finS) [0] (fun _ => (t_pure (.pointer (some ⟨g1, 1, none⟩)))) ?_
    refine h_lt 1 rfl (np_then np_finS) [0] (fun _ => (t_load 0 (.int .i64 q))) ?_
    refine h_lt 2 rfl (np_then np_finS) [0] (fun _ => t_cmp) ?_
    refine h_lt 3 rfl (np_then np_finS) [0] (fun _ => (t_pure (.bool (decide ((1 : Int) ≤ q))))) ?_
    refine h_forkS 6 (decide ((1 : Int) ≤ q)) (fun c2 => ?_) (fun c2 => ?_)
    ·
      have p3 := of_decide_eq_true c2
      refine h_lt 4 rfl (np_then np_finS) [0] (fun _ => (t_pure (.pointer (some ⟨g1, 1, none⟩)))) ?_
      refine h_lt 5 rfl (np_then np_finS) [0] (fun _ => (t_load 0 (.int .i64 q))) ?_
      refine h_lt 6 rfl (np_then np_finS) [0] (fun _ => t_cmp) ?_
      refine h_lt 7 rfl (np_then np_finS) [0] (fun _ => (t_pure (.bool (decide (q ≤ 2147483647))))) ?_
      refine h_lt 8 rfl (np_then np_finS) [0] (fun _ => (t_pure (.bool (decide (q ≤ 2147483647))))) ?_
      refine h_forkS 11 (decide (q ≤ 2147483647)) (fun c4 => ?_) (fun c4 => ?_)
      ·
        have p5 := of_decide_eq_true c4
        refine h_lt 9 rfl (np_then np_finS) [0] (fun _ => (t_pure (.pointer (some ⟨g1, 0, none⟩)))) ?_
        refine h_lt 10 rfl (np_then np_finS) [0] (fun _ => (t_load 0 (.int .i64 p))) ?_
        refine h_lt 11 rfl (np_then np_finS) [0] (fun _ => t_cmp) ?_
        refine h_lt 12 rfl (np_then np_finS) [0] (fun _ => (t_pure (.bool (decide (p ≤ 2147483647))))) ?_
        refine h_lt 13 rfl (np_then np_finS) [0] (fun _ => (t_pure (.bool (decide (p ≤ 2147483647))))) ?_
        refine h_forkS 16 (decide (p ≤ 2147483647)) (fun c6 => ?_) (fun c6 => ?_)
        ·
          have p7 := of_decide_eq_true c6
          refine h_lt 14 rfl (np_then np_finS) [0] (fun _ => (t_pure (.pointer (some ⟨g1, 0, none⟩)))) ?_
          refine h_lt 15 rfl (np_then np_finS) [0] (fun _ => (t_load 0 (.int .i64 p))) ?_
          refine h_lt 16 rfl (np_then np_finS) [0] (fun _ => t_cmp) ?_
          refine h_lt 17 rfl (np_then np_finS) [0] (fun _ => (t_pure (.bool (decide ((-2147483647) ≤ p))))) ?_
          refine h_lt 18 rfl (np_then np_finS) [0] (fun _ => (t_pure (.bool (decide ((-2147483647) ≤ p))))) ?_
          refine h_forkS 21 (decide ((-2147483647) ≤ p)) (fun c8 => ?_) (fun c8 => ?_)
          ·
            have p9 := of_decide_eq_true c8
            refine h_lt 19 rfl (np_then np_finS) [0] (fun _ => (t_pure (.pointer (some ⟨g1, 0, none⟩)))) ?_
            refine h_lt 20 rfl (np_then np_finS) [0] (fun _ => (t_load 0 (.int .i64 p))) ?_
            refine h_lt 22 rfl (np_then np_finS) [0] (fun _ => (t_pure (.pointer (some ⟨g1, 1, none⟩)))) ?_
            refine h_lt 23 rfl (np_then np_finS) [0] (fun _ => (t_load 0 (.int .i64 q))) ?_
            refine h_stepS 21 ?_
            refine s_vcall (fun _ h => abs_s p (by omega) (by omega)) ?_
            rintro _ rfl
            refine s_nil (xs_held [0] ?_)
            refine h_stepS 24 ?_
            refine s_vcall (fun _ h => rgcd_i (if p < (-p) then (-p) else p) q (by omega) (by omega)) ?_
            rintro _ rfl
            refine s_nil (xs_held [0] ?_)
            refine h_lt 25 rfl (np_then np_finS) [0] (fun _ => t_cmp) ?_
            refine h_lt 26 rfl (np_then np_finS) [0] (fun _ => (t_pure (.bool (decide (((Nat.gcd ((if p < (-p) then (-p) else p)).toNat (q).toNat : Nat) : Int) = 1))))) ?_
            refine h_lt 27 rfl (np_then np_finS) [0] (fun _ => (t_pure (.bool (decide (((Nat.gcd ((if p < (-p) then (-p) else p)).toNat (q).toNat : Nat) : Int) = 1))))) ?_
            refine h_doneS ?_
            exact xs_cut () trivial (sub_of rfl ⟨⟨rfl, show Value.bool (decide (((Nat.gcd ((if p < (-p) then (-p) else p)).toNat (q).toNat : Nat) : Int) = 1)) = Value.bool ((decide ((1 : Int) ≤ q)) && ((decide (q ≤ 2147483647)) && ((decide (p ≤ 2147483647)) && ((decide ((-2147483647) ≤ p)) && (decide (((Nat.gcd ((if p < (-p) then (-p) else p)).toNat (q).toNat : Nat) : Int) = 1)))))) by first | (simp only [c2, c4, c6, c8, Bool.true_and, Bool.false_and, Bool.and_true, Bool.and_false, Bool.true_or, Bool.or_true, Bool.false_or, Bool.or_false, Bool.not_true, Bool.not_false]; done) | simp [c2, c4, c6, c8]⟩, trivial⟩) (fun _ h => h.re [0] [])
          ·
            have p10 := of_decide_eq_false c8
            refine h_skipS 19 (np_then np_finS) [0] ?_
            refine h_skipS 20 (np_then np_finS) [0] ?_
            refine h_skipS 22 (np_then np_finS) [0] ?_
            refine h_skipS 23 (np_then np_finS) [0] ?_
            refine h_stepS 21 ?_
            refine s_skip ?_
            refine s_nil (xs_held [0] ?_)
            refine h_stepS 24 ?_
            refine s_skip ?_
            refine s_nil (xs_held [0] ?_)
            refine h_skipS 25 (np_then np_finS) [0] ?_
            refine h_lt 26 rfl (np_then np_finS) [0] (fun _ => (t_pure (.bool false))) ?_
            refine h_lt 27 rfl (np_then np_finS) [0] (fun _ => (t_pure (.bool false))) ?_
            refine h_doneS ?_
            exact xs_cut () trivial (sub_of rfl ⟨⟨rfl, show Value.bool false = Value.bool ((decide ((1 : Int) ≤ q)) && ((decide (q ≤ 2147483647)) && ((decide (p ≤ 2147483647)) && ((decide ((-2147483647) ≤ p)) && (decide (((Nat.gcd ((if p < (-p) then (-p) else p)).toNat (q).toNat : Nat) : Int) = 1)))))) by first | (simp only [c2, c4, c6, c8, Bool.true_and, Bool.false_and, Bool.and_true, Bool.and_false, Bool.true_or, Bool.or_true, Bool.false_or, Bool.or_false, Bool.not_true, Bool.not_false]; done) | simp [c2, c4, c6, c8]⟩, trivial⟩) (fun _ h => h.re [0] [])
        ·
          have p11 := of_decide_eq_false c6
          refine h_skipS 14 (np_then np_finS) [0] ?_
          refine h_skipS 15 (np_then np_finS) [0] ?_
          refine h_skipS 16 (np_then np_finS) [0] ?_
          refine h_lt 17 rfl (np_then np_finS) [0] (fun _ => (t_pure (.bool false))) ?_
          refine h_lt 18 rfl (np_then np_finS) [0] (fun _ => (t_pure (.bool false))) ?_
          refine h_skipS 19 (np_then np_finS) [0] ?_
          refine h_skipS 20 (np_then np_finS) [0] ?_
          refine h_skipS 22 (np_then np_finS) [0] ?_
          refine h_skipS 23 (np_then np_finS) [0] ?_
          refine h_stepS 21 ?_
          refine s_skip ?_
          refine s_nil (xs_held [0] ?_)
          refine h_stepS 24 ?_
          refine s_skip ?_
          refine s_nil (xs_held [0] ?_)
          refine h_skipS 25 (np_then np_finS) [0] ?_
          refine h_lt 26 rfl (np_then np_finS) [0] (fun _ => (t_pure (.bool false))) ?_
          refine h_lt 27 rfl (np_then np_finS) [0] (fun _ => (t_pure (.bool false))) ?_
          refine h_doneS ?_
          exact xs_cut () trivial (sub_of rfl ⟨⟨rfl, show Value.bool false = Value.bool ((decide ((1 : Int) ≤ q)) && ((decide (q ≤ 2147483647)) && ((decide (p ≤ 2147483647)) && ((decide ((-2147483647) ≤ p)) && (decide (((Nat.gcd ((if p < (-p) then (-p) else p)).toNat (q).toNat : Nat) : Int) = 1)))))) by first | (simp only [c2, c4, c6, Bool.true_and, Bool.false_and, Bool.and_true, Bool.and_false, Bool.true_or, Bool.or_true, Bool.false_or, Bool.or_false, Bool.not_true, Bool.not_false]; done) | simp [c2, c4, c6]⟩, trivial⟩) (fun _ h => h.re [0] [])
      ·
        have p12 := of_decide_eq_false c4
        refine h_skipS 9 (np_then np_finS) [0] ?_
        refine h_skipS 10 (np_then np_finS) [0] ?_
        refine h_skipS 11 (np_then np_finS) [0] ?_
        refine h_lt 12 rfl (np_then np_finS) [0] (fun _ => (t_pure (.bool false))) ?_
        refine h_lt 13 rfl (np_then np_finS) [0] (fun _ => (t_pure (.bool false))) ?_
        refine h_skipS 14 (np_then np_finS) [0] ?_
        refine h_skipS 15 (np_then np_finS) [0] ?_
        refine h_skipS 16 (np_then np_finS) [0] ?_
        refine h_lt 17 rfl (np_then np_finS) [0] (fun _ => (t_pure (.bool false))) ?_
        refine h_lt 18 rfl (np_then np_finS) [0] (fun _ => (t_pure (.bool false))) ?_
        refine h_skipS 19 (np_then np_finS) [0] ?_
        refine h_skipS 20 (np_then np_finS) [0] ?_
        refine h_skipS 22 (np_then np_finS) [0] ?_
        refine h_skipS 23 (np_then np_finS) [0] ?_
        refine h_stepS 21 ?_
        refine s_skip ?_
        refine s_nil (xs_held [0] ?_)
        refine h_stepS 24 ?_
        refine s_skip ?_
        refine s_nil (xs_held [0] ?_)
        refine h_skipS 25 (np_then np_finS) [0] ?_
        refine h_lt 26 rfl (np_then np_finS) [0] (fun _ => (t_pure (.bool false))) ?_
        refine h_lt 27 rfl (np_then np_finS) [0] (fun _ => (t_pure (.bool false))) ?_
        refine h_doneS ?_
        exact xs_cut () trivial (sub_of rfl ⟨⟨rfl, show Value.bool false = Value.bool ((decide ((1 : Int) ≤ q)) && ((decide (q ≤ 2147483647)) && ((decide (p ≤ 2147483647)) && ((decide ((-2147483647) ≤ p)) && (decide (((Nat.gcd ((if p < (-p) then (-p) else p)).toNat (q).toNat : Nat) : Int) = 1)))))) by first | (simp only [c2, c4, Bool.true_and, Bool.false_and, Bool.and_true, Bool.and_false, Bool.true_or, Bool.or_true, Bool.false_or, Bool.or_false, Bool.not_true, Bool.not_false]; done) | simp [c2, c4]⟩, trivial⟩) (fun _ h => h.re [0] [])
    ·
      have p13 := of_decide_eq_false c2
      refine h_skipS 4 (np_then np_finS) [0] ?_
      refine h_skipS 5 (np_then np_finS) [0] ?_
      refine h_skipS 6 (np_then np_finS) [0] ?_
      refine h_lt 7 rfl (np_then np_finS) [0] (fun _ => (t_pure (.bool false))) ?_
      refine h_lt 8 rfl (np_then np_finS) [0] (fun _ => (t_pure (.bool false))) ?_
      refine h_skipS 9 (np_then np_finS) [0] ?_
      refine h_skipS 10 (np_then np_finS) [0] ?_
      refine h_skipS 11 (np_then np_finS) [0] ?_
      refine h_lt 12 rfl (np_then np_finS) [0] (fun _ => (t_pure (.bool false))) ?_
      refine h_lt 13 rfl (np_then np_finS) [0] (fun _ => (t_pure (.bool false))) ?_
      refine h_skipS 14 (np_then np_finS) [0] ?_
      refine h_skipS 15 (np_then np_finS) [0] ?_
      refine h_skipS 16 (np_then np_finS) [0] ?_
      refine h_lt 17 rfl (np_then np_finS) [0] (fun _ => (t_pure (.bool false))) ?_
      refine h_lt 18 rfl (np_then np_finS) [0] (fun _ => (t_pure (.bool false))) ?_
      refine h_skipS 19 (np_then np_finS) [0] ?_
      refine h_skipS 20 (np_then np_finS) [0] ?_
      refine h_skipS 22 (np_then np_finS) [0] ?_
      refine h_skipS 23 (np_then np_finS) [0] ?_
      refine h_stepS 21 ?_
      refine s_skip ?_
      refine s_nil (xs_held [0] ?_)
      refine h_stepS 24 ?_
      refine s_skip ?_
      refine s_nil (xs_held [0] ?_)
      refine h_skipS 25 (np_then np_finS) [0] ?_
      refine h_lt 26 rfl (np_then np_finS) [0] (fun _ => (t_pure (.bool false))) ?_
      refine h_lt 27 rfl (np_then np_finS) [0] (fun _ => (t_pure (.bool false))) ?_
      refine h_doneS ?_
      exact xs_cut () trivial (sub_of rfl ⟨⟨rfl, show Value.bool false = Value.bool ((decide ((1 : Int) ≤ q)) && ((decide (q ≤ 2147483647)) && ((decide (p ≤ 2147483647)) && ((decide ((-2147483647) ≤ p)) && (decide (((Nat.gcd ((if p < (-p) then (-p) else p)).toNat (q).toNat : Nat) : Int) = 1)))))) by first | (simp only [c2, Bool.true_and, Bool.false_and, Bool.and_true, Bool.and_false, Bool.true_or, Bool.or_true, Bool.false_or, Bool.or_false, Bool.not_true, Bool.not_false]; done) | simp [c2]⟩, trivial⟩) (fun _ h => h.re [0] [])
  ·
    refine k_ret ?_
    refine xs_fin [.bool ((decide ((1 : Int) ≤ q)) && ((decide (q ≤ 2147483647)) && ((decide (p ≤ 2147483647)) && ((decide ((-2147483647) ≤ p)) && (decide (((Nat.gcd ((if p < (-p) then (-p) else p)).toNat (q).toNat : Nat) : Int) = 1))))))] [] (SI.tmp 2 SI.nil) (fun _ h => h.re [] [0]) ⟨?_, rfl⟩
    exact congrArg Value.bool (rvalidN_eq p q)
theorem valid_s {Z : Zone} (v : Vl) : SF Try.prog 42 #[v.v] Z [] fun r Bs => r = .bool (validB v) ∧ Bs = [] := by
 refine sf_enter Try.func42 74 [(0, .agg #[.int .i64 v.kind, .int .i64 v.p, .int .i64 v.q, .string v.str, .int .i64 v.ref])] (fun w0 => ?_)
 refine k_sr ?_
 refine s_box #[.int .i64 v.kind, .int .i64 v.p, .int .i64 v.q, .string v.str, .int .i64 v.ref] (fun g1 => ?_)
 refine sp (.bool false) ?_
 refine s_nr ?_
 refine sp (pB g1 0) ?_
 refine s_lt (t_load 0 (.int .i64 v.kind)) ?_
 refine s_lt (t_kern (.agg #[.int .i64 v.kind, .int .i64 0, .int .i64 0, .string ByteArray.empty, .int .i64 0])) ?_
 refine s_alloc (.agg #[.int .i64 0, .int .i64 0, .int .i64 0, .string ByteArray.empty, .int .i64 0]) #[.int .i64 0, .int .i64 0, .int .i64 0, .string ByteArray.empty, .int .i64 0] (fun g2 => ?_)
 refine s_store 0 #[.int .i64 v.kind, .int .i64 0, .int .i64 0, .string ByteArray.empty, .int .i64 0] ?_
 refine s_nr ?_
 refine sp (.bool true) ?_
 refine s_nt ?_
 refine k_seq ?_
 refine k_sr ?_
 refine sp (pB g1 0) ?_
 refine s_lt (t_load 1 (.int .i64 v.kind)) ?_
 refine s_nt ?_
 refine k_block ?_
 refine k_sr ?_
 refine s_lt t_cmp ?_
 refine sp (.bool (decide (v.kind = 0))) ?_
 refine s_nt ?_
 refine k_cond (decide (v.kind = 0)) (fun c3 => ?_) (fun c3 => ?_)
 ·
  have p4 := of_decide_eq_true c3
  refine k_skip ?_
  refine xs_block ?_
  refine xs_then ?_
  refine k_sr ?_
  refine sp (.bool true) ?_
  refine sp (.bool true) ?_
  refine s_lt (t_loadA 1 #[.int .i64 v.kind, .int .i64 v.p, .int .i64 v.q, .string v.str, .int .i64 v.ref]) ?_
  refine s_lt (t_loadA 0 #[.int .i64 v.kind, .int .i64 0, .int .i64 0, .string ByteArray.empty, .int .i64 0]) ?_
  refine s_lt (t_eqS (fun w => (eqVlT v (⟨v.kind, 0, 0, ByteArray.empty, 0⟩ : Vl) w).1)) ?_
  refine sp (.bool (decide (v = (⟨v.kind, 0, 0, ByteArray.empty, 0⟩ : Vl)))) ?_
  refine sp (.bool (decide (v = (⟨v.kind, 0, 0, ByteArray.empty, 0⟩ : Vl)))) ?_
  refine s_nt ?_
  refine k_ret ?_
  refine xs_fin [.bool (decide (v = (⟨v.kind, 0, 0, ByteArray.empty, 0⟩ : Vl)))] [] (SI.tmp 2 SI.nil) (fun _ h => h.re [] [0, 0]) ⟨?_, rfl⟩
  refine congrArg Value.bool ?_
  first | (simp [validB, p4]; done) | (rw [Bool.and_comm]; simp [validB, p4]; done) | (rw [Bool.eq_iff_iff]; simp [validB, p4, and_comm, and_left_comm, and_assoc]; done)
 ·
  have p5 := of_decide_eq_false c3
  refine k_sr ?_
  refine s_lt t_cmp ?_
  refine sp (.bool (decide (v.kind = 1))) ?_
  refine s_nt ?_
  refine k_cond (decide (v.kind = 1)) (fun c6 => ?_) (fun c6 => ?_)
  ·
   have p7 := of_decide_eq_true c6
   refine k_sr ?_
   refine sp (pB g1 4) ?_
   refine s_lt (t_load 1 (.int .i64 v.ref)) ?_
   refine sp (pB g2 4) ?_
   refine s_store 0 #[.int .i64 v.kind, .int .i64 0, .int .i64 0, .string ByteArray.empty, .int .i64 v.ref] ?_
   refine s_nt ?_
   refine k_reg ?_
   refine sp (pB g1 4) ?_
   refine s_lt (t_load 1 (.int .i64 v.ref)) ?_
   refine s_lt t_cmp ?_
   refine sp (.bool (decide (v.ref = 0))) ?_
   refine s_fork 20 (decide (v.ref = 0)) (fun c8 => ?_) (fun c8 => ?_)
   ·
    have p9 := of_decide_eq_true c8
    refine s_skip ?_
    refine s_skip ?_
    refine s_skip ?_
    refine sp (.bool true) ?_
    refine sp (.bool true) ?_
    refine s_nil ?_
    refine xs_block ?_
    refine xs_then ?_
    refine k_sr ?_
    refine sp (.bool true) ?_
    refine sp (.bool true) ?_
    refine s_lt (t_loadA 1 #[.int .i64 v.kind, .int .i64 v.p, .int .i64 v.q, .string v.str, .int .i64 v.ref]) ?_
    refine s_lt (t_loadA 0 #[.int .i64 v.kind, .int .i64 0, .int .i64 0, .string ByteArray.empty, .int .i64 v.ref]) ?_
    refine s_lt (t_eqS (fun w => (eqVlT v (⟨v.kind, 0, 0, ByteArray.empty, v.ref⟩ : Vl) w).1)) ?_
    refine sp (.bool (decide (v = (⟨v.kind, 0, 0, ByteArray.empty, v.ref⟩ : Vl)))) ?_
    refine sp (.bool (decide (v = (⟨v.kind, 0, 0, ByteArray.empty, v.ref⟩ : Vl)))) ?_
    refine s_nt ?_
    refine k_ret ?_
    refine xs_fin [.bool (decide (v = (⟨v.kind, 0, 0, ByteArray.empty, v.ref⟩ : Vl)))] [] (SI.tmp 2 SI.nil) (fun _ h => h.re [] [0, 0]) ⟨?_, rfl⟩
    refine congrArg Value.bool ?_
    first | (simp [validB, p5, p7, p9]; done) | (rw [Bool.and_comm]; simp [validB, p5, p7, p9]; done) | (rw [Bool.eq_iff_iff]; simp [validB, p5, p7, p9, and_comm, and_left_comm, and_assoc]; done)
   ·
    have p10 := of_decide_eq_false c8
    refine sp (pB g1 4) ?_
    refine s_lt (t_load 1 (.int .i64 v.ref)) ?_
    refine s_lt t_cmp ?_
    refine sp (.bool (decide (v.ref = 1))) ?_
    refine sp (.bool (decide (v.ref = 1))) ?_
    refine s_nil ?_
    refine xs_block ?_
    refine xs_then ?_
    refine k_cut (ι := Unit) (fun _ => True) (fun _ => [(2, .bool ((decide (v.ref = 1)) && (decide (v = (⟨v.kind, 0, 0, ByteArray.empty, v.ref⟩ : Vl)))))]) (fun _ => [blkA g2 #[.int .i64 v.kind, .int .i64 0, .int .i64 0, .string ByteArray.empty, .int .i64 v.ref] 26, blkA g1 #[.int .i64 v.kind, .int .i64 v.p, .int .i64 v.q, .string v.str, .int .i64 v.ref] 26]) ?_ (fun _ _ => ?_)
    ·
     refine k_reg ?_
     refine sp (.bool (decide (v.ref = 1))) ?_
     refine sp (.bool (decide (v.ref = 1))) ?_
     refine s_fork 69 (decide (v.ref = 1)) (fun c11 => ?_) (fun c11 => ?_)
     ·
      have p12 := of_decide_eq_true c11
      refine s_lt (t_loadA 1 #[.int .i64 v.kind, .int .i64 v.p, .int .i64 v.q, .string v.str, .int .i64 v.ref]) ?_
      refine s_lt (t_loadA 0 #[.int .i64 v.kind, .int .i64 0, .int .i64 0, .string ByteArray.empty, .int .i64 v.ref]) ?_
      refine s_lt (t_eqS (fun w => (eqVlT v (⟨v.kind, 0, 0, ByteArray.empty, v.ref⟩ : Vl) w).1)) ?_
      refine sp (.bool (decide (v = (⟨v.kind, 0, 0, ByteArray.empty, v.ref⟩ : Vl)))) ?_
      refine sp (.bool (decide (v = (⟨v.kind, 0, 0, ByteArray.empty, v.ref⟩ : Vl)))) ?_
      refine s_nil ?_
      exact xs_cut () trivial (sub_of rfl ⟨⟨rfl, show Value.bool (decide (v = (⟨v.kind, 0, 0, ByteArray.empty, v.ref⟩ : Vl))) = Value.bool ((decide (v.ref = 1)) && (decide (v = (⟨v.kind, 0, 0, ByteArray.empty, v.ref⟩ : Vl)))) by first | (simp only [c11, bls]; done) | simp [c11]⟩, trivial⟩) (fun _ h => h.re [0, 0] [])
     ·
      have p13 := of_decide_eq_false c11
      refine s_skip ?_
      refine s_skip ?_
      refine s_skip ?_
      refine sp (.bool false) ?_
      refine sp (.bool false) ?_
      refine s_nil ?_
      exact xs_cut () trivial (sub_of rfl ⟨⟨rfl, show Value.bool false = Value.bool ((decide (v.ref = 1)) && (decide (v = (⟨v.kind, 0, 0, ByteArray.empty, v.ref⟩ : Vl)))) by first | (simp only [c11, bls]; done) | simp [c11]⟩, trivial⟩) (fun _ h => h.re [0, 0] [])
    ·
     refine k_ret ?_
     refine xs_fin [.bool ((decide (v.ref = 1)) && (decide (v = (⟨v.kind, 0, 0, ByteArray.empty, v.ref⟩ : Vl))))] [] (SI.tmp 2 SI.nil) (fun _ h => h.re [] [0, 0]) ⟨?_, rfl⟩
     refine congrArg Value.bool ?_
     first | (simp [validB, p5, p7, p10]; done) | (rw [Bool.and_comm]; simp [validB, p5, p7, p10]; done) | (rw [Bool.eq_iff_iff]; simp [validB, p5, p7, p10, and_comm, and_left_comm, and_assoc]; done)
  ·
   have p14 := of_decide_eq_false c6
   refine k_sr ?_
   refine s_lt t_cmp ?_
   refine sp (.bool (decide (v.kind = 2))) ?_
   refine s_nt ?_
   refine k_cond (decide (v.kind = 2)) (fun c15 => ?_) (fun c15 => ?_)
   ·
    have p16 := of_decide_eq_true c15
    refine k_sr ?_
    refine sp (pB g1 1) ?_
    refine s_lt (t_loadA 1 #[.int .i64 v.p, .int .i64 v.q]) ?_
    refine sp (pB g2 1) ?_
    refine s_store 0 #[.int .i64 v.kind, .int .i64 v.p, .int .i64 v.q, .string ByteArray.empty, .int .i64 0] ?_
    refine s_nt ?_
    refine k_reg ?_
    refine sp (pB g1 1) ?_
    refine s_lt (t_loadA 1 #[.int .i64 v.p, .int .i64 v.q]) ?_
    refine s_vcall (fun _ h => vnum_s v.p v.q) ?_
    rintro _ rfl
    refine sp (.bool (validN v.p v.q)) ?_
    refine s_nil ?_
    refine xs_block ?_
    refine xs_then ?_
    refine k_cut (ι := Unit) (fun _ => True) (fun _ => [(2, .bool ((validN v.p v.q) && (decide (v = (⟨v.kind, v.p, v.q, ByteArray.empty, 0⟩ : Vl)))))]) (fun _ => [blkA g2 #[.int .i64 v.kind, .int .i64 v.p, .int .i64 v.q, .string ByteArray.empty, .int .i64 0] 26, blkA g1 #[.int .i64 v.kind, .int .i64 v.p, .int .i64 v.q, .string v.str, .int .i64 v.ref] 26]) ?_ (fun _ _ => ?_)
    ·
     refine k_reg ?_
     refine sp (.bool (validN v.p v.q)) ?_
     refine sp (.bool (validN v.p v.q)) ?_
     refine s_fork 69 (validN v.p v.q) (fun c17 => ?_) (fun c17 => ?_)
     ·
      refine s_lt (t_loadA 1 #[.int .i64 v.kind, .int .i64 v.p, .int .i64 v.q, .string v.str, .int .i64 v.ref]) ?_
      refine s_lt (t_loadA 0 #[.int .i64 v.kind, .int .i64 v.p, .int .i64 v.q, .string ByteArray.empty, .int .i64 0]) ?_
      refine s_lt (t_eqS (fun w => (eqVlT v (⟨v.kind, v.p, v.q, ByteArray.empty, 0⟩ : Vl) w).1)) ?_
      refine sp (.bool (decide (v = (⟨v.kind, v.p, v.q, ByteArray.empty, 0⟩ : Vl)))) ?_
      refine sp (.bool (decide (v = (⟨v.kind, v.p, v.q, ByteArray.empty, 0⟩ : Vl)))) ?_
      refine s_nil ?_
      exact xs_cut () trivial (sub_of rfl ⟨⟨rfl, show Value.bool (decide (v = (⟨v.kind, v.p, v.q, ByteArray.empty, 0⟩ : Vl))) = Value.bool ((validN v.p v.q) && (decide (v = (⟨v.kind, v.p, v.q, ByteArray.empty, 0⟩ : Vl)))) by first | (simp only [c17, bls]; done) | simp [c17]⟩, trivial⟩) (fun _ h => h.re [0, 0] [])
     ·
      refine s_skip ?_
      refine s_skip ?_
      refine s_skip ?_
      refine sp (.bool false) ?_
      refine sp (.bool false) ?_
      refine s_nil ?_
      exact xs_cut () trivial (sub_of rfl ⟨⟨rfl, show Value.bool false = Value.bool ((validN v.p v.q) && (decide (v = (⟨v.kind, v.p, v.q, ByteArray.empty, 0⟩ : Vl)))) by first | (simp only [c17, bls]; done) | simp [c17]⟩, trivial⟩) (fun _ h => h.re [0, 0] [])
    ·
     refine k_ret ?_
     refine xs_fin [.bool ((validN v.p v.q) && (decide (v = (⟨v.kind, v.p, v.q, ByteArray.empty, 0⟩ : Vl))))] [] (SI.tmp 2 SI.nil) (fun _ h => h.re [] [0, 0]) ⟨?_, rfl⟩
     refine congrArg Value.bool ?_
     first | (simp [validB, p5, p14, p16]; done) | (rw [Bool.and_comm]; simp [validB, p5, p14, p16]; done) | (rw [Bool.eq_iff_iff]; simp [validB, p5, p14, p16, and_comm, and_left_comm, and_assoc]; done)
   ·
    have p18 := of_decide_eq_false c15
    refine k_sr ?_
    refine s_lt t_cmp ?_
    refine sp (.bool (decide (v.kind = 3))) ?_
    refine s_nt ?_
    refine k_cond (decide (v.kind = 3)) (fun c19 => ?_) (fun c19 => ?_)
    ·
     have p20 := of_decide_eq_true c19
     refine k_sr ?_
     refine sp (pB g1 3) ?_
     refine s_lt (t_load 1 (.string v.str)) ?_
     refine sp (pB g2 3) ?_
     refine s_store 0 #[.int .i64 v.kind, .int .i64 0, .int .i64 0, .string v.str, .int .i64 0] ?_
     refine s_nt ?_
     refine k_reg ?_
     refine sp (pB g1 3) ?_
     refine s_lt (t_load 1 (.string v.str)) ?_
     refine s_lt (t_kern (.int .i64 (v.str.size : Int))) ?_
     refine s_lt t_cmp ?_
     refine sp (.bool (decide ((v.str.size : Int) ≤ 4096))) ?_
     refine s_nil ?_
     refine xs_block ?_
     refine xs_then ?_
     refine k_cut (ι := Unit) (fun _ => True) (fun _ => [(2, .bool ((decide ((v.str.size : Int) ≤ 4096)) && (decide (v = (⟨v.kind, 0, 0, v.str, 0⟩ : Vl)))))]) (fun _ => [blkA g2 #[.int .i64 v.kind, .int .i64 0, .int .i64 0, .string v.str, .int .i64 0] 26, blkA g1 #[.int .i64 v.kind, .int .i64 v.p, .int .i64 v.q, .string v.str, .int .i64 v.ref] 26]) ?_ (fun _ _ => ?_)
     ·
      refine k_reg ?_
      refine sp (.bool (decide ((v.str.size : Int) ≤ 4096))) ?_
      refine sp (.bool (decide ((v.str.size : Int) ≤ 4096))) ?_
      refine s_fork 69 (decide ((v.str.size : Int) ≤ 4096)) (fun c21 => ?_) (fun c21 => ?_)
      ·
       have p22 := of_decide_eq_true c21
       refine s_lt (t_loadA 1 #[.int .i64 v.kind, .int .i64 v.p, .int .i64 v.q, .string v.str, .int .i64 v.ref]) ?_
       refine s_lt (t_loadA 0 #[.int .i64 v.kind, .int .i64 0, .int .i64 0, .string v.str, .int .i64 0]) ?_
       refine s_lt (t_eqS (fun w => (eqVlT v (⟨v.kind, 0, 0, v.str, 0⟩ : Vl) w).1)) ?_
       refine sp (.bool (decide (v = (⟨v.kind, 0, 0, v.str, 0⟩ : Vl)))) ?_
       refine sp (.bool (decide (v = (⟨v.kind, 0, 0, v.str, 0⟩ : Vl)))) ?_
       refine s_nil ?_
       exact xs_cut () trivial (sub_of rfl ⟨⟨rfl, show Value.bool (decide (v = (⟨v.kind, 0, 0, v.str, 0⟩ : Vl))) = Value.bool ((decide ((v.str.size : Int) ≤ 4096)) && (decide (v = (⟨v.kind, 0, 0, v.str, 0⟩ : Vl)))) by first | (simp only [c21, bls]; done) | simp [c21]⟩, trivial⟩) (fun _ h => h.re [0, 0] [])
      ·
       have p23 := of_decide_eq_false c21
       refine s_skip ?_
       refine s_skip ?_
       refine s_skip ?_
       refine sp (.bool false) ?_
       refine sp (.bool false) ?_
       refine s_nil ?_
       exact xs_cut () trivial (sub_of rfl ⟨⟨rfl, show Value.bool false = Value.bool ((decide ((v.str.size : Int) ≤ 4096)) && (decide (v = (⟨v.kind, 0, 0, v.str, 0⟩ : Vl)))) by first | (simp only [c21, bls]; done) | simp [c21]⟩, trivial⟩) (fun _ h => h.re [0, 0] [])
     ·
      refine k_ret ?_
      refine xs_fin [.bool ((decide ((v.str.size : Int) ≤ 4096)) && (decide (v = (⟨v.kind, 0, 0, v.str, 0⟩ : Vl))))] [] (SI.tmp 2 SI.nil) (fun _ h => h.re [] [0, 0]) ⟨?_, rfl⟩
      refine congrArg Value.bool ?_
      first | (simp [validB, p5, p14, p18, p20]; done) | (rw [Bool.and_comm]; simp [validB, p5, p14, p18, p20]; done) | (rw [Bool.eq_iff_iff]; simp [validB, p5, p14, p18, p20, and_comm, and_left_comm, and_assoc]; done)
    ·
     have p24 := of_decide_eq_false c19
     refine k_seq ?_
     refine k_sr ?_
     refine s_lt t_cmp ?_
     refine sp (.bool (decide (v.kind = 4))) ?_
     refine s_nt ?_
     refine k_cond (decide (v.kind = 4)) (fun c25 => ?_) (fun c25 => ?_)
     ·
      have p26 := of_decide_eq_true c25
      refine k_st ?_
      refine k_true (hv := congrArg Value.bool c25) ?_
      refine k_sr ?_
      refine sp (pB g1 4) ?_
      refine s_lt (t_load 1 (.int .i64 v.ref)) ?_
      refine sp (pB g2 4) ?_
      refine s_store 0 #[.int .i64 v.kind, .int .i64 0, .int .i64 0, .string ByteArray.empty, .int .i64 v.ref] ?_
      refine s_nt ?_
      refine k_reg ?_
      refine sp (pB g1 4) ?_
      refine s_lt (t_load 1 (.int .i64 v.ref)) ?_
      refine s_lt t_cmp ?_
      refine sp (.bool (decide ((1 : Int) ≤ v.ref))) ?_
      refine s_nil ?_
      refine xs_block ?_
      refine xs_then ?_
      refine k_cut (ι := Unit) (fun _ => True) (fun _ => [(2, .bool ((decide ((1 : Int) ≤ v.ref)) && (decide (v = (⟨v.kind, 0, 0, ByteArray.empty, v.ref⟩ : Vl)))))]) (fun _ => [blkA g2 #[.int .i64 v.kind, .int .i64 0, .int .i64 0, .string ByteArray.empty, .int .i64 v.ref] 26, blkA g1 #[.int .i64 v.kind, .int .i64 v.p, .int .i64 v.q, .string v.str, .int .i64 v.ref] 26]) ?_ (fun _ _ => ?_)
      ·
       refine k_reg ?_
       refine sp (.bool (decide ((1 : Int) ≤ v.ref))) ?_
       refine sp (.bool (decide ((1 : Int) ≤ v.ref))) ?_
       refine s_fork 69 (decide ((1 : Int) ≤ v.ref)) (fun c27 => ?_) (fun c27 => ?_)
       ·
        have p28 := of_decide_eq_true c27
        refine s_lt (t_loadA 1 #[.int .i64 v.kind, .int .i64 v.p, .int .i64 v.q, .string v.str, .int .i64 v.ref]) ?_
        refine s_lt (t_loadA 0 #[.int .i64 v.kind, .int .i64 0, .int .i64 0, .string ByteArray.empty, .int .i64 v.ref]) ?_
        refine s_lt (t_eqS (fun w => (eqVlT v (⟨v.kind, 0, 0, ByteArray.empty, v.ref⟩ : Vl) w).1)) ?_
        refine sp (.bool (decide (v = (⟨v.kind, 0, 0, ByteArray.empty, v.ref⟩ : Vl)))) ?_
        refine sp (.bool (decide (v = (⟨v.kind, 0, 0, ByteArray.empty, v.ref⟩ : Vl)))) ?_
        refine s_nil ?_
        exact xs_cut () trivial (sub_of rfl ⟨⟨rfl, show Value.bool (decide (v = (⟨v.kind, 0, 0, ByteArray.empty, v.ref⟩ : Vl))) = Value.bool ((decide ((1 : Int) ≤ v.ref)) && (decide (v = (⟨v.kind, 0, 0, ByteArray.empty, v.ref⟩ : Vl)))) by first | (simp only [c27, bls]; done) | simp [c27]⟩, trivial⟩) (fun _ h => h.re [0, 0] [])
       ·
        have p29 := of_decide_eq_false c27
        refine s_skip ?_
        refine s_skip ?_
        refine s_skip ?_
        refine sp (.bool false) ?_
        refine sp (.bool false) ?_
        refine s_nil ?_
        exact xs_cut () trivial (sub_of rfl ⟨⟨rfl, show Value.bool false = Value.bool ((decide ((1 : Int) ≤ v.ref)) && (decide (v = (⟨v.kind, 0, 0, ByteArray.empty, v.ref⟩ : Vl)))) by first | (simp only [c27, bls]; done) | simp [c27]⟩, trivial⟩) (fun _ h => h.re [0, 0] [])
      ·
       refine k_ret ?_
       refine xs_fin [.bool ((decide ((1 : Int) ≤ v.ref)) && (decide (v = (⟨v.kind, 0, 0, ByteArray.empty, v.ref⟩ : Vl))))] [] (SI.tmp 2 SI.nil) (fun _ h => h.re [] [0, 0]) ⟨?_, rfl⟩
       refine congrArg Value.bool ?_
       first | (simp [validB, p5, p14, p18, p24, p26]; done) | (rw [Bool.and_comm]; simp [validB, p5, p14, p18, p24, p26]; done) | (rw [Bool.eq_iff_iff]; simp [validB, p5, p14, p18, p24, p26, and_comm, and_left_comm, and_assoc]; done)
     ·
      have p30 := of_decide_eq_false c25
      refine k_sr ?_
      refine s_lt t_cmp ?_
      refine sp (.bool (decide (v.kind = 5))) ?_
      refine s_nt ?_
      refine k_cond (decide (v.kind = 5)) (fun c31 => ?_) (fun c31 => ?_)
      ·
       have p32 := of_decide_eq_true c31
       refine k_st ?_
       refine k_true (hv := congrArg Value.bool c31) ?_
       refine k_sr ?_
       refine sp (pB g1 4) ?_
       refine s_lt (t_load 1 (.int .i64 v.ref)) ?_
       refine sp (pB g2 4) ?_
       refine s_store 0 #[.int .i64 v.kind, .int .i64 0, .int .i64 0, .string ByteArray.empty, .int .i64 v.ref] ?_
       refine s_nt ?_
       refine k_reg ?_
       refine sp (pB g1 4) ?_
       refine s_lt (t_load 1 (.int .i64 v.ref)) ?_
       refine s_lt t_cmp ?_
       refine sp (.bool (decide ((1 : Int) ≤ v.ref))) ?_
       refine s_nil ?_
       refine xs_block ?_
       refine xs_then ?_
       refine k_cut (ι := Unit) (fun _ => True) (fun _ => [(2, .bool ((decide ((1 : Int) ≤ v.ref)) && (decide (v = (⟨v.kind, 0, 0, ByteArray.empty, v.ref⟩ : Vl)))))]) (fun _ => [blkA g2 #[.int .i64 v.kind, .int .i64 0, .int .i64 0, .string ByteArray.empty, .int .i64 v.ref] 26, blkA g1 #[.int .i64 v.kind, .int .i64 v.p, .int .i64 v.q, .string v.str, .int .i64 v.ref] 26]) ?_ (fun _ _ => ?_)
       ·
        refine k_reg ?_
        refine sp (.bool (decide ((1 : Int) ≤ v.ref))) ?_
        refine sp (.bool (decide ((1 : Int) ≤ v.ref))) ?_
        refine s_fork 69 (decide ((1 : Int) ≤ v.ref)) (fun c33 => ?_) (fun c33 => ?_)
        ·
         have p34 := of_decide_eq_true c33
         refine s_lt (t_loadA 1 #[.int .i64 v.kind, .int .i64 v.p, .int .i64 v.q, .string v.str, .int .i64 v.ref]) ?_
         refine s_lt (t_loadA 0 #[.int .i64 v.kind, .int .i64 0, .int .i64 0, .string ByteArray.empty, .int .i64 v.ref]) ?_
         refine s_lt (t_eqS (fun w => (eqVlT v (⟨v.kind, 0, 0, ByteArray.empty, v.ref⟩ : Vl) w).1)) ?_
         refine sp (.bool (decide (v = (⟨v.kind, 0, 0, ByteArray.empty, v.ref⟩ : Vl)))) ?_
         refine sp (.bool (decide (v = (⟨v.kind, 0, 0, ByteArray.empty, v.ref⟩ : Vl)))) ?_
         refine s_nil ?_
         exact xs_cut () trivial (sub_of rfl ⟨⟨rfl, show Value.bool (decide (v = (⟨v.kind, 0, 0, ByteArray.empty, v.ref⟩ : Vl))) = Value.bool ((decide ((1 : Int) ≤ v.ref)) && (decide (v = (⟨v.kind, 0, 0, ByteArray.empty, v.ref⟩ : Vl)))) by first | (simp only [c33, bls]; done) | simp [c33]⟩, trivial⟩) (fun _ h => h.re [0, 0] [])
        ·
         have p35 := of_decide_eq_false c33
         refine s_skip ?_
         refine s_skip ?_
         refine s_skip ?_
         refine sp (.bool false) ?_
         refine sp (.bool false) ?_
         refine s_nil ?_
         exact xs_cut () trivial (sub_of rfl ⟨⟨rfl, show Value.bool false = Value.bool ((decide ((1 : Int) ≤ v.ref)) && (decide (v = (⟨v.kind, 0, 0, ByteArray.empty, v.ref⟩ : Vl)))) by first | (simp only [c33, bls]; done) | simp [c33]⟩, trivial⟩) (fun _ h => h.re [0, 0] [])
       ·
        refine k_ret ?_
        refine xs_fin [.bool ((decide ((1 : Int) ≤ v.ref)) && (decide (v = (⟨v.kind, 0, 0, ByteArray.empty, v.ref⟩ : Vl))))] [] (SI.tmp 2 SI.nil) (fun _ h => h.re [] [0, 0]) ⟨?_, rfl⟩
        refine congrArg Value.bool ?_
        first | (simp [validB, p5, p14, p18, p24, p30, p32]; done) | (rw [Bool.and_comm]; simp [validB, p5, p14, p18, p24, p30, p32]; done) | (rw [Bool.eq_iff_iff]; simp [validB, p5, p14, p18, p24, p30, p32, and_comm, and_left_comm, and_assoc]; done)
      ·
       have p36 := of_decide_eq_false c31
       refine k_sr ?_
       refine s_lt t_cmp ?_
       refine sp (.bool (decide (v.kind = 7))) ?_
       refine s_nt ?_
       refine k_cond (decide (v.kind = 7)) (fun c37 => ?_) (fun c37 => ?_)
       ·
        have p38 := of_decide_eq_true c37
        refine k_st ?_
        refine k_true (hv := congrArg Value.bool c37) ?_
        refine k_sr ?_
        refine sp (pB g1 4) ?_
        refine s_lt (t_load 1 (.int .i64 v.ref)) ?_
        refine sp (pB g2 4) ?_
        refine s_store 0 #[.int .i64 v.kind, .int .i64 0, .int .i64 0, .string ByteArray.empty, .int .i64 v.ref] ?_
        refine s_nt ?_
        refine k_reg ?_
        refine sp (pB g1 4) ?_
        refine s_lt (t_load 1 (.int .i64 v.ref)) ?_
        refine s_lt t_cmp ?_
        refine sp (.bool (decide ((1 : Int) ≤ v.ref))) ?_
        refine s_nil ?_
        refine xs_block ?_
        refine xs_then ?_
        refine k_cut (ι := Unit) (fun _ => True) (fun _ => [(2, .bool ((decide ((1 : Int) ≤ v.ref)) && (decide (v = (⟨v.kind, 0, 0, ByteArray.empty, v.ref⟩ : Vl)))))]) (fun _ => [blkA g2 #[.int .i64 v.kind, .int .i64 0, .int .i64 0, .string ByteArray.empty, .int .i64 v.ref] 26, blkA g1 #[.int .i64 v.kind, .int .i64 v.p, .int .i64 v.q, .string v.str, .int .i64 v.ref] 26]) ?_ (fun _ _ => ?_)
        ·
         refine k_reg ?_
         refine sp (.bool (decide ((1 : Int) ≤ v.ref))) ?_
         refine sp (.bool (decide ((1 : Int) ≤ v.ref))) ?_
         refine s_fork 69 (decide ((1 : Int) ≤ v.ref)) (fun c39 => ?_) (fun c39 => ?_)
         ·
          have p40 := of_decide_eq_true c39
          refine s_lt (t_loadA 1 #[.int .i64 v.kind, .int .i64 v.p, .int .i64 v.q, .string v.str, .int .i64 v.ref]) ?_
          refine s_lt (t_loadA 0 #[.int .i64 v.kind, .int .i64 0, .int .i64 0, .string ByteArray.empty, .int .i64 v.ref]) ?_
          refine s_lt (t_eqS (fun w => (eqVlT v (⟨v.kind, 0, 0, ByteArray.empty, v.ref⟩ : Vl) w).1)) ?_
          refine sp (.bool (decide (v = (⟨v.kind, 0, 0, ByteArray.empty, v.ref⟩ : Vl)))) ?_
          refine sp (.bool (decide (v = (⟨v.kind, 0, 0, ByteArray.empty, v.ref⟩ : Vl)))) ?_
          refine s_nil ?_
          exact xs_cut () trivial (sub_of rfl ⟨⟨rfl, show Value.bool (decide (v = (⟨v.kind, 0, 0, ByteArray.empty, v.ref⟩ : Vl))) = Value.bool ((decide ((1 : Int) ≤ v.ref)) && (decide (v = (⟨v.kind, 0, 0, ByteArray.empty, v.ref⟩ : Vl)))) by first | (simp only [c39, bls]; done) | simp [c39]⟩, trivial⟩) (fun _ h => h.re [0, 0] [])
         ·
          have p41 := of_decide_eq_false c39
          refine s_skip ?_
          refine s_skip ?_
          refine s_skip ?_
          refine sp (.bool false) ?_
          refine sp (.bool false) ?_
          refine s_nil ?_
          exact xs_cut () trivial (sub_of rfl ⟨⟨rfl, show Value.bool false = Value.bool ((decide ((1 : Int) ≤ v.ref)) && (decide (v = (⟨v.kind, 0, 0, ByteArray.empty, v.ref⟩ : Vl)))) by first | (simp only [c39, bls]; done) | simp [c39]⟩, trivial⟩) (fun _ h => h.re [0, 0] [])
        ·
         refine k_ret ?_
         refine xs_fin [.bool ((decide ((1 : Int) ≤ v.ref)) && (decide (v = (⟨v.kind, 0, 0, ByteArray.empty, v.ref⟩ : Vl))))] [] (SI.tmp 2 SI.nil) (fun _ h => h.re [] [0, 0]) ⟨?_, rfl⟩
         refine congrArg Value.bool ?_
         first | (simp [validB, p5, p14, p18, p24, p30, p36, p38]; done) | (rw [Bool.and_comm]; simp [validB, p5, p14, p18, p24, p30, p36, p38]; done) | (rw [Bool.eq_iff_iff]; simp [validB, p5, p14, p18, p24, p30, p36, p38, and_comm, and_left_comm, and_assoc]; done)
       ·
        have p42 := of_decide_eq_false c37
        refine k_reg ?_
        refine s_lt t_cmp ?_
        refine sp (.bool (decide (v.kind = 8))) ?_
        refine s_nt ?_
        refine k_cond (decide (v.kind = 8)) (fun c43 => ?_) (fun c43 => ?_)
        ·
         have p44 := of_decide_eq_true c43
         refine k_sr ?_
         refine sp (pB g1 4) ?_
         refine s_lt (t_load 1 (.int .i64 v.ref)) ?_
         refine sp (pB g2 4) ?_
         refine s_store 0 #[.int .i64 v.kind, .int .i64 0, .int .i64 0, .string ByteArray.empty, .int .i64 v.ref] ?_
         refine s_nt ?_
         refine k_reg ?_
         refine sp (pB g1 4) ?_
         refine s_lt (t_load 1 (.int .i64 v.ref)) ?_
         refine s_lt t_cmp ?_
         refine sp (.bool (decide ((1 : Int) ≤ v.ref))) ?_
         refine s_nil ?_
         refine xs_block ?_
         refine xs_then ?_
         refine k_cut (ι := Unit) (fun _ => True) (fun _ => [(2, .bool ((decide ((1 : Int) ≤ v.ref)) && (decide (v = (⟨v.kind, 0, 0, ByteArray.empty, v.ref⟩ : Vl)))))]) (fun _ => [blkA g2 #[.int .i64 v.kind, .int .i64 0, .int .i64 0, .string ByteArray.empty, .int .i64 v.ref] 26, blkA g1 #[.int .i64 v.kind, .int .i64 v.p, .int .i64 v.q, .string v.str, .int .i64 v.ref] 26]) ?_ (fun _ _ => ?_)
         ·
          refine k_reg ?_
          refine sp (.bool (decide ((1 : Int) ≤ v.ref))) ?_
          refine sp (.bool (decide ((1 : Int) ≤ v.ref))) ?_
          refine s_fork 69 (decide ((1 : Int) ≤ v.ref)) (fun c45 => ?_) (fun c45 => ?_)
          ·
           have p46 := of_decide_eq_true c45
           refine s_lt (t_loadA 1 #[.int .i64 v.kind, .int .i64 v.p, .int .i64 v.q, .string v.str, .int .i64 v.ref]) ?_
           refine s_lt (t_loadA 0 #[.int .i64 v.kind, .int .i64 0, .int .i64 0, .string ByteArray.empty, .int .i64 v.ref]) ?_
           refine s_lt (t_eqS (fun w => (eqVlT v (⟨v.kind, 0, 0, ByteArray.empty, v.ref⟩ : Vl) w).1)) ?_
           refine sp (.bool (decide (v = (⟨v.kind, 0, 0, ByteArray.empty, v.ref⟩ : Vl)))) ?_
           refine sp (.bool (decide (v = (⟨v.kind, 0, 0, ByteArray.empty, v.ref⟩ : Vl)))) ?_
           refine s_nil ?_
           exact xs_cut () trivial (sub_of rfl ⟨⟨rfl, show Value.bool (decide (v = (⟨v.kind, 0, 0, ByteArray.empty, v.ref⟩ : Vl))) = Value.bool ((decide ((1 : Int) ≤ v.ref)) && (decide (v = (⟨v.kind, 0, 0, ByteArray.empty, v.ref⟩ : Vl)))) by first | (simp only [c45, bls]; done) | simp [c45]⟩, trivial⟩) (fun _ h => h.re [0, 0] [])
          ·
           have p47 := of_decide_eq_false c45
           refine s_skip ?_
           refine s_skip ?_
           refine s_skip ?_
           refine sp (.bool false) ?_
           refine sp (.bool false) ?_
           refine s_nil ?_
           exact xs_cut () trivial (sub_of rfl ⟨⟨rfl, show Value.bool false = Value.bool ((decide ((1 : Int) ≤ v.ref)) && (decide (v = (⟨v.kind, 0, 0, ByteArray.empty, v.ref⟩ : Vl)))) by first | (simp only [c45, bls]; done) | simp [c45]⟩, trivial⟩) (fun _ h => h.re [0, 0] [])
         ·
          refine k_ret ?_
          refine xs_fin [.bool ((decide ((1 : Int) ≤ v.ref)) && (decide (v = (⟨v.kind, 0, 0, ByteArray.empty, v.ref⟩ : Vl))))] [] (SI.tmp 2 SI.nil) (fun _ h => h.re [] [0, 0]) ⟨?_, rfl⟩
          refine congrArg Value.bool ?_
          first | (simp [validB, p5, p14, p18, p24, p30, p36, p42, p44]; done) | (rw [Bool.and_comm]; simp [validB, p5, p14, p18, p24, p30, p36, p42, p44]; done) | (rw [Bool.eq_iff_iff]; simp [validB, p5, p14, p18, p24, p30, p36, p42, p44, and_comm, and_left_comm, and_assoc]; done)
        ·
         have p48 := of_decide_eq_false c43
         refine k_sr ?_
         refine s_lt t_cmp ?_
         refine sp (.bool (decide (v.kind = 6))) ?_
         refine s_nt ?_
         refine k_cond (decide (v.kind = 6)) (fun c49 => ?_) (fun c49 => ?_)
         ·
          have p50 := of_decide_eq_true c49
          refine k_sr ?_
          refine sp (pB g1 3) ?_
          refine s_lt (t_load 1 (.string v.str)) ?_
          refine sp (pB g2 3) ?_
          refine s_store 0 #[.int .i64 v.kind, .int .i64 0, .int .i64 0, .string v.str, .int .i64 0] ?_
          refine s_nt ?_
          refine k_reg ?_
          refine sp (pB g1 3) ?_
          refine s_lt (t_load 1 (.string v.str)) ?_
          refine s_lt (t_kern (.int .i64 (v.str.size : Int))) ?_
          refine s_lt t_cmp ?_
          refine sp (.bool (decide ((1 : Int) ≤ (v.str.size : Int)))) ?_
          refine s_fork 62 (decide ((1 : Int) ≤ (v.str.size : Int))) (fun c51 => ?_) (fun c51 => ?_)
          ·
           have p52 := of_decide_eq_true c51
           refine sp (pB g1 3) ?_
           refine s_lt (t_load 1 (.string v.str)) ?_
           refine s_lt (t_kern (.int .i64 (v.str.size : Int))) ?_
           refine s_lt t_cmp ?_
           refine sp (.bool (decide ((v.str.size : Int) ≤ 4096))) ?_
           refine sp (.bool (decide ((v.str.size : Int) ≤ 4096))) ?_
           refine s_nil ?_
           refine xs_block ?_
           refine xs_then ?_
           refine k_cut (ι := Unit) (fun _ => True) (fun _ => [(2, .bool ((decide ((v.str.size : Int) ≤ 4096)) && (decide (v = (⟨v.kind, 0, 0, v.str, 0⟩ : Vl)))))]) (fun _ => [blkA g2 #[.int .i64 v.kind, .int .i64 0, .int .i64 0, .string v.str, .int .i64 0] 26, blkA g1 #[.int .i64 v.kind, .int .i64 v.p, .int .i64 v.q, .string v.str, .int .i64 v.ref] 26]) ?_ (fun _ _ => ?_)
           ·
            refine k_reg ?_
            refine sp (.bool (decide ((v.str.size : Int) ≤ 4096))) ?_
            refine sp (.bool (decide ((v.str.size : Int) ≤ 4096))) ?_
            refine s_fork 69 (decide ((v.str.size : Int) ≤ 4096)) (fun c53 => ?_) (fun c53 => ?_)
            ·
             have p54 := of_decide_eq_true c53
             refine s_lt (t_loadA 1 #[.int .i64 v.kind, .int .i64 v.p, .int .i64 v.q, .string v.str, .int .i64 v.ref]) ?_
             refine s_lt (t_loadA 0 #[.int .i64 v.kind, .int .i64 0, .int .i64 0, .string v.str, .int .i64 0]) ?_
             refine s_lt (t_eqS (fun w => (eqVlT v (⟨v.kind, 0, 0, v.str, 0⟩ : Vl) w).1)) ?_
             refine sp (.bool (decide (v = (⟨v.kind, 0, 0, v.str, 0⟩ : Vl)))) ?_
             refine sp (.bool (decide (v = (⟨v.kind, 0, 0, v.str, 0⟩ : Vl)))) ?_
             refine s_nil ?_
             exact xs_cut () trivial (sub_of rfl ⟨⟨rfl, show Value.bool (decide (v = (⟨v.kind, 0, 0, v.str, 0⟩ : Vl))) = Value.bool ((decide ((v.str.size : Int) ≤ 4096)) && (decide (v = (⟨v.kind, 0, 0, v.str, 0⟩ : Vl)))) by first | (simp only [c53, bls]; done) | simp [c53]⟩, trivial⟩) (fun _ h => h.re [0, 0] [])
            ·
             have p55 := of_decide_eq_false c53
             refine s_skip ?_
             refine s_skip ?_
             refine s_skip ?_
             refine sp (.bool false) ?_
             refine sp (.bool false) ?_
             refine s_nil ?_
             exact xs_cut () trivial (sub_of rfl ⟨⟨rfl, show Value.bool false = Value.bool ((decide ((v.str.size : Int) ≤ 4096)) && (decide (v = (⟨v.kind, 0, 0, v.str, 0⟩ : Vl)))) by first | (simp only [c53, bls]; done) | simp [c53]⟩, trivial⟩) (fun _ h => h.re [0, 0] [])
           ·
            refine k_ret ?_
            refine xs_fin [.bool ((decide ((v.str.size : Int) ≤ 4096)) && (decide (v = (⟨v.kind, 0, 0, v.str, 0⟩ : Vl))))] [] (SI.tmp 2 SI.nil) (fun _ h => h.re [] [0, 0]) ⟨?_, rfl⟩
            refine congrArg Value.bool ?_
            first | (simp [validB, p5, p14, p18, p24, p30, p36, p42, p48, p50, p52]; done) | (rw [Bool.and_comm]; simp [validB, p5, p14, p18, p24, p30, p36, p42, p48, p50, p52]; done) | (rw [Bool.eq_iff_iff]; simp [validB, p5, p14, p18, p24, p30, p36, p42, p48, p50, p52, and_comm, and_left_comm, and_assoc]; done)
          ·
           have p56 := of_decide_eq_false c51
           refine s_skip ?_
           refine s_skip ?_
           refine s_skip ?_
           refine s_skip ?_
           refine sp (.bool false) ?_
           refine sp (.bool false) ?_
           refine s_nil ?_
           refine xs_block ?_
           refine xs_then ?_
           refine k_sr ?_
           refine sp (.bool false) ?_
           refine sp (.bool false) ?_
           refine s_skip ?_
           refine s_skip ?_
           refine s_skip ?_
           refine sp (.bool false) ?_
           refine sp (.bool false) ?_
           refine s_nt ?_
           refine k_ret ?_
           refine xs_fin [.bool false] [] (SI.tmp 2 SI.nil) (fun _ h => h.re [] [0, 0]) ⟨?_, rfl⟩
           refine congrArg Value.bool ?_
           first | (simp [validB, p5, p14, p18, p24, p30, p36, p42, p48, p50, p56]; done) | (rw [Bool.and_comm]; simp [validB, p5, p14, p18, p24, p30, p36, p42, p48, p50, p56]; done) | (rw [Bool.eq_iff_iff]; simp [validB, p5, p14, p18, p24, p30, p36, p42, p48, p50, p56, and_comm, and_left_comm, and_assoc]; done)
         ·
          have p57 := of_decide_eq_false c49
          refine k_reg ?_
          refine sp (.bool false) ?_
          refine s_nil ?_
          refine xs_block ?_
          refine xs_then ?_
          refine k_sr ?_
          refine sp (.bool false) ?_
          refine sp (.bool false) ?_
          refine s_skip ?_
          refine s_skip ?_
          refine s_skip ?_
          refine sp (.bool false) ?_
          refine sp (.bool false) ?_
          refine s_nt ?_
          refine k_ret ?_
          refine xs_fin [.bool false] [] (SI.tmp 2 SI.nil) (fun _ h => h.re [] [0, 0]) ⟨?_, rfl⟩
          refine congrArg Value.bool ?_
          first | (simp [validB, p5, p14, p18, p24, p30, p36, p42, p48, p57]; done) | (rw [Bool.and_comm]; simp [validB, p5, p14, p18, p24, p30, p36, p42, p48, p57]; done) | (rw [Bool.eq_iff_iff]; simp [validB, p5, p14, p18, p24, p30, p36, p42, p48, p57, and_comm, and_left_comm, and_assoc]; done)
theorem rvalid_s {Z : Zone} (v : Vl) : SF Try.prog 32 #[v.v] Z [] fun r Bs => r = .bool (validB v) ∧ Bs = [] := by
 refine sf_enter Try.func32 88 [(0, .agg #[.int .i64 v.kind, .int .i64 v.p, .int .i64 v.q, .string v.str, .int .i64 v.ref])] (fun w0 => ?_)
 refine k_sr ?_
 refine s_box #[.int .i64 v.kind, .int .i64 v.p, .int .i64 v.q, .string v.str, .int .i64 v.ref] (fun g1 => ?_)
 refine sp (.bool false) ?_
 refine s_nt ?_
 refine k_seq ?_
 refine k_sr ?_
 refine sp (pB g1 0) ?_
 refine s_lt (t_load 0 (.int .i64 v.kind)) ?_
 refine s_nt ?_
 refine k_block ?_
 refine k_sr ?_
 refine s_lt t_cmp ?_
 refine sp (.bool (decide (v.kind = 0))) ?_
 refine s_nt ?_
 refine k_cond (decide (v.kind = 0)) (fun c2 => ?_) (fun c2 => ?_)
 ·
  have p3 := of_decide_eq_true c2
  refine k_sr ?_
  refine s_lt (t_loadA 0 #[.int .i64 v.kind, .int .i64 v.p, .int .i64 v.q, .string v.str, .int .i64 v.ref]) ?_
  refine s_lt (t_kern (.agg #[.int .i64 0, .int .i64 0, .int .i64 0, .string ByteArray.empty, .int .i64 0])) ?_
  refine s_lt (t_eqS (fun w => (eqVlT v (⟨0, 0, 0, ByteArray.empty, 0⟩ : Vl) w).1)) ?_
  refine sp (.bool (decide (v = (⟨0, 0, 0, ByteArray.empty, 0⟩ : Vl)))) ?_
  refine s_nt ?_
  refine k_ret ?_
  refine xs_retBlock ?_
  refine xs_ret ?_
  refine xs_fin [.bool (decide (v = (⟨0, 0, 0, ByteArray.empty, 0⟩ : Vl)))] [] (SI.tmp 2 SI.nil) (fun _ h => h.re [] [0]) ⟨?_, rfl⟩
  refine congrArg Value.bool ?_
  first | (simp [validB, p3]; done) | (rw [Bool.and_comm]; simp [validB, p3]; done) | (rw [Bool.eq_iff_iff]; simp [validB, p3, and_comm, and_left_comm, and_assoc]; done)
 ·
  have p4 := of_decide_eq_false c2
  refine k_sr ?_
  refine s_lt t_cmp ?_
  refine sp (.bool (decide (v.kind = 1))) ?_
  refine s_nt ?_
  refine k_cond (decide (v.kind = 1)) (fun c5 => ?_) (fun c5 => ?_)
  ·
   have p6 := of_decide_eq_true c5
   refine k_cut (ι := Unit) (fun _ => True) (fun _ => [(2, .bool ((decide (v = (⟨1, 0, 0, ByteArray.empty, v.ref⟩ : Vl))) && ((decide (v.ref = 0)) || (decide (v.ref = 1)))))]) (fun _ => [blkA g1 #[.int .i64 v.kind, .int .i64 v.p, .int .i64 v.q, .string v.str, .int .i64 v.ref] 26]) ?_ (fun _ _ => ?_)
   ·
    refine k_reg ?_
    refine s_lt (t_loadA 0 #[.int .i64 v.kind, .int .i64 v.p, .int .i64 v.q, .string v.str, .int .i64 v.ref]) ?_
    refine sp (pB g1 4) ?_
    refine s_lt (t_load 0 (.int .i64 v.ref)) ?_
    refine s_lt (t_kern (.agg #[.int .i64 1, .int .i64 0, .int .i64 0, .string ByteArray.empty, .int .i64 v.ref])) ?_
    refine s_lt (t_eqS (fun w => (eqVlT v (⟨1, 0, 0, ByteArray.empty, v.ref⟩ : Vl) w).1)) ?_
    refine sp (.bool (decide (v = (⟨1, 0, 0, ByteArray.empty, v.ref⟩ : Vl)))) ?_
    refine s_fork 17 (decide (v = (⟨1, 0, 0, ByteArray.empty, v.ref⟩ : Vl))) (fun c7 => ?_) (fun c7 => ?_)
    ·
     have p8 := of_decide_eq_true c7
     refine sp (pB g1 4) ?_
     refine s_lt (t_load 0 (.int .i64 v.ref)) ?_
     refine s_lt t_cmp ?_
     refine sp (.bool (decide (v.ref = 0))) ?_
     refine s_fork 21 (decide (v.ref = 0)) (fun c9 => ?_) (fun c9 => ?_)
     ·
      have p10 := of_decide_eq_true c9
      refine s_skip ?_
      refine s_skip ?_
      refine s_skip ?_
      refine sp (.bool true) ?_
      refine sp (.bool true) ?_
      refine sp (.bool true) ?_
      refine s_nil ?_
      exact xs_cut () trivial (sub_of rfl ⟨⟨rfl, show Value.bool true = Value.bool ((decide (v = (⟨1, 0, 0, ByteArray.empty, v.ref⟩ : Vl))) && ((decide (v.ref = 0)) || (decide (v.ref = 1)))) by first | (simp only [c7, c9, bls]; done) | simp [c7, c9]⟩, trivial⟩) (fun _ h => h.re [0] [])
     ·
      have p11 := of_decide_eq_false c9
      refine sp (pB g1 4) ?_
      refine s_lt (t_load 0 (.int .i64 v.ref)) ?_
      refine s_lt t_cmp ?_
      refine sp (.bool (decide (v.ref = 1))) ?_
      refine sp (.bool (decide (v.ref = 1))) ?_
      refine sp (.bool (decide (v.ref = 1))) ?_
      refine s_nil ?_
      exact xs_cut () trivial (sub_of rfl ⟨⟨rfl, show Value.bool (decide (v.ref = 1)) = Value.bool ((decide (v = (⟨1, 0, 0, ByteArray.empty, v.ref⟩ : Vl))) && ((decide (v.ref = 0)) || (decide (v.ref = 1)))) by first | (simp only [c7, c9, bls]; done) | simp [c7, c9]⟩, trivial⟩) (fun _ h => h.re [0] [])
    ·
     have p12 := of_decide_eq_false c7
     refine s_skip ?_
     refine s_skip ?_
     refine s_skip ?_
     refine s_skip ?_
     refine s_skip ?_
     refine s_skip ?_
     refine s_skip ?_
     refine s_skip ?_
     refine sp (.bool false) ?_
     refine sp (.bool false) ?_
     refine s_nil ?_
     exact xs_cut () trivial (sub_of rfl ⟨⟨rfl, show Value.bool false = Value.bool ((decide (v = (⟨1, 0, 0, ByteArray.empty, v.ref⟩ : Vl))) && ((decide (v.ref = 0)) || (decide (v.ref = 1)))) by first | (simp only [c7, bls]; done) | simp [c7]⟩, trivial⟩) (fun _ h => h.re [0] [])
   ·
    refine k_ret ?_
    refine xs_retBlock ?_
    refine xs_ret ?_
    refine xs_fin [.bool ((decide (v = (⟨1, 0, 0, ByteArray.empty, v.ref⟩ : Vl))) && ((decide (v.ref = 0)) || (decide (v.ref = 1))))] [] (SI.tmp 2 SI.nil) (fun _ h => h.re [] [0]) ⟨?_, rfl⟩
    refine congrArg Value.bool ?_
    first | (simp [validB, p4, p6]; done) | (rw [Bool.and_comm]; simp [validB, p4, p6]; done) | (rw [Bool.eq_iff_iff]; simp [validB, p4, p6, and_comm, and_left_comm, and_assoc]; done)
  ·
   have p13 := of_decide_eq_false c5
   refine k_sr ?_
   refine s_lt t_cmp ?_
   refine sp (.bool (decide (v.kind = 2))) ?_
   refine s_nt ?_
   refine k_cond (decide (v.kind = 2)) (fun c14 => ?_) (fun c14 => ?_)
   ·
    have p15 := of_decide_eq_true c14
    refine k_cut (ι := Unit) (fun _ => True) (fun _ => [(2, .bool ((decide (v = (⟨2, v.p, v.q, ByteArray.empty, 0⟩ : Vl))) && (validN v.p v.q)))]) (fun _ => [blkA g1 #[.int .i64 v.kind, .int .i64 v.p, .int .i64 v.q, .string v.str, .int .i64 v.ref] 26]) ?_ (fun _ _ => ?_)
    ·
     refine k_reg ?_
     refine s_lt (t_loadA 0 #[.int .i64 v.kind, .int .i64 v.p, .int .i64 v.q, .string v.str, .int .i64 v.ref]) ?_
     refine sp (pB g1 1) ?_
     refine s_lt (t_loadA 0 #[.int .i64 v.p, .int .i64 v.q]) ?_
     refine s_lt (t_kern (.agg #[.int .i64 2, .int .i64 v.p, .int .i64 v.q, .string ByteArray.empty, .int .i64 0])) ?_
     refine s_lt (t_eqS (fun w => (eqVlT v (⟨2, v.p, v.q, ByteArray.empty, 0⟩ : Vl) w).1)) ?_
     refine sp (.bool (decide (v = (⟨2, v.p, v.q, ByteArray.empty, 0⟩ : Vl)))) ?_
     refine s_fork 34 (decide (v = (⟨2, v.p, v.q, ByteArray.empty, 0⟩ : Vl))) (fun c16 => ?_) (fun c16 => ?_)
     ·
      have p17 := of_decide_eq_true c16
      refine sp (pB g1 1) ?_
      refine s_lt (t_loadA 0 #[.int .i64 v.p, .int .i64 v.q]) ?_
      refine s_vcall (fun _ h => rvnum_s v.p v.q) ?_
      rintro _ rfl
      refine sp (.bool (validN v.p v.q)) ?_
      refine sp (.bool (validN v.p v.q)) ?_
      refine s_nil ?_
      exact xs_cut () trivial (sub_of rfl ⟨⟨rfl, show Value.bool (validN v.p v.q) = Value.bool ((decide (v = (⟨2, v.p, v.q, ByteArray.empty, 0⟩ : Vl))) && (validN v.p v.q)) by first | (simp only [c16, bls]; done) | simp [c16]⟩, trivial⟩) (fun _ h => h.re [0] [])
     ·
      have p18 := of_decide_eq_false c16
      refine s_skip ?_
      refine s_skip ?_
      refine s_skip ?_
      refine sp (.bool false) ?_
      refine sp (.bool false) ?_
      refine s_nil ?_
      exact xs_cut () trivial (sub_of rfl ⟨⟨rfl, show Value.bool false = Value.bool ((decide (v = (⟨2, v.p, v.q, ByteArray.empty, 0⟩ : Vl))) && (validN v.p v.q)) by first | (simp only [c16, bls]; done) | simp [c16]⟩, trivial⟩) (fun _ h => h.re [0] [])
    ·
     refine k_ret ?_
     refine xs_retBlock ?_
     refine xs_ret ?_
     refine xs_fin [.bool ((decide (v = (⟨2, v.p, v.q, ByteArray.empty, 0⟩ : Vl))) && (validN v.p v.q))] [] (SI.tmp 2 SI.nil) (fun _ h => h.re [] [0]) ⟨?_, rfl⟩
     refine congrArg Value.bool ?_
     first | (simp [validB, p4, p13, p15]; done) | (rw [Bool.and_comm]; simp [validB, p4, p13, p15]; done) | (rw [Bool.eq_iff_iff]; simp [validB, p4, p13, p15, and_comm, and_left_comm, and_assoc]; done)
   ·
    have p19 := of_decide_eq_false c14
    refine k_sr ?_
    refine s_lt t_cmp ?_
    refine sp (.bool (decide (v.kind = 3))) ?_
    refine s_nt ?_
    refine k_cond (decide (v.kind = 3)) (fun c20 => ?_) (fun c20 => ?_)
    ·
     have p21 := of_decide_eq_true c20
     refine k_cut (ι := Unit) (fun _ => True) (fun _ => [(2, .bool ((decide ((v.str.size : Int) ≤ 4096)) && (decide (v = (⟨3, 0, 0, v.str, 0⟩ : Vl)))))]) (fun _ => [blkA g1 #[.int .i64 v.kind, .int .i64 v.p, .int .i64 v.q, .string v.str, .int .i64 v.ref] 26]) ?_ (fun _ _ => ?_)
     ·
      refine k_reg ?_
      refine sp (pB g1 3) ?_
      refine s_lt (t_load 0 (.string v.str)) ?_
      refine s_lt (t_kern (.int .i64 (v.str.size : Int))) ?_
      refine s_lt t_cmp ?_
      refine sp (.bool (decide ((v.str.size : Int) ≤ 4096))) ?_
      refine s_fork 45 (decide ((v.str.size : Int) ≤ 4096)) (fun c22 => ?_) (fun c22 => ?_)
      ·
       have p23 := of_decide_eq_true c22
       refine s_lt (t_loadA 0 #[.int .i64 v.kind, .int .i64 v.p, .int .i64 v.q, .string v.str, .int .i64 v.ref]) ?_
       refine sp (pB g1 3) ?_
       refine s_lt (t_load 0 (.string v.str)) ?_
       refine s_lt (t_kern (.agg #[.int .i64 3, .int .i64 0, .int .i64 0, .string v.str, .int .i64 0])) ?_
       refine s_lt (t_eqS (fun w => (eqVlT v (⟨3, 0, 0, v.str, 0⟩ : Vl) w).1)) ?_
       refine sp (.bool (decide (v = (⟨3, 0, 0, v.str, 0⟩ : Vl)))) ?_
       refine sp (.bool (decide (v = (⟨3, 0, 0, v.str, 0⟩ : Vl)))) ?_
       refine s_nil ?_
       exact xs_cut () trivial (sub_of rfl ⟨⟨rfl, show Value.bool (decide (v = (⟨3, 0, 0, v.str, 0⟩ : Vl))) = Value.bool ((decide ((v.str.size : Int) ≤ 4096)) && (decide (v = (⟨3, 0, 0, v.str, 0⟩ : Vl)))) by first | (simp only [c22, bls]; done) | simp [c22]⟩, trivial⟩) (fun _ h => h.re [0] [])
      ·
       have p24 := of_decide_eq_false c22
       refine s_skip ?_
       refine s_skip ?_
       refine s_skip ?_
       refine s_skip ?_
       refine s_skip ?_
       refine sp (.bool false) ?_
       refine sp (.bool false) ?_
       refine s_nil ?_
       exact xs_cut () trivial (sub_of rfl ⟨⟨rfl, show Value.bool false = Value.bool ((decide ((v.str.size : Int) ≤ 4096)) && (decide (v = (⟨3, 0, 0, v.str, 0⟩ : Vl)))) by first | (simp only [c22, bls]; done) | simp [c22]⟩, trivial⟩) (fun _ h => h.re [0] [])
     ·
      refine k_ret ?_
      refine xs_retBlock ?_
      refine xs_ret ?_
      refine xs_fin [.bool ((decide ((v.str.size : Int) ≤ 4096)) && (decide (v = (⟨3, 0, 0, v.str, 0⟩ : Vl))))] [] (SI.tmp 2 SI.nil) (fun _ h => h.re [] [0]) ⟨?_, rfl⟩
      refine congrArg Value.bool ?_
      first | (simp [validB, p4, p13, p19, p21]; done) | (rw [Bool.and_comm]; simp [validB, p4, p13, p19, p21]; done) | (rw [Bool.eq_iff_iff]; simp [validB, p4, p13, p19, p21, and_comm, and_left_comm, and_assoc]; done)
    ·
     have p25 := of_decide_eq_false c20
     refine k_sr ?_
     refine s_lt t_cmp ?_
     refine sp (.bool (decide (v.kind = 6))) ?_
     refine s_nt ?_
     refine k_cond (decide (v.kind = 6)) (fun c26 => ?_) (fun c26 => ?_)
     ·
      have p27 := of_decide_eq_true c26
      refine k_cut (ι := Unit) (fun _ => True) (fun _ => [(2, .bool ((decide ((1 : Int) ≤ (v.str.size : Int))) && ((decide ((v.str.size : Int) ≤ 4096)) && (decide (v = (⟨6, 0, 0, v.str, 0⟩ : Vl))))))]) (fun _ => [blkA g1 #[.int .i64 v.kind, .int .i64 v.p, .int .i64 v.q, .string v.str, .int .i64 v.ref] 26]) ?_ (fun _ _ => ?_)
      ·
       refine k_reg ?_
       refine sp (pB g1 3) ?_
       refine s_lt (t_load 0 (.string v.str)) ?_
       refine s_lt (t_kern (.int .i64 (v.str.size : Int))) ?_
       refine s_lt t_cmp ?_
       refine sp (.bool (decide ((1 : Int) ≤ (v.str.size : Int)))) ?_
       refine s_fork 58 (decide ((1 : Int) ≤ (v.str.size : Int))) (fun c28 => ?_) (fun c28 => ?_)
       ·
        have p29 := of_decide_eq_true c28
        refine sp (pB g1 3) ?_
        refine s_lt (t_load 0 (.string v.str)) ?_
        refine s_lt (t_kern (.int .i64 (v.str.size : Int))) ?_
        refine s_lt t_cmp ?_
        refine sp (.bool (decide ((v.str.size : Int) ≤ 4096))) ?_
        refine sp (.bool (decide ((v.str.size : Int) ≤ 4096))) ?_
        refine s_fork 64 (decide ((v.str.size : Int) ≤ 4096)) (fun c30 => ?_) (fun c30 => ?_)
        ·
         have p31 := of_decide_eq_true c30
         refine s_lt (t_loadA 0 #[.int .i64 v.kind, .int .i64 v.p, .int .i64 v.q, .string v.str, .int .i64 v.ref]) ?_
         refine sp (pB g1 3) ?_
         refine s_lt (t_load 0 (.string v.str)) ?_
         refine s_lt (t_kern (.agg #[.int .i64 6, .int .i64 0, .int .i64 0, .string v.str, .int .i64 0])) ?_
         refine s_lt (t_eqS (fun w => (eqVlT v (⟨6, 0, 0, v.str, 0⟩ : Vl) w).1)) ?_
         refine sp (.bool (decide (v = (⟨6, 0, 0, v.str, 0⟩ : Vl)))) ?_
         refine sp (.bool (decide (v = (⟨6, 0, 0, v.str, 0⟩ : Vl)))) ?_
         refine s_nil ?_
         exact xs_cut () trivial (sub_of rfl ⟨⟨rfl, show Value.bool (decide (v = (⟨6, 0, 0, v.str, 0⟩ : Vl))) = Value.bool ((decide ((1 : Int) ≤ (v.str.size : Int))) && ((decide ((v.str.size : Int) ≤ 4096)) && (decide (v = (⟨6, 0, 0, v.str, 0⟩ : Vl))))) by first | (simp only [c28, c30, bls]; done) | simp [c28, c30]⟩, trivial⟩) (fun _ h => h.re [0] [])
        ·
         have p32 := of_decide_eq_false c30
         refine s_skip ?_
         refine s_skip ?_
         refine s_skip ?_
         refine s_skip ?_
         refine s_skip ?_
         refine sp (.bool false) ?_
         refine sp (.bool false) ?_
         refine s_nil ?_
         exact xs_cut () trivial (sub_of rfl ⟨⟨rfl, show Value.bool false = Value.bool ((decide ((1 : Int) ≤ (v.str.size : Int))) && ((decide ((v.str.size : Int) ≤ 4096)) && (decide (v = (⟨6, 0, 0, v.str, 0⟩ : Vl))))) by first | (simp only [c28, c30, bls]; done) | simp [c28, c30]⟩, trivial⟩) (fun _ h => h.re [0] [])
       ·
        have p33 := of_decide_eq_false c28
        refine s_skip ?_
        refine s_skip ?_
        refine s_skip ?_
        refine s_skip ?_
        refine sp (.bool false) ?_
        refine sp (.bool false) ?_
        refine s_skip ?_
        refine s_skip ?_
        refine s_skip ?_
        refine s_skip ?_
        refine s_skip ?_
        refine sp (.bool false) ?_
        refine sp (.bool false) ?_
        refine s_nil ?_
        exact xs_cut () trivial (sub_of rfl ⟨⟨rfl, show Value.bool false = Value.bool ((decide ((1 : Int) ≤ (v.str.size : Int))) && ((decide ((v.str.size : Int) ≤ 4096)) && (decide (v = (⟨6, 0, 0, v.str, 0⟩ : Vl))))) by first | (simp only [c28, bls]; done) | simp [c28]⟩, trivial⟩) (fun _ h => h.re [0] [])
      ·
       refine k_ret ?_
       refine xs_retBlock ?_
       refine xs_ret ?_
       refine xs_fin [.bool ((decide ((1 : Int) ≤ (v.str.size : Int))) && ((decide ((v.str.size : Int) ≤ 4096)) && (decide (v = (⟨6, 0, 0, v.str, 0⟩ : Vl)))))] [] (SI.tmp 2 SI.nil) (fun _ h => h.re [] [0]) ⟨?_, rfl⟩
       refine congrArg Value.bool ?_
       first | (simp [validB, p4, p13, p19, p25, p27]; done) | (rw [Bool.and_comm]; simp [validB, p4, p13, p19, p25, p27]; done) | (rw [Bool.eq_iff_iff]; simp [validB, p4, p13, p19, p25, p27, and_comm, and_left_comm, and_assoc]; done)
     ·
      have p34 := of_decide_eq_false c26
      refine k_seq ?_
      refine k_sr ?_
      refine s_lt t_cmp ?_
      refine sp (.bool (decide (v.kind = 4))) ?_
      refine s_nt ?_
      refine k_cond (decide (v.kind = 4)) (fun c35 => ?_) (fun c35 => ?_)
      ·
       have p36 := of_decide_eq_true c35
       refine k_st ?_
       refine k_true (hv := congrArg Value.bool c35) ?_
       refine k_cut (ι := Unit) (fun _ => True) (fun _ => [(2, .bool ((decide (v = (⟨v.kind, 0, 0, ByteArray.empty, v.ref⟩ : Vl))) && (decide ((1 : Int) ≤ v.ref))))]) (fun _ => [blkA g1 #[.int .i64 v.kind, .int .i64 v.p, .int .i64 v.q, .string v.str, .int .i64 v.ref] 26]) ?_ (fun _ _ => ?_)
       ·
        refine k_reg ?_
        refine s_lt (t_loadA 0 #[.int .i64 v.kind, .int .i64 v.p, .int .i64 v.q, .string v.str, .int .i64 v.ref]) ?_
        refine sp (pB g1 0) ?_
        refine s_lt (t_load 0 (.int .i64 v.kind)) ?_
        refine sp (pB g1 4) ?_
        refine s_lt (t_load 0 (.int .i64 v.ref)) ?_
        refine s_lt (t_kern (.agg #[.int .i64 v.kind, .int .i64 0, .int .i64 0, .string ByteArray.empty, .int .i64 v.ref])) ?_
        refine s_lt (t_eqS (fun w => (eqVlT v (⟨v.kind, 0, 0, ByteArray.empty, v.ref⟩ : Vl) w).1)) ?_
        refine sp (.bool (decide (v = (⟨v.kind, 0, 0, ByteArray.empty, v.ref⟩ : Vl)))) ?_
        refine s_fork 83 (decide (v = (⟨v.kind, 0, 0, ByteArray.empty, v.ref⟩ : Vl))) (fun c37 => ?_) (fun c37 => ?_)
        ·
         have p38 := of_decide_eq_true c37
         refine sp (pB g1 4) ?_
         refine s_lt (t_load 0 (.int .i64 v.ref)) ?_
         refine s_lt t_cmp ?_
         refine sp (.bool (decide ((1 : Int) ≤ v.ref))) ?_
         refine sp (.bool (decide ((1 : Int) ≤ v.ref))) ?_
         refine s_nil ?_
         exact xs_cut () trivial (sub_of rfl ⟨⟨rfl, show Value.bool (decide ((1 : Int) ≤ v.ref)) = Value.bool ((decide (v = (⟨v.kind, 0, 0, ByteArray.empty, v.ref⟩ : Vl))) && (decide ((1 : Int) ≤ v.ref))) by first | (simp only [c37, bls]; done) | simp [c37]⟩, trivial⟩) (fun _ h => h.re [0] [])
        ·
         have p39 := of_decide_eq_false c37
         refine s_skip ?_
         refine s_skip ?_
         refine s_skip ?_
         refine sp (.bool false) ?_
         refine sp (.bool false) ?_
         refine s_nil ?_
         exact xs_cut () trivial (sub_of rfl ⟨⟨rfl, show Value.bool false = Value.bool ((decide (v = (⟨v.kind, 0, 0, ByteArray.empty, v.ref⟩ : Vl))) && (decide ((1 : Int) ≤ v.ref))) by first | (simp only [c37, bls]; done) | simp [c37]⟩, trivial⟩) (fun _ h => h.re [0] [])
       ·
        refine k_ret ?_
        refine xs_retBlock ?_
        refine xs_ret ?_
        refine xs_fin [.bool ((decide (v = (⟨v.kind, 0, 0, ByteArray.empty, v.ref⟩ : Vl))) && (decide ((1 : Int) ≤ v.ref)))] [] (SI.tmp 2 SI.nil) (fun _ h => h.re [] [0]) ⟨?_, rfl⟩
        refine congrArg Value.bool ?_
        first | (simp [validB, p4, p13, p19, p25, p34, p36]; done) | (rw [Bool.and_comm]; simp [validB, p4, p13, p19, p25, p34, p36]; done) | (rw [Bool.eq_iff_iff]; simp [validB, p4, p13, p19, p25, p34, p36, and_comm, and_left_comm, and_assoc]; done)
      ·
       have p40 := of_decide_eq_false c35
       refine k_sr ?_
       refine s_lt t_cmp ?_
       refine sp (.bool (decide (v.kind = 5))) ?_
       refine s_nt ?_
       refine k_cond (decide (v.kind = 5)) (fun c41 => ?_) (fun c41 => ?_)
       ·
        have p42 := of_decide_eq_true c41
        refine k_st ?_
        refine k_true (hv := congrArg Value.bool c41) ?_
        refine k_cut (ι := Unit) (fun _ => True) (fun _ => [(2, .bool ((decide (v = (⟨v.kind, 0, 0, ByteArray.empty, v.ref⟩ : Vl))) && (decide ((1 : Int) ≤ v.ref))))]) (fun _ => [blkA g1 #[.int .i64 v.kind, .int .i64 v.p, .int .i64 v.q, .string v.str, .int .i64 v.ref] 26]) ?_ (fun _ _ => ?_)
        ·
         refine k_reg ?_
         refine s_lt (t_loadA 0 #[.int .i64 v.kind, .int .i64 v.p, .int .i64 v.q, .string v.str, .int .i64 v.ref]) ?_
         refine sp (pB g1 0) ?_
         refine s_lt (t_load 0 (.int .i64 v.kind)) ?_
         refine sp (pB g1 4) ?_
         refine s_lt (t_load 0 (.int .i64 v.ref)) ?_
         refine s_lt (t_kern (.agg #[.int .i64 v.kind, .int .i64 0, .int .i64 0, .string ByteArray.empty, .int .i64 v.ref])) ?_
         refine s_lt (t_eqS (fun w => (eqVlT v (⟨v.kind, 0, 0, ByteArray.empty, v.ref⟩ : Vl) w).1)) ?_
         refine sp (.bool (decide (v = (⟨v.kind, 0, 0, ByteArray.empty, v.ref⟩ : Vl)))) ?_
         refine s_fork 83 (decide (v = (⟨v.kind, 0, 0, ByteArray.empty, v.ref⟩ : Vl))) (fun c43 => ?_) (fun c43 => ?_)
         ·
          have p44 := of_decide_eq_true c43
          refine sp (pB g1 4) ?_
          refine s_lt (t_load 0 (.int .i64 v.ref)) ?_
          refine s_lt t_cmp ?_
          refine sp (.bool (decide ((1 : Int) ≤ v.ref))) ?_
          refine sp (.bool (decide ((1 : Int) ≤ v.ref))) ?_
          refine s_nil ?_
          exact xs_cut () trivial (sub_of rfl ⟨⟨rfl, show Value.bool (decide ((1 : Int) ≤ v.ref)) = Value.bool ((decide (v = (⟨v.kind, 0, 0, ByteArray.empty, v.ref⟩ : Vl))) && (decide ((1 : Int) ≤ v.ref))) by first | (simp only [c43, bls]; done) | simp [c43]⟩, trivial⟩) (fun _ h => h.re [0] [])
         ·
          have p45 := of_decide_eq_false c43
          refine s_skip ?_
          refine s_skip ?_
          refine s_skip ?_
          refine sp (.bool false) ?_
          refine sp (.bool false) ?_
          refine s_nil ?_
          exact xs_cut () trivial (sub_of rfl ⟨⟨rfl, show Value.bool false = Value.bool ((decide (v = (⟨v.kind, 0, 0, ByteArray.empty, v.ref⟩ : Vl))) && (decide ((1 : Int) ≤ v.ref))) by first | (simp only [c43, bls]; done) | simp [c43]⟩, trivial⟩) (fun _ h => h.re [0] [])
        ·
         refine k_ret ?_
         refine xs_retBlock ?_
         refine xs_ret ?_
         refine xs_fin [.bool ((decide (v = (⟨v.kind, 0, 0, ByteArray.empty, v.ref⟩ : Vl))) && (decide ((1 : Int) ≤ v.ref)))] [] (SI.tmp 2 SI.nil) (fun _ h => h.re [] [0]) ⟨?_, rfl⟩
         refine congrArg Value.bool ?_
         first | (simp [validB, p4, p13, p19, p25, p34, p40, p42]; done) | (rw [Bool.and_comm]; simp [validB, p4, p13, p19, p25, p34, p40, p42]; done) | (rw [Bool.eq_iff_iff]; simp [validB, p4, p13, p19, p25, p34, p40, p42, and_comm, and_left_comm, and_assoc]; done)
       ·
        have p46 := of_decide_eq_false c41
        refine k_sr ?_
        refine s_lt t_cmp ?_
        refine sp (.bool (decide (v.kind = 7))) ?_
        refine s_nt ?_
        refine k_cond (decide (v.kind = 7)) (fun c47 => ?_) (fun c47 => ?_)
        ·
         have p48 := of_decide_eq_true c47
         refine k_st ?_
         refine k_true (hv := congrArg Value.bool c47) ?_
         refine k_cut (ι := Unit) (fun _ => True) (fun _ => [(2, .bool ((decide (v = (⟨v.kind, 0, 0, ByteArray.empty, v.ref⟩ : Vl))) && (decide ((1 : Int) ≤ v.ref))))]) (fun _ => [blkA g1 #[.int .i64 v.kind, .int .i64 v.p, .int .i64 v.q, .string v.str, .int .i64 v.ref] 26]) ?_ (fun _ _ => ?_)
         ·
          refine k_reg ?_
          refine s_lt (t_loadA 0 #[.int .i64 v.kind, .int .i64 v.p, .int .i64 v.q, .string v.str, .int .i64 v.ref]) ?_
          refine sp (pB g1 0) ?_
          refine s_lt (t_load 0 (.int .i64 v.kind)) ?_
          refine sp (pB g1 4) ?_
          refine s_lt (t_load 0 (.int .i64 v.ref)) ?_
          refine s_lt (t_kern (.agg #[.int .i64 v.kind, .int .i64 0, .int .i64 0, .string ByteArray.empty, .int .i64 v.ref])) ?_
          refine s_lt (t_eqS (fun w => (eqVlT v (⟨v.kind, 0, 0, ByteArray.empty, v.ref⟩ : Vl) w).1)) ?_
          refine sp (.bool (decide (v = (⟨v.kind, 0, 0, ByteArray.empty, v.ref⟩ : Vl)))) ?_
          refine s_fork 83 (decide (v = (⟨v.kind, 0, 0, ByteArray.empty, v.ref⟩ : Vl))) (fun c49 => ?_) (fun c49 => ?_)
          ·
           have p50 := of_decide_eq_true c49
           refine sp (pB g1 4) ?_
           refine s_lt (t_load 0 (.int .i64 v.ref)) ?_
           refine s_lt t_cmp ?_
           refine sp (.bool (decide ((1 : Int) ≤ v.ref))) ?_
           refine sp (.bool (decide ((1 : Int) ≤ v.ref))) ?_
           refine s_nil ?_
           exact xs_cut () trivial (sub_of rfl ⟨⟨rfl, show Value.bool (decide ((1 : Int) ≤ v.ref)) = Value.bool ((decide (v = (⟨v.kind, 0, 0, ByteArray.empty, v.ref⟩ : Vl))) && (decide ((1 : Int) ≤ v.ref))) by first | (simp only [c49, bls]; done) | simp [c49]⟩, trivial⟩) (fun _ h => h.re [0] [])
          ·
           have p51 := of_decide_eq_false c49
           refine s_skip ?_
           refine s_skip ?_
           refine s_skip ?_
           refine sp (.bool false) ?_
           refine sp (.bool false) ?_
           refine s_nil ?_
           exact xs_cut () trivial (sub_of rfl ⟨⟨rfl, show Value.bool false = Value.bool ((decide (v = (⟨v.kind, 0, 0, ByteArray.empty, v.ref⟩ : Vl))) && (decide ((1 : Int) ≤ v.ref))) by first | (simp only [c49, bls]; done) | simp [c49]⟩, trivial⟩) (fun _ h => h.re [0] [])
         ·
          refine k_ret ?_
          refine xs_retBlock ?_
          refine xs_ret ?_
          refine xs_fin [.bool ((decide (v = (⟨v.kind, 0, 0, ByteArray.empty, v.ref⟩ : Vl))) && (decide ((1 : Int) ≤ v.ref)))] [] (SI.tmp 2 SI.nil) (fun _ h => h.re [] [0]) ⟨?_, rfl⟩
          refine congrArg Value.bool ?_
          first | (simp [validB, p4, p13, p19, p25, p34, p40, p46, p48]; done) | (rw [Bool.and_comm]; simp [validB, p4, p13, p19, p25, p34, p40, p46, p48]; done) | (rw [Bool.eq_iff_iff]; simp [validB, p4, p13, p19, p25, p34, p40, p46, p48, and_comm, and_left_comm, and_assoc]; done)
        ·
         have p52 := of_decide_eq_false c47
         refine k_reg ?_
         refine s_lt t_cmp ?_
         refine sp (.bool (decide (v.kind = 8))) ?_
         refine s_nt ?_
         refine k_cond (decide (v.kind = 8)) (fun c53 => ?_) (fun c53 => ?_)
         ·
          have p54 := of_decide_eq_true c53
          refine k_cut (ι := Unit) (fun _ => True) (fun _ => [(2, .bool ((decide (v = (⟨v.kind, 0, 0, ByteArray.empty, v.ref⟩ : Vl))) && (decide ((1 : Int) ≤ v.ref))))]) (fun _ => [blkA g1 #[.int .i64 v.kind, .int .i64 v.p, .int .i64 v.q, .string v.str, .int .i64 v.ref] 26]) ?_ (fun _ _ => ?_)
          ·
           refine k_reg ?_
           refine s_lt (t_loadA 0 #[.int .i64 v.kind, .int .i64 v.p, .int .i64 v.q, .string v.str, .int .i64 v.ref]) ?_
           refine sp (pB g1 0) ?_
           refine s_lt (t_load 0 (.int .i64 v.kind)) ?_
           refine sp (pB g1 4) ?_
           refine s_lt (t_load 0 (.int .i64 v.ref)) ?_
           refine s_lt (t_kern (.agg #[.int .i64 v.kind, .int .i64 0, .int .i64 0, .string ByteArray.empty, .int .i64 v.ref])) ?_
           refine s_lt (t_eqS (fun w => (eqVlT v (⟨v.kind, 0, 0, ByteArray.empty, v.ref⟩ : Vl) w).1)) ?_
           refine sp (.bool (decide (v = (⟨v.kind, 0, 0, ByteArray.empty, v.ref⟩ : Vl)))) ?_
           refine s_fork 83 (decide (v = (⟨v.kind, 0, 0, ByteArray.empty, v.ref⟩ : Vl))) (fun c55 => ?_) (fun c55 => ?_)
           ·
            have p56 := of_decide_eq_true c55
            refine sp (pB g1 4) ?_
            refine s_lt (t_load 0 (.int .i64 v.ref)) ?_
            refine s_lt t_cmp ?_
            refine sp (.bool (decide ((1 : Int) ≤ v.ref))) ?_
            refine sp (.bool (decide ((1 : Int) ≤ v.ref))) ?_
            refine s_nil ?_
            exact xs_cut () trivial (sub_of rfl ⟨⟨rfl, show Value.bool (decide ((1 : Int) ≤ v.ref)) = Value.bool ((decide (v = (⟨v.kind, 0, 0, ByteArray.empty, v.ref⟩ : Vl))) && (decide ((1 : Int) ≤ v.ref))) by first | (simp only [c55, bls]; done) | simp [c55]⟩, trivial⟩) (fun _ h => h.re [0] [])
           ·
            have p57 := of_decide_eq_false c55
            refine s_skip ?_
            refine s_skip ?_
            refine s_skip ?_
            refine sp (.bool false) ?_
            refine sp (.bool false) ?_
            refine s_nil ?_
            exact xs_cut () trivial (sub_of rfl ⟨⟨rfl, show Value.bool false = Value.bool ((decide (v = (⟨v.kind, 0, 0, ByteArray.empty, v.ref⟩ : Vl))) && (decide ((1 : Int) ≤ v.ref))) by first | (simp only [c55, bls]; done) | simp [c55]⟩, trivial⟩) (fun _ h => h.re [0] [])
          ·
           refine k_ret ?_
           refine xs_retBlock ?_
           refine xs_ret ?_
           refine xs_fin [.bool ((decide (v = (⟨v.kind, 0, 0, ByteArray.empty, v.ref⟩ : Vl))) && (decide ((1 : Int) ≤ v.ref)))] [] (SI.tmp 2 SI.nil) (fun _ h => h.re [] [0]) ⟨?_, rfl⟩
           refine congrArg Value.bool ?_
           first | (simp [validB, p4, p13, p19, p25, p34, p40, p46, p52, p54]; done) | (rw [Bool.and_comm]; simp [validB, p4, p13, p19, p25, p34, p40, p46, p52, p54]; done) | (rw [Bool.eq_iff_iff]; simp [validB, p4, p13, p19, p25, p34, p40, p46, p52, p54, and_comm, and_left_comm, and_assoc]; done)
         ·
          have p58 := of_decide_eq_false c53
          refine k_skip ?_
          refine xs_block ?_
          refine xs_then ?_
          refine k_sr ?_
          refine sp (.bool false) ?_
          refine s_nt ?_
          refine k_ret ?_
          refine xs_fin [.bool false] [] (SI.tmp 2 SI.nil) (fun _ h => h.re [] [0]) ⟨?_, rfl⟩
          refine congrArg Value.bool ?_
          first | (simp [validB, p4, p13, p19, p25, p34, p40, p46, p52, p58]; done) | (rw [Bool.and_comm]; simp [validB, p4, p13, p19, p25, p34, p40, p46, p52, p58]; done) | (rw [Bool.eq_iff_iff]; simp [validB, p4, p13, p19, p25, p34, p40, p46, p52, p58, and_comm, and_left_comm, and_assoc]; done)
/-- An ordered map in memory. -/
def omA (b : Nat) (S : List Slt) : Asr := exA fun sv => exA fun mb => exA fun m => stA (OInv S ∧ Agr m S) [blkA b #[sv, .map (some mb), .int .i64 (cnt S : Int)] 112, own SltT sv S, mpA vK nV mb m]
theorem om_open {b : Nat} {S : List Slt} {Z : Zone} {F : List Asr} {H : Heap} (h : Holds Z (omA b S :: F) H) : ∃ (sv : Value) (mb : Nat) (m : List (Vl × Nat)), (OInv S ∧ Agr m S) ∧ Holds Z (blkA b #[sv, .map (some mb), .int .i64 (cnt S : Int)] 112 :: own SltT sv S :: mpA vK nV mb m :: F) H := by
  obtain ⟨sv, h⟩ := h.open_ex
  obtain ⟨mb, h⟩ := h.open_ex
  obtain ⟨m, h⟩ := h.open_ex
  exact ⟨sv, mb, m, h.open_st⟩
theorem om_shut {b : Nat} {S : List Slt} {Z : Zone} {F : List Asr} {H : Heap} {sv : Value} {mb : Nat} {m : List (Vl × Nat)} {n : Int} (hp : (OInv S ∧ Agr m S) ∧ n = (cnt S : Int)) (h : Holds Z (blkA b #[sv, .map (some mb), .int .i64 n] 112 :: own SltT sv S :: mpA vK nV mb m :: F) H) : Holds Z (omA b S :: F) H := by
  obtain ⟨h1, rfl⟩ := hp
  exact Holds.shut_ex sv (Holds.shut_ex mb (Holds.shut_ex m (Holds.shut_st h1 h)))
theorem om_inv {b : Nat} {S : List Slt} {Z : Zone} {F : List Asr} {H : Heap} (h : Holds Z (omA b S :: F) H) : OInv S := by
  obtain ⟨_, _, _, h, _⟩ := om_open h; exact h.1
theorem omnew_s {Z : Zone} : SF Try.prog 38 #[] Z [] fun r Bs => ∃ b, r = .pointer (some ⟨b, 0, none⟩) ∧ Bs = [omA b []] := by
 refine sf_enter Try.func38 4 [] (fun w0 => ?_)
 refine k_sr ?_
 refine sp (.pointer none) ?_
 refine s_nr ?_
 refine s_makeMap vK nV (fun b1 => ?_)
 refine s_lt (t_kern (.agg #[(.slice none 0 0), .map (some b1), .int .i64 0])) ?_
 refine s_box #[(.slice none 0 0), .map (some b1), .int .i64 0] (fun g2 => ?_)
 refine sp (pB g2 0) ?_
 refine s_nt ?_
 refine k_ret ?_
 refine xs_fin [pB g2 0] [omA g2 []] (SI.tmp 0 SI.nil) (fun _ h => om_shut (b := g2) (sv := .slice none 0 0) ⟨⟨OInv.nil, agr_nil⟩, rfl⟩ ((Holds.nilS (T := SltT) h).re [1, 0] [])) ⟨g2, rfl, rfl⟩
theorem omget_s {Z : Zone} {F : List Asr} {b : Nat} {S : List Slt} (k : Vl) : SF Try.prog 52 #[.pointer (some ⟨b, 0, none⟩), k.v] Z (omA b S :: F) fun r Bs => r = (oget S k).v ∧ Bs = omA b S :: F := by
 refine sf_enter Try.func52 30 [(0, pB b 0), (1, .agg #[.int .i64 k.kind, .int .i64 k.p, .int .i64 k.q, .string k.str, .int .i64 k.ref])] (fun w0 => ?_)
 refine k_sr ?_
 refine s_box #[.int .i64 k.kind, .int .i64 k.p, .int .i64 k.q, .string k.str, .int .i64 k.ref] (fun g1 => ?_)
 refine s_alloc (.agg #[.int .i64 0, .int .i64 0, .int .i64 0, .string ByteArray.empty, .int .i64 0]) #[.int .i64 0, .int .i64 0, .int .i64 0, .string ByteArray.empty, .int .i64 0] (fun g2 => ?_)
 refine s_nt ?_
 refine k_seq ?_
 refine k_sr ?_
 refine sp (pB b 0) ?_
 refine sp (.bool false) ?_
 refine s_nt ?_
 refine k_false ?_
 refine k_st ?_
 refine k_seq ?_
 refine k_draw ?_
 refine sp (pB b 0) ?_
 refine sp (pB b 0) ?_
 refine sp (pB b 1) ?_
 refine s_mem3 (fun H h => om_open (h.re [2] [])) (fun sv3 mb4 m5 hw => ?_)
 obtain ⟨hinv6, hag7⟩ := hw
 refine s_lt (t_load 0 (.map (some mb4))) ?_
 refine s_lt (t_loadA 4 #[.int .i64 k.kind, .int .i64 k.p, .int .i64 k.q, .string k.str, .int .i64 k.ref]) ?_
 rcases last_cases hag7 hinv6 k with ⟨hl8, hm9, ht10, hg11⟩ | ⟨i12, s13, hl14, hm15, hs16, hk17, hg18, ht19⟩
 ·
  refine s_lt (Lt.to (v' := .tuple #[.int .i64 0, .bool false]) (t_lookupOk 2 vK_ok Try.underlying109 (.int .i64 0) k) (by rw [hm9]; rfl)) ?_
  refine sp (.tuple #[.int .i64 0, .bool false]) ?_
  refine sp (.int .i64 0) ?_
  refine sp (.bool false) ?_
  refine sp (.int .i64 0) ?_
  refine sp (.bool false) ?_
  refine s_nil ?_
  refine x_dynS (fun _ h => by kernel_rfl) ?_
  refine xs_then ?_
  refine k_seq ?_
  refine k_sr ?_
  refine sp (.bool false) ?_
  refine sp (.bool true) ?_
  refine s_nt ?_
  refine k_true ?_
  refine k_sr ?_
  refine s_lt (t_kern (.agg #[.int .i64 0, .int .i64 0, .int .i64 0, .string ByteArray.empty, .int .i64 0])) ?_
  refine s_store 3 #[.int .i64 0, .int .i64 0, .int .i64 0, .string ByteArray.empty, .int .i64 0] ?_
  refine s_nt ?_
  refine k_ret ?_
  refine xs_ret ?_
  refine xs_mem (fun _ h => om_shut (S := S) (n := (cnt S : Int)) ⟨⟨hinv6, hag7⟩, rfl⟩ (h.re [0, 0, 0] [])) ?_
  refine xs_fin [.agg #[.int .i64 0, .int .i64 0, .int .i64 0, .string ByteArray.empty, .int .i64 0]] (omA b S :: F) (SI.agg 4 26 1 SI.nil) (fun _ h => h.re [0] [1, 1]) ⟨?_, rfl⟩
  exact (congrArg Vl.v hg11).symm
 ·
  have hlt20 : i12 < S.length := (List.getElem?_eq_some_iff.1 hs16).1
  refine s_lt (Lt.to (v' := .tuple #[.int .i64 (i12 : Int), .bool true]) (t_lookupOk 2 vK_ok Try.underlying109 (.int .i64 0) k) (by rw [hm15]; rfl)) ?_
  refine sp (.tuple #[.int .i64 (i12 : Int), .bool true]) ?_
  refine sp (.int .i64 (i12 : Int)) ?_
  refine sp (.bool true) ?_
  refine sp (.int .i64 (i12 : Int)) ?_
  refine sp (.bool true) ?_
  refine s_nil ?_
  refine x_dynS (fun _ h => by kernel_rfl) ?_
  refine xs_then ?_
  refine k_seq ?_
  refine k_sr ?_
  refine sp (.bool true) ?_
  refine sp (.bool false) ?_
  refine s_nt ?_
  refine k_false ?_
  refine k_st ?_
  refine k_sr ?_
  refine sp (pB b 0) ?_
  refine sp (pB b 0) ?_
  refine sp (pB b 0) ?_
  refine s_lt (t_load 0 sv3) ?_
  refine sp (.int .i64 (i12 : Int)) ?_
  refine s_lt (t_index SltT_ok Try.underlying110 (.own 1) (i12 : Int) i12 (by omega) (by (try simp only [lnm]); omega) (by omega)) ?_
  refine sp (.pointer (some ((elemAt SltT.size sv3 i12).add 5))) ?_
  refine s_lt (t_loadG 5 #[.int .i64 s13.val.kind, .int .i64 s13.val.p, .int .i64 s13.val.q, .string s13.val.str, .int .i64 s13.val.ref] SltT_ok (.own 1) hs16) ?_
  refine s_store 3 #[.int .i64 s13.val.kind, .int .i64 s13.val.p, .int .i64 s13.val.q, .string s13.val.str, .int .i64 s13.val.ref] ?_
  refine s_nt ?_
  refine k_ret ?_
  refine xs_mem (fun _ h => om_shut (S := S) (n := (cnt S : Int)) ⟨⟨hinv6, hag7⟩, rfl⟩ (h.re [0, 0, 0] [])) ?_
  refine xs_fin [.agg #[.int .i64 s13.val.kind, .int .i64 s13.val.p, .int .i64 s13.val.q, .string s13.val.str, .int .i64 s13.val.ref]] (omA b S :: F) (SI.agg 4 26 1 SI.nil) (fun _ h => h.re [0] [1, 1]) ⟨?_, rfl⟩
  exact (congrArg Vl.v hg18).symm
theorem omdrop_s {Z : Zone} {F : List Asr} {b : Nat} {S : List Slt} (hs : S.length ≤ 1000000) : SF Try.prog 75 #[.pointer (some ⟨b, 0, none⟩)] Z (omA b S :: F) fun r Bs => r = .tuple #[] ∧ Bs = omA b (live S) :: F := by
 refine sf_enter Try.func75 49 [(0, pB b 0)] (fun w0 => ?_)
 refine k_sr ?_
 refine sp (.slice none 0 0) ?_
 refine s_nt ?_
 refine k_seq ?_
 refine k_sr ?_
 refine sp (pB b 0) ?_
 refine sp (pB b 0) ?_
 refine sp (pB b 0) ?_
 refine s_mem3 (fun H h => om_open (h.re [0] [])) (fun sv1 mb2 m3 hw => ?_)
 obtain ⟨hinv4, hag5⟩ := hw
 refine s_lt (t_load 0 sv1) ?_
 refine s_lt (t_len SltT_ok Try.underlying110 (.own 1)) ?_
 refine sp (.int .i64 0) ?_
 refine s_nt ?_
 refine k_block ?_
 refine k_mem (fun _ h => Holds.nilS (T := SltT) h) ?_
 refine k_mem (Bs := own SltT (.slice none 0 0) (live (S.take 0)) :: blkA b #[sv1, .map (some mb2), .int .i64 (cnt S : Int)] 112 :: own SltT sv1 S :: mpA vK nV mb2 m3 :: F) (fun _ h => h) ?_
 have hinv0 := hinv4
 have hag0 := hag5
 refine k_loop (ι := Value × List (Vl × Nat) × Nat) (fun (lx, md, i) => i ≤ S.length ∧ DropI S i md) (fun (lx, md, i) => [(0, pB b 0), (2, lx), (8, sv1), (9, .int .i64 (S.length : Int)), (10, .int .i64 (i : Int))]) (fun (lx, md, i) => own SltT lx (live (S.take i)) :: blkA b #[sv1, .map (some mb2), .int .i64 (cnt S : Int)] 112 :: own SltT sv1 S :: mpA vK nV mb2 md :: F) (fun (lx, md, i) => S.length - i) ((.slice none 0 0), m3, 0) ⟨Nat.zero_le _, drop0 hag0⟩ (sub_of rfl ⟨⟨rfl, rfl⟩, ⟨⟨rfl, rfl⟩, ⟨⟨rfl, rfl⟩, ⟨⟨rfl, rfl⟩, ⟨⟨rfl, rfl⟩, trivial⟩⟩⟩⟩⟩) (fun _ h => h.re [0, 0, 0, 0] []) ?_
 rintro ⟨lx, md, i⟩ hi6
 replace hi6 : i ≤ S.length ∧ DropI S i md := hi6
 show SK _ _ _ _ _ [(0, .pointer (some ⟨b, 0, none⟩)), (2, lx), (8, sv1), (9, .int .i64 (S.length : Int)), (10, .int .i64 (i : Int))] _ (own SltT lx (live (S.take i)) :: blkA b #[sv1, .map (some mb2), .int .i64 (cnt S : Int)] 112 :: own SltT sv1 S :: mpA vK nV mb2 md :: F)
 refine k_fact (fun H h => (h.mp (i := 3) rfl).nodup) (fun hnd => ?_)
 have hli : (live (S.take i)).length ≤ i := Nat.le_trans (cnt_le _) (by rw [List.length_take]; omega)
 refine k_sr ?_
 refine s_lt t_cmp ?_
 refine s_nt ?_
 refine k_seq ?_
 refine k_cond (decide ((i : Int) < (S.length : Int))) (fun c7 => ?_) (fun c7 => ?_)
 ·
  have p8 := of_decide_eq_true c7
  refine k_st ?_
  refine k_seq ?_
  refine k_block ?_
  refine k_sr ?_
  refine sp (.int .i64 (i : Int)) ?_
  refine s_lt (t_index SltT_ok Try.underlying110 (.own 2) (i : Int) i (by omega) (by (try simp only [lnm]); omega) (by omega)) ?_
  obtain ⟨y9, hy10⟩ : ∃ y, S[i]? = some y := ⟨_, List.getElem?_eq_getElem (by (try simp only [lnm]); omega)⟩
  refine s_lt (t_loadE SltT_ok (.own 2) hy10) ?_
  refine s_alloc (.agg #[.int .i64 0, .int .i64 0, .int .i64 0, .string ByteArray.empty, .int .i64 0, .int .i64 0, .int .i64 0, .int .i64 0, .string ByteArray.empty, .int .i64 0, .bool false]) #[.int .i64 0, .int .i64 0, .int .i64 0, .string ByteArray.empty, .int .i64 0, .int .i64 0, .int .i64 0, .int .i64 0, .string ByteArray.empty, .int .i64 0, .bool false] (fun g11 => ?_)
  refine sp (.int .i64 (i : Int)) ?_
  refine s_store 0 #[.int .i64 y9.key.kind, .int .i64 y9.key.p, .int .i64 y9.key.q, .string y9.key.str, .int .i64 y9.key.ref, .int .i64 y9.val.kind, .int .i64 y9.val.p, .int .i64 y9.val.q, .string y9.val.str, .int .i64 y9.val.ref, .bool y9.gone] ?_
  refine s_nt ?_
  refine k_seq ?_
  refine k_sr ?_
  refine sp (pB g11 10) ?_
  refine s_lt (t_load 0 (.bool y9.gone)) ?_
  refine s_nt ?_
  refine k_cond y9.gone (fun c12 => ?_) (fun c12 => ?_)
  ·
   refine k_seq ?_
   refine k_seq ?_
   refine k_draw ?_
   refine sp (pB b 0) ?_
   refine sp (pB b 0) ?_
   refine sp (pB b 1) ?_
   refine s_lt (t_load 2 (.map (some mb2))) ?_
   refine sp (pB g11 0) ?_
   refine s_lt (t_loadA 0 #[.int .i64 y9.key.kind, .int .i64 y9.key.p, .int .i64 y9.key.q, .string y9.key.str, .int .i64 y9.key.ref]) ?_
   obtain ⟨j13, hj14, hd15⟩ := drop_gone hinv0 hi6.2 hy10 c12
   refine s_lt (Lt.to (v' := .int .i64 (j13 : Int)) (t_lookup 4 vK_ok Try.underlying109 (.int .i64 0) y9.key) (by rw [hj14]; rfl)) ?_
   refine sp (.int .i64 (i : Int)) ?_
   refine s_lt t_cmp ?_
   refine s_nil ?_
   refine x_dynS (fun _ h => by kernel_rfl) ?_
   refine xs_then ?_
   refine k_cond (decide ((j13 : Int) = (i : Int))) (fun c16 => ?_) (fun c16 => ?_)
   ·
    have p17 := of_decide_eq_true c16
    refine k_draw ?_
    refine sp (pB b 0) ?_
    refine sp (pB b 0) ?_
    refine sp (pB b 1) ?_
    refine s_lt (t_load 2 (.map (some mb2))) ?_
    refine sp (pB g11 0) ?_
    refine s_lt (t_loadA 0 #[.int .i64 y9.key.kind, .int .i64 y9.key.p, .int .i64 y9.key.q, .string y9.key.str, .int .i64 y9.key.ref]) ?_
    refine s_delete0 4 vK_ok Try.underlying109 y9.key ?_
    refine s_nil ?_
    refine x_dynS (fun _ h => by kernel_rfl) ?_
    refine xs_then ?_
    refine k_exit ?_
    refine xs_exit ?_
    refine xs_here ?_
    refine xs_then ?_
    refine k_reg ?_
    refine s_lt (t_add (i : Int) 1 (by (try simp only [lnm]); omega)) ?_
    refine sp (.int .i64 ((i : Int) + 1)) ?_
    refine s_nil ?_
    have hlv := live_take hy10
    rw [if_pos c12] at hlv
    rw [← hlv]
    exact xs_round (lx, (adel md y9.key), i + 1) (by show S.length - (i + 1) < S.length - i; omega) ⟨by show i + 1 ≤ S.length; omega, by first | exact hd15.2.2 (Int.ofNat_inj.1 p17) hnd | (obtain ⟨_, hd1, hd2⟩ := (⟨trivial, hd15⟩ : True ∧ _ ∧ _); first | exact hd1 (fun e => p17 (by rw [e])) | exact hd2 (Int.ofNat_inj.1 p17) hnd)⟩ (sub_of rfl ⟨⟨rfl, rfl⟩, ⟨⟨rfl, rfl⟩, ⟨⟨rfl, rfl⟩, ⟨⟨rfl, rfl⟩, ⟨⟨rfl, rfl⟩, trivial⟩⟩⟩⟩⟩) (fun _ h => h.re [1, 1, 1, 1] [4])
   ·
    have p18 := of_decide_eq_false c16
    refine k_st ?_
    refine k_exit ?_
    refine xs_exit ?_
    refine xs_here ?_
    refine xs_then ?_
    refine k_reg ?_
    refine s_lt (t_add (i : Int) 1 (by (try simp only [lnm]); omega)) ?_
    refine sp (.int .i64 ((i : Int) + 1)) ?_
    refine s_nil ?_
    have hlv := live_take hy10
    rw [if_pos c12] at hlv
    rw [← hlv]
    exact xs_round (lx, md, i + 1) (by show S.length - (i + 1) < S.length - i; omega) ⟨by show i + 1 ≤ S.length; omega, by first | exact hd15.2.1 (by intro e; exact p18 (congrArg _ e)) | (obtain ⟨_, hd1, hd2⟩ := (⟨trivial, hd15⟩ : True ∧ _ ∧ _); first | exact hd1 (fun e => p18 (by rw [e])) | exact hd2 (Int.ofNat_inj.1 p18) hnd)⟩ (sub_of rfl ⟨⟨rfl, rfl⟩, ⟨⟨rfl, rfl⟩, ⟨⟨rfl, rfl⟩, ⟨⟨rfl, rfl⟩, ⟨⟨rfl, rfl⟩, trivial⟩⟩⟩⟩⟩) (fun _ h => h.re [1, 1, 1, 1] [4])
  ·
   refine k_st ?_
   refine k_seq ?_
   refine k_draw ?_
   refine sp (pB b 0) ?_
   refine sp (pB b 0) ?_
   refine sp (pB b 1) ?_
   refine s_lt (t_load 2 (.map (some mb2))) ?_
   refine sp (pB g11 0) ?_
   refine s_lt (t_loadA 0 #[.int .i64 y9.key.kind, .int .i64 y9.key.p, .int .i64 y9.key.q, .string y9.key.str, .int .i64 y9.key.ref]) ?_
   refine sp lx ?_
   refine s_fact (fun H h => ((Acc.own (T := SltT) (L := (live (S.take i))) 1 rfl) H h).form) (fun hf19 => ?_)
   refine s_lt (t_len SltT_ok Try.underlying110 (.own 1)) ?_
   refine s_update 4 vK_ok Try.underlying109 y9.key ((live (S.take i)).length) ?_
   refine s_nil ?_
   refine x_dynS (fun _ h => by obtain ⟨_, _, e⟩ := hf19; subst e; kernel_rfl) ?_
   refine xs_then ?_
   refine k_reg ?_
   refine sp lx ?_
   refine s_lt (t_loadA 0 #[.int .i64 y9.key.kind, .int .i64 y9.key.p, .int .i64 y9.key.q, .string y9.key.str, .int .i64 y9.key.ref, .int .i64 y9.val.kind, .int .i64 y9.val.p, .int .i64 y9.val.q, .string y9.val.str, .int .i64 y9.val.ref, .bool y9.gone]) ?_
   refine s_buildSlice (e := 115) [(0, .agg #[.int .i64 y9.key.kind, .int .i64 y9.key.p, .int .i64 y9.key.q, .string y9.key.str, .int .i64 y9.key.ref, .int .i64 y9.val.kind, .int .i64 y9.val.p, .int .i64 y9.val.q, .string y9.val.str, .int .i64 y9.val.ref, .bool y9.gone])] #[.int .i64 y9.key.kind, .int .i64 y9.key.p, .int .i64 y9.key.q, .string y9.key.str, .int .i64 y9.key.ref, .int .i64 y9.val.kind, .int .i64 y9.val.p, .int .i64 y9.val.q, .string y9.val.str, .int .i64 y9.val.ref, .bool y9.gone] (fun g20 => ?_) (hb := by kernel_rfl)
   refine s_append (L := (live (S.take i))) 2 SltT_ok Try.underlying110 (.lit 0 SltT_ok [y9]) (by show _ * 104 ≤ _; (try simp only [lnm]); omega) (by (try simp only [lnm]); omega) (fun v21 => ?_)
   refine sp v21 ?_
   refine s_nil ?_
   refine xs_block ?_
   refine xs_then ?_
   refine k_reg ?_
   refine s_lt (t_add (i : Int) 1 (by (try simp only [lnm]); omega)) ?_
   refine sp (.int .i64 ((i : Int) + 1)) ?_
   refine s_nil ?_
   have hlv := live_take hy10
   rw [if_neg (by rw [c12]; decide)] at hlv
   rw [← hlv]
   exact xs_round (v21, (aset md y9.key ((live (S.take i)).length)), i + 1) (by show S.length - (i + 1) < S.length - i; omega) ⟨by show i + 1 ≤ S.length; omega, by first | exact drop_live hinv0 hi6.2 hy10 c12 | (obtain ⟨_, hd1, hd2⟩ := hlv; first | exact hd1 (fun e => c12 (by rw [e])) | exact hd2 (Int.ofNat_inj.1 c12) hnd)⟩ (sub_of rfl ⟨⟨rfl, rfl⟩, ⟨⟨rfl, rfl⟩, ⟨⟨rfl, rfl⟩, ⟨⟨rfl, rfl⟩, ⟨⟨rfl, rfl⟩, trivial⟩⟩⟩⟩⟩) (fun _ h => h.re [2, 2, 2, 2] [4, 4])
 ·
  have p22 := of_decide_eq_false c7
  refine k_exit ?_
  refine xs_exit ?_
  refine xs_exit ?_
  refine xs_here ?_
  refine xs_then ?_
  refine k_reg ?_
  refine sp (pB b 0) ?_
  refine sp lx ?_
  refine sp (pB b 0) ?_
  refine sp (pB b 0) ?_
  refine s_fact (fun H h => ((Acc.own (T := SltT) (L := (live (S.take i))) 0 rfl) H h).form) (fun hf23 => ?_)
  refine s_store (u := lx) (m := 1) 1 #[lx, .map (some mb2), .int .i64 (cnt S : Int)] ?_ (hm := by (obtain ⟨_, _, e⟩ := hf23; rw [e]; rfl)) (h1 := by (obtain ⟨_, _, e⟩ := hf23; rw [e]; rfl)) (ha' := by (obtain ⟨_, _, e⟩ := hf23; rw [e]; rfl))
  refine s_nil ?_
  have hend : live (S.take i) = live S := by rw [List.take_of_length_le (by omega)]
  rw [hend]
  exact xs_finN [] (omA b (live S) :: F) SI.nil (fun _ h => om_shut ⟨⟨live_inv hinv0, drop_end hi6.2 (by omega)⟩, by rw [cnt_live]⟩ (h.re [1, 0, 1] [3])) ⟨rfl, rfl⟩
abbrev nextV (x : Vl × Vl × Bool × Int) : Value := .tuple #[x.1.v, x.2.1.v, .bool x.2.2.1, .int .i64 x.2.2.2]
theorem next_found {S : List Slt} {a j : Nat} {s : Slt} (h : live ((S.drop a).take j) = []) (hs : (S.drop a)[j]? = some s) (hg : s.gone = false) : slotV (live (S.drop a)).head? = (s.key, s.val, true) := by rw [head_live h hs hg]; rfl
theorem next_end {S : List Slt} {a j : Nat} (h : live ((S.drop a).take j) = []) (hj : (S.drop a).length ≤ j) : slotV (live (S.drop a)).head? = (zVl, zVl, false) := by rw [head_none h hj]; rfl
theorem okeys_step {S : List Slt} {i : Nat} {s : Slt} (h : S[i]? = some s) : okeys (S.take (i + 1)) = if s.gone then okeys (S.take i) else okeys (S.take i) ++ [s.key] := by
  unfold okeys; rw [live_take h]; split <;> simp
theorem okeys_len (S : List Slt) : (okeys S).length ≤ S.length := by unfold okeys; rw [List.length_map]; exact cnt_le S
theorem set_same {α : Type} {L : List α} {i : Nat} {x : α} (h : L[i]? = some x) : L.set i x = L := by
  obtain ⟨hi, e⟩ := List.getElem?_eq_some_iff.1 h
  rw [← e]; simp
theorem okKey_bad {k : Vl} (h : k.kind = 0 ∨ validB k = false) : okKey k = false := by unfold okKey; rcases h with h | h <;> simp [h]
theorem okKey_good {k : Vl} (h0 : decide (k.kind = 0) = false) (h : validB k = true) : okKey k = true := by unfold okKey; rw [h0, h]; rfl
theorem osetE_bad {k v : Vl} (h : okKey k = false) : osetE k v = 13 := by unfold osetE; rw [if_pos h]
theorem osetE_val {k v : Vl} (h : okKey k = true) (hv : validB v = false) : osetE k v = 2 := by unfold osetE; rw [if_neg (by rw [h]; decide), if_pos hv]
theorem osetE_ok {k v : Vl} (h : okKey k = true) (hv : validB v = true) : osetE k v = 0 := by unfold osetE; rw [if_neg (by rw [h]; decide), if_neg (by rw [hv]; decide)]
theorem nil_val {v : Vl} (h : validB v = true) (h0 : v.kind = 0) : v = zVl := by
  unfold validB at h; rw [if_pos h0, decide_eq_true_eq] at h; exact h
theorem omset_s {Z : Zone} {F : List Asr} {b : Nat} {S : List Slt} (hs : S.length ≤ 1000000) (k v : Vl) : SF Try.prog 48 #[.pointer (some ⟨b, 0, none⟩), k.v, v.v] Z (omA b S :: F) fun r Bs => r = .int .i64 (osetE k v) ∧ Bs = omA b (osetL S k v) :: F := by
 refine sf_enter Try.func48 130 [(0, pB b 0), (1, .agg #[.int .i64 k.kind, .int .i64 k.p, .int .i64 k.q, .string k.str, .int .i64 k.ref]), (2, .agg #[.int .i64 v.kind, .int .i64 v.p, .int .i64 v.q, .string v.str, .int .i64 v.ref])] (fun w0 => ?_)
 refine k_fact (fun H h => om_inv (h.re [0] [])) (fun hinv0 => ?_)
 have hcl0 := cnt_le S
 refine k_sr ?_
 refine s_box #[.int .i64 k.kind, .int .i64 k.p, .int .i64 k.q, .string k.str, .int .i64 k.ref] (fun g1 => ?_)
 refine s_box #[.int .i64 v.kind, .int .i64 v.p, .int .i64 v.q, .string v.str, .int .i64 v.ref] (fun g2 => ?_)
 refine sp (.int .i64 0) ?_
 refine s_nt ?_
 refine k_seq ?_
 refine k_block ?_
 refine k_sr ?_
 refine sp (pB b 0) ?_
 refine sp (.bool false) ?_
 refine sp (.bool false) ?_
 refine s_nt ?_
 refine k_false ?_
 refine k_cut (ι := Unit) (fun _ => True) (fun _ => [(0, pB b 0), (4, pB g1 0), (5, pB g2 0), (13, .bool ((decide (k.kind = 0)) || (!(validB k))))]) (fun _ => blkA g2 #[.int .i64 v.kind, .int .i64 v.p, .int .i64 v.q, .string v.str, .int .i64 v.ref] 26 :: blkA g1 #[.int .i64 k.kind, .int .i64 k.p, .int .i64 k.q, .string k.str, .int .i64 k.ref] 26 :: omA b S :: F) ?_ (fun _ _ => ?_)
 ·
  refine k_reg ?_
  refine sp (pB g1 0) ?_
  refine s_lt (t_load 1 (.int .i64 k.kind)) ?_
  refine s_lt t_cmp ?_
  refine sp (.bool (decide (k.kind = 0))) ?_
  refine s_fork 17 (decide (k.kind = 0)) (fun c3 => ?_) (fun c3 => ?_)
  ·
   have p4 := of_decide_eq_true c3
   refine s_skip ?_
   refine s_skip ?_
   refine s_skip ?_
   refine sp (.bool true) ?_
   refine sp (.bool true) ?_
   refine s_nil ?_
   exact xs_cut () trivial (sub_of rfl ⟨⟨rfl, rfl⟩, ⟨⟨rfl, rfl⟩, ⟨⟨rfl, rfl⟩, ⟨⟨rfl, show Value.bool true = Value.bool ((decide (k.kind = 0)) || (!(validB k))) by first | (simp only [c3, bls]; done) | simp [c3]⟩, trivial⟩⟩⟩⟩) (fun _ h => h.re [0, 0, 0] [])
  ·
   have p5 := of_decide_eq_false c3
   refine s_lt (t_loadA 1 #[.int .i64 k.kind, .int .i64 k.p, .int .i64 k.q, .string k.str, .int .i64 k.ref]) ?_
   refine s_vcall (fun _ h => valid_s k) ?_
   rintro _ rfl
   refine sp (.bool (!(validB k))) ?_
   refine sp (.bool (!(validB k))) ?_
   refine sp (.bool (!(validB k))) ?_
   refine s_nil ?_
   exact xs_cut () trivial (sub_of rfl ⟨⟨rfl, rfl⟩, ⟨⟨rfl, rfl⟩, ⟨⟨rfl, rfl⟩, ⟨⟨rfl, show Value.bool (!(validB k)) = Value.bool ((decide (k.kind = 0)) || (!(validB k))) by first | (simp only [c3, bls]; done) | simp [c3]⟩, trivial⟩⟩⟩⟩) (fun _ h => h.re [0, 0, 0] [])
 ·
  refine k_cond ((decide (k.kind = 0)) || (!(validB k))) (fun c6 => ?_) (fun c6 => ?_)
  ·
   have p7 := c6
   simp only [Bool.and_eq_true, Bool.or_eq_true, Bool.and_eq_false_iff, Bool.or_eq_false_iff, Bool.not_eq_true', Bool.not_eq_false', decide_eq_true_eq, decide_eq_false_iff_not] at p7
   refine k_sr ?_
   refine sp (.int .i64 13) ?_
   refine s_nt ?_
   refine k_ret ?_
   refine xs_retBlock ?_
   refine xs_ret ?_
   have hk := okKey_bad p7
   refine xs_fin [.int .i64 13] (omA b S :: F) (SI.tmp 6 SI.nil) (fun _ h => h.re [2] [1, 1]) ⟨congrArg (Value.int .i64) (osetE_bad hk).symm, ?_⟩
   rw [osetL_bad (v := v) (.inl hk)]
  ·
   obtain ⟨c8, c9⟩ := or_f c6
   have p10 := of_decide_eq_false c8
   have c11 := not_f c9
   refine k_sr ?_
   refine s_lt (t_loadA 0 #[.int .i64 v.kind, .int .i64 v.p, .int .i64 v.q, .string v.str, .int .i64 v.ref]) ?_
   refine s_vcall (fun _ h => valid_s v) ?_
   rintro _ rfl
   refine sp (.bool (!(validB v))) ?_
   refine sp (.bool (!(validB v))) ?_
   refine s_nt ?_
   refine k_cond (!(validB v)) (fun c12 => ?_) (fun c12 => ?_)
   ·
    have c13 := not_t c12
    refine k_sr ?_
    refine sp (.int .i64 2) ?_
    refine s_nt ?_
    refine k_ret ?_
    refine xs_retBlock ?_
    refine xs_ret ?_
    have hk := okKey_good c8 c11
    refine xs_fin [.int .i64 2] (omA b S :: F) (SI.tmp 6 SI.nil) (fun _ h => h.re [2] [1, 1]) ⟨congrArg (Value.int .i64) (osetE_val hk c13).symm, ?_⟩
    rw [osetL_bad (v := v) (.inr c13)]
   ·
    have c14 := not_f c12
    refine k_skip ?_
    refine xs_block ?_
    refine xs_then ?_
    refine k_seq ?_
    refine k_draw ?_
    refine sp (pB b 0) ?_
    refine sp (pB b 0) ?_
    refine sp (pB b 1) ?_
    refine s_mem3 (fun H h => om_open (h.re [2] [])) (fun sv15 mb16 m17 hw => ?_)
    obtain ⟨hinv18, hag19⟩ := hw
    refine s_lt (t_load 0 (.map (some mb16))) ?_
    refine s_lt (t_loadA 4 #[.int .i64 k.kind, .int .i64 k.p, .int .i64 k.q, .string k.str, .int .i64 k.ref]) ?_
    rcases last_cases hag19 hinv18 k with ⟨hl20, hm21, ht22, hg23⟩ | ⟨i24, s25, hl26, hm27, hs28, hk29, hg30, ht31⟩
    ·
     refine s_lt (Lt.to (v' := .tuple #[.int .i64 0, .bool false]) (t_lookupOk 2 vK_ok Try.underlying109 (.int .i64 0) k) (by rw [hm21]; rfl)) ?_
     refine sp (.tuple #[.int .i64 0, .bool false]) ?_
     refine sp (.int .i64 0) ?_
     refine sp (.bool false) ?_
     refine sp (.int .i64 0) ?_
     refine sp (.bool false) ?_
     refine s_nil ?_
     refine x_dynS (fun _ h => by kernel_rfl) ?_
     refine xs_then ?_
     refine k_sr ?_
     refine sp (.bool false) ?_
     refine sp (.bool false) ?_
     refine s_skip ?_
     refine s_skip ?_
     refine s_skip ?_
     refine s_skip ?_
     refine s_skip ?_
     refine s_skip ?_
     refine s_skip ?_
     refine s_skip ?_
     refine s_skip ?_
     refine sp (.bool false) ?_
     refine sp (.bool false) ?_
     refine s_nt ?_
     refine k_seq ?_
     refine k_block ?_
     refine k_cut (ι := Unit) (fun _ => True) (fun _ => [(0, pB b 0), (4, pB g1 0), (5, pB g2 0), (7, .int .i64 0), (9, .bool false), (94, .bool false)]) (fun _ => blkA b #[sv15, .map (some mb16), .int .i64 (cnt S : Int)] 112 :: own SltT sv15 S :: mpA vK nV mb16 m17 :: blkA g2 #[.int .i64 v.kind, .int .i64 v.p, .int .i64 v.q, .string v.str, .int .i64 v.ref] 26 :: blkA g1 #[.int .i64 k.kind, .int .i64 k.p, .int .i64 k.q, .string k.str, .int .i64 k.ref] 26 :: F) ?_ (fun _ _ => ?_)
     ·
      refine k_reg ?_
      refine sp (pB g2 0) ?_
      refine s_lt (t_load 3 (.int .i64 v.kind)) ?_
      refine s_lt t_cmp ?_
      refine sp (.bool (decide (v.kind = 0))) ?_
      refine s_fork 98 (decide (v.kind = 0)) (fun c32 => ?_) (fun c32 => ?_)
      ·
       have p33 := of_decide_eq_true c32
       refine sp (.bool false) ?_
       refine sp (.bool false) ?_
       refine sp (.bool false) ?_
       refine s_nil ?_
       exact xcut () (fun _ h => h.re [0, 0, 0, 0, 0] [])
      ·
       have p34 := of_decide_eq_false c32
       refine s_skip ?_
       refine sp (.bool false) ?_
       refine sp (.bool false) ?_
       refine s_nil ?_
       exact xcut () (fun _ h => h.re [0, 0, 0, 0, 0] [])
     ·
      refine k_false ?_
      refine k_sr ?_
      refine sp (pB g2 0) ?_
      refine s_lt (t_load 3 (.int .i64 v.kind)) ?_
      refine s_lt t_cmp ?_
      refine sp (.bool (decide (v.kind = 0))) ?_
      refine s_nt ?_
      refine k_cond (decide (v.kind = 0)) (fun c35 => ?_) (fun c35 => ?_)
      ·
       have p36 := of_decide_eq_true c35
       refine k_skip ?_
       refine xs_block ?_
       refine xs_then ?_
       refine k_sr ?_
       refine sp (.int .i64 0) ?_
       refine s_nt ?_
       refine k_ret ?_
       have hk := okKey_good c8 c11
       have hS : osetL S k v = S := by rw [osetL_rem hk c14 (of_decide_eq_true c35), ht22]
       have hinv1 : OInv S := by rw [← hS]; exact osetL_inv hinv0 k v
       refine xs_mem (fun _ h => om_shut (S := S) (n := (cnt S : Int)) ⟨⟨hinv1, hag19⟩, rfl⟩ (h.re [0, 0, 0] [])) ?_
       refine xs_fin [.int .i64 0] (omA b S :: F) (SI.tmp 6 SI.nil) (fun _ h => h.re [0] [1, 1]) ⟨congrArg (Value.int .i64) (osetE_ok hk c14).symm, ?_⟩
       rw [hS]
      ·
       have p37 := of_decide_eq_false c35
       refine k_sr ?_
       refine sp (.bool false) ?_
       refine sp (.bool false) ?_
       refine s_nt ?_
       refine k_false ?_
       refine k_seq ?_
       refine k_seq ?_
       refine k_draw ?_
       refine sp (pB b 0) ?_
       refine sp (pB b 0) ?_
       refine sp (pB b 0) ?_
       refine s_lt (t_load 0 sv15) ?_
       refine s_fact (fun H h => ((Acc.own (T := SltT) (L := S) 1 rfl) H h).form) (fun hf38 => ?_)
       refine s_lt (t_len SltT_ok Try.underlying110 (.own 1)) ?_
       refine sp (pB b 0) ?_
       refine sp (pB b 0) ?_
       refine sp (pB b 2) ?_
       refine s_lt (t_load 0 (.int .i64 (cnt S : Int))) ?_
       refine s_lt (t_sub (S.length : Int) (cnt S : Int) (by (try simp only [lnm]); omega)) ?_
       refine sp (pB b 0) ?_
       refine sp (pB b 0) ?_
       refine sp (pB b 2) ?_
       refine s_lt (t_load 0 (.int .i64 (cnt S : Int))) ?_
       refine s_lt (t_add (cnt S : Int) 8 (by (try simp only [lnm]); omega)) ?_
       refine s_lt t_cmp ?_
       refine s_nil ?_
       refine x_dynS (fun _ h => by obtain ⟨_, _, e⟩ := hf38; subst e; kernel_rfl) ?_
       refine xs_then ?_
       refine k_cond (decide (((cnt S : Int) + 8) < ((S.length : Int) - (cnt S : Int)))) (fun c39 => ?_) (fun c39 => ?_)
       ·
        have p40 := of_decide_eq_true c39
        refine k_reg ?_
        refine sp (pB b 0) ?_
        refine s_mem (fun _ h => om_shut (S := S) (n := (cnt S : Int)) ⟨⟨hinv18, hag19⟩, rfl⟩ (h.re [0, 0, 0] [])) ?_
        refine s_call [0] (omdrop_s (S := S) (by omega)) ?_
        rintro _ _ ⟨rfl, rfl⟩
        have hll41 := cnt_le S
        have hll42 := cnt_live S
        have hll43 : (live S).length = cnt S := rfl
        refine s_nt ?_
        refine k_seq ?_
        refine k_draw ?_
        refine sp (pB b 0) ?_
        refine sp (pB b 0) ?_
        refine sp (pB b 1) ?_
        refine s_mem3 (fun H h => om_open (h.re [0] [])) (fun sv44 mb45 m46 hw => ?_)
        obtain ⟨hinv47, hag48⟩ := hw
        refine s_lt (t_load 0 (.map (some mb45))) ?_
        refine s_lt (t_loadA 4 #[.int .i64 k.kind, .int .i64 k.p, .int .i64 k.q, .string k.str, .int .i64 k.ref]) ?_
        refine sp (pB b 0) ?_
        refine sp (pB b 0) ?_
        refine sp (pB b 0) ?_
        refine s_lt (t_load 0 sv44) ?_
        refine s_fact (fun H h => ((Acc.own (T := SltT) (L := (live S)) 1 rfl) H h).form) (fun hf49 => ?_)
        refine s_lt (t_len SltT_ok Try.underlying110 (.own 1)) ?_
        refine s_update 2 vK_ok Try.underlying109 k ((live S).length) ?_
        refine s_nil ?_
        refine x_dynS (fun _ h => by obtain ⟨_, _, e⟩ := hf49; subst e; kernel_rfl) ?_
        refine xs_then ?_
        refine k_seq ?_
        refine k_draw ?_
        refine sp (pB b 0) ?_
        refine sp (pB b 0) ?_
        refine sp (pB b 0) ?_
        refine sp (pB b 0) ?_
        refine s_lt (t_load 0 sv44) ?_
        refine s_lt (t_loadA 4 #[.int .i64 k.kind, .int .i64 k.p, .int .i64 k.q, .string k.str, .int .i64 k.ref]) ?_
        refine s_lt (t_loadA 3 #[.int .i64 v.kind, .int .i64 v.p, .int .i64 v.q, .string v.str, .int .i64 v.ref]) ?_
        refine s_lt (t_kern (.agg #[.int .i64 k.kind, .int .i64 k.p, .int .i64 k.q, .string k.str, .int .i64 k.ref, .int .i64 v.kind, .int .i64 v.p, .int .i64 v.q, .string v.str, .int .i64 v.ref, .bool false])) ?_
        refine s_buildSlice (e := 115) [(0, .agg #[.int .i64 k.kind, .int .i64 k.p, .int .i64 k.q, .string k.str, .int .i64 k.ref, .int .i64 v.kind, .int .i64 v.p, .int .i64 v.q, .string v.str, .int .i64 v.ref, .bool false])] #[.int .i64 k.kind, .int .i64 k.p, .int .i64 k.q, .string k.str, .int .i64 k.ref, .int .i64 v.kind, .int .i64 v.p, .int .i64 v.q, .string v.str, .int .i64 v.ref, .bool false] (fun g50 => ?_) (hb := by kernel_rfl)
        refine s_append (L := (live S)) 2 SltT_ok Try.underlying110 (.lit 0 SltT_ok [(⟨k, v, false⟩ : Slt)]) (by show _ * 104 ≤ _; (try simp only [lnm]); omega) (by (try simp only [lnm]); omega) (fun v51 => ?_)
        refine sp (pB b 0) ?_
        refine sp (pB b 0) ?_
        refine s_fact (fun H h => ((Acc.own (T := SltT) (L := ((live S) ++ [(⟨k, v, false⟩ : Slt)])) 2 rfl) H h).form) (fun hf52 => ?_)
        refine s_store (u := v51) (m := 1) 1 #[v51, .map (some mb45), .int .i64 (cnt (live S) : Int)] ?_ (hm := by (obtain ⟨_, _, e⟩ := hf52; rw [e]; rfl)) (h1 := by (obtain ⟨_, _, e⟩ := hf52; rw [e]; rfl)) (ha' := by (obtain ⟨_, _, e⟩ := hf52; rw [e]; rfl))
        refine s_nil ?_
        refine x_dynS (fun _ h => by kernel_rfl) ?_
        refine xs_then ?_
        refine k_reg ?_
        refine sp (pB b 0) ?_
        refine sp (pB b 0) ?_
        refine sp (pB b 2) ?_
        refine s_lt (t_load 1 (.int .i64 (cnt (live S) : Int))) ?_
        refine s_lt (t_add (cnt (live S) : Int) 1 (by (try simp only [lnm]); omega)) ?_
        refine sp (pB b 0) ?_
        refine sp (pB b 2) ?_
        refine s_store 1 #[v51, .map (some mb45), .int .i64 ((cnt (live S) : Int) + 1)] ?_
        refine s_nil ?_
        refine xs_block ?_
        refine xs_then ?_
        refine k_sr ?_
        refine sp (.int .i64 0) ?_
        refine s_nt ?_
        refine k_ret ?_
        have hk := okKey_good c8 c11
        have hcl := cnt_le S
        have hS : osetL S k v = ((live S) ++ [(⟨k, v, false⟩ : Slt)]) := by rw [osetL_put hk c14 (of_decide_eq_false c35), ht22]; show (if _ then _ else _) ++ _ = _; rw [if_pos (by have hx := of_decide_eq_true c39; omega)]
        have hinv1 : OInv ((live S) ++ [(⟨k, v, false⟩ : Slt)]) := by rw [← hS]; exact osetL_inv hinv0 k v
        refine xs_mem (fun _ h => om_shut (S := ((live S) ++ [(⟨k, v, false⟩ : Slt)])) (n := ((cnt (live S) : Int) + 1)) ⟨⟨hinv1, agr_snoc hag48 k v⟩, by rw [cnt_snoc]; try rfl⟩ (h.re [1, 1, 1] [])) ?_
        refine xs_fin [.int .i64 0] (omA b ((live S) ++ [(⟨k, v, false⟩ : Slt)]) :: F) (SI.tmp 6 SI.nil) (fun _ h => h.re [0] [1, 1, 1]) ⟨congrArg (Value.int .i64) (osetE_ok hk c14).symm, ?_⟩
        rw [hS]
       ·
        have p53 := of_decide_eq_false c39
        refine k_st ?_
        refine k_seq ?_
        refine k_draw ?_
        refine sp (pB b 0) ?_
        refine sp (pB b 0) ?_
        refine sp (pB b 1) ?_
        refine s_lt (t_load 0 (.map (some mb16))) ?_
        refine s_lt (t_loadA 4 #[.int .i64 k.kind, .int .i64 k.p, .int .i64 k.q, .string k.str, .int .i64 k.ref]) ?_
        refine sp (pB b 0) ?_
        refine sp (pB b 0) ?_
        refine sp (pB b 0) ?_
        refine s_lt (t_load 0 sv15) ?_
        refine s_lt (t_len SltT_ok Try.underlying110 (.own 1)) ?_
        refine s_update 2 vK_ok Try.underlying109 k S.length ?_
        refine s_nil ?_
        refine x_dynS (fun _ h => by obtain ⟨_, _, e⟩ := hf38; subst e; kernel_rfl) ?_
        refine xs_then ?_
        refine k_seq ?_
        refine k_draw ?_
        refine sp (pB b 0) ?_
        refine sp (pB b 0) ?_
        refine sp (pB b 0) ?_
        refine sp (pB b 0) ?_
        refine s_lt (t_load 0 sv15) ?_
        refine s_lt (t_loadA 4 #[.int .i64 k.kind, .int .i64 k.p, .int .i64 k.q, .string k.str, .int .i64 k.ref]) ?_
        refine s_lt (t_loadA 3 #[.int .i64 v.kind, .int .i64 v.p, .int .i64 v.q, .string v.str, .int .i64 v.ref]) ?_
        refine s_lt (t_kern (.agg #[.int .i64 k.kind, .int .i64 k.p, .int .i64 k.q, .string k.str, .int .i64 k.ref, .int .i64 v.kind, .int .i64 v.p, .int .i64 v.q, .string v.str, .int .i64 v.ref, .bool false])) ?_
        refine s_buildSlice (e := 115) [(0, .agg #[.int .i64 k.kind, .int .i64 k.p, .int .i64 k.q, .string k.str, .int .i64 k.ref, .int .i64 v.kind, .int .i64 v.p, .int .i64 v.q, .string v.str, .int .i64 v.ref, .bool false])] #[.int .i64 k.kind, .int .i64 k.p, .int .i64 k.q, .string k.str, .int .i64 k.ref, .int .i64 v.kind, .int .i64 v.p, .int .i64 v.q, .string v.str, .int .i64 v.ref, .bool false] (fun g54 => ?_) (hb := by kernel_rfl)
        refine s_append (L := S) 2 SltT_ok Try.underlying110 (.lit 0 SltT_ok [(⟨k, v, false⟩ : Slt)]) (by show _ * 104 ≤ _; (try simp only [lnm]); omega) (by (try simp only [lnm]); omega) (fun v55 => ?_)
        refine sp (pB b 0) ?_
        refine sp (pB b 0) ?_
        refine s_fact (fun H h => ((Acc.own (T := SltT) (L := (S ++ [(⟨k, v, false⟩ : Slt)])) 2 rfl) H h).form) (fun hf56 => ?_)
        refine s_store (u := v55) (m := 1) 1 #[v55, .map (some mb16), .int .i64 (cnt S : Int)] ?_ (hm := by (obtain ⟨_, _, e⟩ := hf56; rw [e]; rfl)) (h1 := by (obtain ⟨_, _, e⟩ := hf56; rw [e]; rfl)) (ha' := by (obtain ⟨_, _, e⟩ := hf56; rw [e]; rfl))
        refine s_nil ?_
        refine x_dynS (fun _ h => by kernel_rfl) ?_
        refine xs_then ?_
        refine k_reg ?_
        refine sp (pB b 0) ?_
        refine sp (pB b 0) ?_
        refine sp (pB b 2) ?_
        refine s_lt (t_load 1 (.int .i64 (cnt S : Int))) ?_
        refine s_lt (t_add (cnt S : Int) 1 (by (try simp only [lnm]); omega)) ?_
        refine sp (pB b 0) ?_
        refine sp (pB b 2) ?_
        refine s_store 1 #[v55, .map (some mb16), .int .i64 ((cnt S : Int) + 1)] ?_
        refine s_nil ?_
        refine xs_block ?_
        refine xs_then ?_
        refine k_sr ?_
        refine sp (.int .i64 0) ?_
        refine s_nt ?_
        refine k_ret ?_
        have hk := okKey_good c8 c11
        have hcl := cnt_le S
        have hS : osetL S k v = (S ++ [(⟨k, v, false⟩ : Slt)]) := by rw [osetL_put hk c14 (of_decide_eq_false c35), ht22]; show (if _ then _ else _) ++ _ = _; rw [if_neg (by have hx := of_decide_eq_false c39; omega)]
        have hinv1 : OInv (S ++ [(⟨k, v, false⟩ : Slt)]) := by rw [← hS]; exact osetL_inv hinv0 k v
        refine xs_mem (fun _ h => om_shut (S := (S ++ [(⟨k, v, false⟩ : Slt)])) (n := ((cnt S : Int) + 1)) ⟨⟨hinv1, agr_snoc hag19 k v⟩, by rw [cnt_snoc]; try rfl⟩ (h.re [1, 1, 1] [])) ?_
        refine xs_fin [.int .i64 0] (omA b (S ++ [(⟨k, v, false⟩ : Slt)]) :: F) (SI.tmp 6 SI.nil) (fun _ h => h.re [0] [1, 1, 1]) ⟨congrArg (Value.int .i64) (osetE_ok hk c14).symm, ?_⟩
        rw [hS]
    ·
     have hlt57 : i24 < S.length := (List.getElem?_eq_some_iff.1 hs28).1
     refine s_lt (Lt.to (v' := .tuple #[.int .i64 (i24 : Int), .bool true]) (t_lookupOk 2 vK_ok Try.underlying109 (.int .i64 0) k) (by rw [hm27]; rfl)) ?_
     refine sp (.tuple #[.int .i64 (i24 : Int), .bool true]) ?_
     refine sp (.int .i64 (i24 : Int)) ?_
     refine sp (.bool true) ?_
     refine sp (.int .i64 (i24 : Int)) ?_
     refine sp (.bool true) ?_
     refine s_nil ?_
     refine x_dynS (fun _ h => by kernel_rfl) ?_
     refine xs_then ?_
     refine k_sr ?_
     refine sp (.bool true) ?_
     refine sp (.bool true) ?_
     refine sp (pB b 0) ?_
     refine sp (pB b 0) ?_
     refine sp (pB b 0) ?_
     refine s_lt (t_load 0 sv15) ?_
     refine sp (.int .i64 (i24 : Int)) ?_
     refine s_lt (t_index SltT_ok Try.underlying110 (.own 1) (i24 : Int) i24 (by omega) (by (try simp only [lnm]); omega) (by omega)) ?_
     refine sp (.pointer (some ((elemAt SltT.size sv15 i24).add 10))) ?_
     refine s_lt (t_loadF 10 SltT_ok (.own 1) hs28) ?_
     refine sp (.bool (!s25.gone)) ?_
     refine sp (.bool (!s25.gone)) ?_
     refine sp (.bool (!s25.gone)) ?_
     refine s_nt ?_
     refine k_seq ?_
     refine k_block ?_
     refine k_cut (ι := Unit) (fun _ => True) (fun _ => [(0, pB b 0), (4, pB g1 0), (5, pB g2 0), (7, .int .i64 (i24 : Int)), (9, .bool (!s25.gone)), (94, .bool ((decide (v.kind = 0)) && (!s25.gone)))]) (fun _ => blkA b #[sv15, .map (some mb16), .int .i64 (cnt S : Int)] 112 :: own SltT sv15 S :: mpA vK nV mb16 m17 :: blkA g2 #[.int .i64 v.kind, .int .i64 v.p, .int .i64 v.q, .string v.str, .int .i64 v.ref] 26 :: blkA g1 #[.int .i64 k.kind, .int .i64 k.p, .int .i64 k.q, .string k.str, .int .i64 k.ref] 26 :: F) ?_ (fun _ _ => ?_)
     ·
      refine k_reg ?_
      refine sp (pB g2 0) ?_
      refine s_lt (t_load 3 (.int .i64 v.kind)) ?_
      refine s_lt t_cmp ?_
      refine sp (.bool (decide (v.kind = 0))) ?_
      refine s_fork 98 (decide (v.kind = 0)) (fun c58 => ?_) (fun c58 => ?_)
      ·
       have p59 := of_decide_eq_true c58
       refine sp (.bool (!s25.gone)) ?_
       refine sp (.bool (!s25.gone)) ?_
       refine sp (.bool (!s25.gone)) ?_
       refine s_nil ?_
       exact xs_cut () trivial (sub_of rfl ⟨⟨rfl, rfl⟩, ⟨⟨rfl, rfl⟩, ⟨⟨rfl, rfl⟩, ⟨⟨rfl, rfl⟩, ⟨⟨rfl, rfl⟩, ⟨⟨rfl, show Value.bool (!s25.gone) = Value.bool ((decide (v.kind = 0)) && (!s25.gone)) by first | (simp only [c58, bls]; done) | simp [c58]⟩, trivial⟩⟩⟩⟩⟩⟩) (fun _ h => h.re [0, 0, 0, 0, 0] [])
      ·
       have p60 := of_decide_eq_false c58
       refine s_skip ?_
       refine sp (.bool false) ?_
       refine sp (.bool false) ?_
       refine s_nil ?_
       exact xs_cut () trivial (sub_of rfl ⟨⟨rfl, rfl⟩, ⟨⟨rfl, rfl⟩, ⟨⟨rfl, rfl⟩, ⟨⟨rfl, rfl⟩, ⟨⟨rfl, rfl⟩, ⟨⟨rfl, show Value.bool false = Value.bool ((decide (v.kind = 0)) && (!s25.gone)) by first | (simp only [c58, bls]; done) | simp [c58]⟩, trivial⟩⟩⟩⟩⟩⟩) (fun _ h => h.re [0, 0, 0, 0, 0] [])
     ·
      refine k_cond ((decide (v.kind = 0)) && (!s25.gone)) (fun c61 => ?_) (fun c61 => ?_)
      ·
       obtain ⟨c62, c63⟩ := and_t c61
       have p64 := of_decide_eq_true c62
       have c65 := not_t c63
       refine k_seq ?_
       refine k_draw ?_
       refine sp (pB b 0) ?_
       refine sp (pB b 0) ?_
       refine sp (pB b 0) ?_
       refine s_lt (t_load 0 sv15) ?_
       refine sp (.int .i64 (i24 : Int)) ?_
       refine s_lt (t_loadA 4 #[.int .i64 k.kind, .int .i64 k.p, .int .i64 k.q, .string k.str, .int .i64 k.ref]) ?_
       refine s_lt (t_kern (.agg #[.int .i64 k.kind, .int .i64 k.p, .int .i64 k.q, .string k.str, .int .i64 k.ref, .int .i64 0, .int .i64 0, .int .i64 0, .string ByteArray.empty, .int .i64 0, .bool true])) ?_
       refine s_lt (t_index SltT_ok Try.underlying110 (.own 1) (i24 : Int) i24 (by omega) (by (try simp only [lnm]); omega) (by omega)) ?_
       refine s_storeE 1 0 (⟨k, zVl, true⟩ : Slt) SltT_ok hs28 ?_
       refine s_nil ?_
       refine x_dynS (fun _ h => by kernel_rfl) ?_
       refine xs_then ?_
       refine k_reg ?_
       refine sp (pB b 0) ?_
       refine sp (pB b 0) ?_
       refine sp (pB b 2) ?_
       refine s_lt (t_load 0 (.int .i64 (cnt S : Int))) ?_
       refine s_lt (t_sub (cnt S : Int) 1 (by (try simp only [lnm]); omega)) ?_
       refine sp (pB b 0) ?_
       refine sp (pB b 2) ?_
       refine s_store 0 #[sv15, .map (some mb16), .int .i64 ((cnt S : Int) - 1)] ?_
       refine s_nil ?_
       refine xs_block ?_
       refine xs_then ?_
       refine k_sr ?_
       refine sp (.int .i64 0) ?_
       refine s_nt ?_
       refine k_ret ?_
       have hk := okKey_good c8 c11
       have hS : osetL S k v = (S.set i24 (⟨k, zVl, true⟩ : Slt)) := by rw [osetL_rem hk c14 (of_decide_eq_true c62), ht31, if_neg (by rw [c65]; decide)]
       have hinv1 : OInv (S.set i24 (⟨k, zVl, true⟩ : Slt)) := by rw [← hS]; exact osetL_inv hinv0 k v
       refine xs_mem (fun _ h => om_shut (S := (S.set i24 (⟨k, zVl, true⟩ : Slt))) (n := ((cnt S : Int) - 1)) ⟨⟨hinv1, agr_set hag19 hl26 rfl⟩, (cnt_gone hs28 c65 k).symm⟩ (h.re [0, 0, 0] [])) ?_
       refine xs_fin [.int .i64 0] (omA b (S.set i24 (⟨k, zVl, true⟩ : Slt)) :: F) (SI.tmp 6 SI.nil) (fun _ h => h.re [0] [1, 1]) ⟨congrArg (Value.int .i64) (osetE_ok hk c14).symm, ?_⟩
       rw [hS]
      ·
       have p66 := c61
       simp only [Bool.and_eq_true, Bool.or_eq_true, Bool.and_eq_false_iff, Bool.or_eq_false_iff, Bool.not_eq_true', Bool.not_eq_false', decide_eq_true_eq, decide_eq_false_iff_not] at p66
       refine k_sr ?_
       refine sp (pB g2 0) ?_
       refine s_lt (t_load 3 (.int .i64 v.kind)) ?_
       refine s_lt t_cmp ?_
       refine sp (.bool (decide (v.kind = 0))) ?_
       refine s_nt ?_
       refine k_cond (decide (v.kind = 0)) (fun c67 => ?_) (fun c67 => ?_)
       ·
        have p68 := of_decide_eq_true c67
        refine k_skip ?_
        refine xs_block ?_
        refine xs_then ?_
        refine k_sr ?_
        refine sp (.int .i64 0) ?_
        refine s_nt ?_
        refine k_ret ?_
        have hk := okKey_good c8 c11
        have hgg : s25.gone = true := by have hx := p66; have hy := of_decide_eq_true c67; simpa [hy] using hx
        have hS : osetL S k v = S := by rw [osetL_rem hk c14 (of_decide_eq_true c67), ht31, if_pos hgg]
        have hinv1 : OInv S := by rw [← hS]; exact osetL_inv hinv0 k v
        refine xs_mem (fun _ h => om_shut (S := S) (n := (cnt S : Int)) ⟨⟨hinv1, hag19⟩, rfl⟩ (h.re [0, 0, 0] [])) ?_
        refine xs_fin [.int .i64 0] (omA b S :: F) (SI.tmp 6 SI.nil) (fun _ h => h.re [0] [1, 1]) ⟨congrArg (Value.int .i64) (osetE_ok hk c14).symm, ?_⟩
        rw [hS]
       ·
        have p69 := of_decide_eq_false c67
        refine k_sr ?_
        refine sp (.bool (!s25.gone)) ?_
        refine sp (.bool (!s25.gone)) ?_
        refine s_nt ?_
        refine k_cond (!s25.gone) (fun c70 => ?_) (fun c70 => ?_)
        ·
         have c71 := not_t c70
         refine k_draw ?_
         refine sp (pB b 0) ?_
         refine sp (pB b 0) ?_
         refine sp (pB b 0) ?_
         refine s_lt (t_load 0 sv15) ?_
         refine sp (.int .i64 (i24 : Int)) ?_
         refine s_lt (t_loadA 3 #[.int .i64 v.kind, .int .i64 v.p, .int .i64 v.q, .string v.str, .int .i64 v.ref]) ?_
         refine s_lt (t_index SltT_ok Try.underlying110 (.own 1) (i24 : Int) i24 (by omega) (by (try simp only [lnm]); omega) (by omega)) ?_
         refine sp (.pointer (some ((elemAt SltT.size sv15 i24).add 5))) ?_
         refine s_storeE 1 5 (⟨s25.key, v, s25.gone⟩ : Slt) SltT_ok hs28 ?_
         refine s_nil ?_
         refine x_dynS (fun _ h => by kernel_rfl) ?_
         refine xs_block ?_
         refine xs_then ?_
         refine k_sr ?_
         refine sp (.int .i64 0) ?_
         refine s_nt ?_
         refine k_ret ?_
         have hk := okKey_good c8 c11
         have hS : osetL S k v = (S.set i24 (⟨s25.key, v, s25.gone⟩ : Slt)) := by rw [osetL_put hk c14 (of_decide_eq_false c67), ht31, if_neg (by rw [c71]; decide), hk29, c71]
         have hinv1 : OInv (S.set i24 (⟨s25.key, v, s25.gone⟩ : Slt)) := by rw [← hS]; exact osetL_inv hinv0 k v
         refine xs_mem (fun _ h => om_shut (S := (S.set i24 (⟨s25.key, v, s25.gone⟩ : Slt))) (n := (cnt S : Int)) ⟨⟨hinv1, agr_set hag19 hl26 hk29⟩, by rw [c71]; exact congrArg (fun n : Nat => (n : Int)) (cnt_val hs28 c71 _ _).symm⟩ (h.re [0, 0, 0] [])) ?_
         refine xs_fin [.int .i64 0] (omA b (S.set i24 (⟨s25.key, v, s25.gone⟩ : Slt)) :: F) (SI.tmp 6 SI.nil) (fun _ h => h.re [0] [1, 1]) ⟨congrArg (Value.int .i64) (osetE_ok hk c14).symm, ?_⟩
         rw [hS]
        ·
         have c72 := not_f c70
         refine k_seq ?_
         refine k_seq ?_
         refine k_draw ?_
         refine sp (pB b 0) ?_
         refine sp (pB b 0) ?_
         refine sp (pB b 0) ?_
         refine s_lt (t_load 0 sv15) ?_
         refine s_fact (fun H h => ((Acc.own (T := SltT) (L := S) 1 rfl) H h).form) (fun hf73 => ?_)
         refine s_lt (t_len SltT_ok Try.underlying110 (.own 1)) ?_
         refine sp (pB b 0) ?_
         refine sp (pB b 0) ?_
         refine sp (pB b 2) ?_
         refine s_lt (t_load 0 (.int .i64 (cnt S : Int))) ?_
         refine s_lt (t_sub (S.length : Int) (cnt S : Int) (by (try simp only [lnm]); omega)) ?_
         refine sp (pB b 0) ?_
         refine sp (pB b 0) ?_
         refine sp (pB b 2) ?_
         refine s_lt (t_load 0 (.int .i64 (cnt S : Int))) ?_
         refine s_lt (t_add (cnt S : Int) 8 (by (try simp only [lnm]); omega)) ?_
         refine s_lt t_cmp ?_
         refine s_nil ?_
         refine x_dynS (fun _ h => by obtain ⟨_, _, e⟩ := hf73; subst e; kernel_rfl) ?_
         refine xs_then ?_
         refine k_cond (decide (((cnt S : Int) + 8) < ((S.length : Int) - (cnt S : Int)))) (fun c74 => ?_) (fun c74 => ?_)
         ·
          have p75 := of_decide_eq_true c74
          refine k_reg ?_
          refine sp (pB b 0) ?_
          refine s_mem (fun _ h => om_shut (S := S) (n := (cnt S : Int)) ⟨⟨hinv18, hag19⟩, rfl⟩ (h.re [0, 0, 0] [])) ?_
          refine s_call [0] (omdrop_s (S := S) (by omega)) ?_
          rintro _ _ ⟨rfl, rfl⟩
          have hll76 := cnt_le S
          have hll77 := cnt_live S
          have hll78 : (live S).length = cnt S := rfl
          refine s_nt ?_
          refine k_seq ?_
          refine k_draw ?_
          refine sp (pB b 0) ?_
          refine sp (pB b 0) ?_
          refine sp (pB b 1) ?_
          refine s_mem3 (fun H h => om_open (h.re [0] [])) (fun sv79 mb80 m81 hw => ?_)
          obtain ⟨hinv82, hag83⟩ := hw
          refine s_lt (t_load 0 (.map (some mb80))) ?_
          refine s_lt (t_loadA 4 #[.int .i64 k.kind, .int .i64 k.p, .int .i64 k.q, .string k.str, .int .i64 k.ref]) ?_
          refine sp (pB b 0) ?_
          refine sp (pB b 0) ?_
          refine sp (pB b 0) ?_
          refine s_lt (t_load 0 sv79) ?_
          refine s_fact (fun H h => ((Acc.own (T := SltT) (L := (live S)) 1 rfl) H h).form) (fun hf84 => ?_)
          refine s_lt (t_len SltT_ok Try.underlying110 (.own 1)) ?_
          refine s_update 2 vK_ok Try.underlying109 k ((live S).length) ?_
          refine s_nil ?_
          refine x_dynS (fun _ h => by obtain ⟨_, _, e⟩ := hf84; subst e; kernel_rfl) ?_
          refine xs_then ?_
          refine k_seq ?_
          refine k_draw ?_
          refine sp (pB b 0) ?_
          refine sp (pB b 0) ?_
          refine sp (pB b 0) ?_
          refine sp (pB b 0) ?_
          refine s_lt (t_load 0 sv79) ?_
          refine s_lt (t_loadA 4 #[.int .i64 k.kind, .int .i64 k.p, .int .i64 k.q, .string k.str, .int .i64 k.ref]) ?_
          refine s_lt (t_loadA 3 #[.int .i64 v.kind, .int .i64 v.p, .int .i64 v.q, .string v.str, .int .i64 v.ref]) ?_
          refine s_lt (t_kern (.agg #[.int .i64 k.kind, .int .i64 k.p, .int .i64 k.q, .string k.str, .int .i64 k.ref, .int .i64 v.kind, .int .i64 v.p, .int .i64 v.q, .string v.str, .int .i64 v.ref, .bool false])) ?_
          refine s_buildSlice (e := 115) [(0, .agg #[.int .i64 k.kind, .int .i64 k.p, .int .i64 k.q, .string k.str, .int .i64 k.ref, .int .i64 v.kind, .int .i64 v.p, .int .i64 v.q, .string v.str, .int .i64 v.ref, .bool false])] #[.int .i64 k.kind, .int .i64 k.p, .int .i64 k.q, .string k.str, .int .i64 k.ref, .int .i64 v.kind, .int .i64 v.p, .int .i64 v.q, .string v.str, .int .i64 v.ref, .bool false] (fun g85 => ?_) (hb := by kernel_rfl)
          refine s_append (L := (live S)) 2 SltT_ok Try.underlying110 (.lit 0 SltT_ok [(⟨k, v, false⟩ : Slt)]) (by show _ * 104 ≤ _; (try simp only [lnm]); omega) (by (try simp only [lnm]); omega) (fun v86 => ?_)
          refine sp (pB b 0) ?_
          refine sp (pB b 0) ?_
          refine s_fact (fun H h => ((Acc.own (T := SltT) (L := ((live S) ++ [(⟨k, v, false⟩ : Slt)])) 2 rfl) H h).form) (fun hf87 => ?_)
          refine s_store (u := v86) (m := 1) 1 #[v86, .map (some mb80), .int .i64 (cnt (live S) : Int)] ?_ (hm := by (obtain ⟨_, _, e⟩ := hf87; rw [e]; rfl)) (h1 := by (obtain ⟨_, _, e⟩ := hf87; rw [e]; rfl)) (ha' := by (obtain ⟨_, _, e⟩ := hf87; rw [e]; rfl))
          refine s_nil ?_
          refine x_dynS (fun _ h => by kernel_rfl) ?_
          refine xs_then ?_
          refine k_reg ?_
          refine sp (pB b 0) ?_
          refine sp (pB b 0) ?_
          refine sp (pB b 2) ?_
          refine s_lt (t_load 1 (.int .i64 (cnt (live S) : Int))) ?_
          refine s_lt (t_add (cnt (live S) : Int) 1 (by (try simp only [lnm]); omega)) ?_
          refine sp (pB b 0) ?_
          refine sp (pB b 2) ?_
          refine s_store 1 #[v86, .map (some mb80), .int .i64 ((cnt (live S) : Int) + 1)] ?_
          refine s_nil ?_
          refine xs_block ?_
          refine xs_then ?_
          refine k_sr ?_
          refine sp (.int .i64 0) ?_
          refine s_nt ?_
          refine k_ret ?_
          have hk := okKey_good c8 c11
          have hcl := cnt_le S
          have hS : osetL S k v = ((live S) ++ [(⟨k, v, false⟩ : Slt)]) := by rw [osetL_put hk c14 (of_decide_eq_false c67), ht31, if_pos c72]; show (if _ then _ else _) ++ _ = _; rw [if_pos (by have hx := of_decide_eq_true c74; omega)]
          have hinv1 : OInv ((live S) ++ [(⟨k, v, false⟩ : Slt)]) := by rw [← hS]; exact osetL_inv hinv0 k v
          refine xs_mem (fun _ h => om_shut (S := ((live S) ++ [(⟨k, v, false⟩ : Slt)])) (n := ((cnt (live S) : Int) + 1)) ⟨⟨hinv1, agr_snoc hag83 k v⟩, by rw [cnt_snoc]; try rfl⟩ (h.re [1, 1, 1] [])) ?_
          refine xs_fin [.int .i64 0] (omA b ((live S) ++ [(⟨k, v, false⟩ : Slt)]) :: F) (SI.tmp 6 SI.nil) (fun _ h => h.re [0] [1, 1, 1]) ⟨congrArg (Value.int .i64) (osetE_ok hk c14).symm, ?_⟩
          rw [hS]
         ·
          have p88 := of_decide_eq_false c74
          refine k_st ?_
          refine k_seq ?_
          refine k_draw ?_
          refine sp (pB b 0) ?_
          refine sp (pB b 0) ?_
          refine sp (pB b 1) ?_
          refine s_lt (t_load 0 (.map (some mb16))) ?_
          refine s_lt (t_loadA 4 #[.int .i64 k.kind, .int .i64 k.p, .int .i64 k.q, .string k.str, .int .i64 k.ref]) ?_
          refine sp (pB b 0) ?_
          refine sp (pB b 0) ?_
          refine sp (pB b 0) ?_
          refine s_lt (t_load 0 sv15) ?_
          refine s_lt (t_len SltT_ok Try.underlying110 (.own 1)) ?_
          refine s_update 2 vK_ok Try.underlying109 k S.length ?_
          refine s_nil ?_
          refine x_dynS (fun _ h => by obtain ⟨_, _, e⟩ := hf73; subst e; kernel_rfl) ?_
          refine xs_then ?_
          refine k_seq ?_
          refine k_draw ?_
          refine sp (pB b 0) ?_
          refine sp (pB b 0) ?_
          refine sp (pB b 0) ?_
          refine sp (pB b 0) ?_
          refine s_lt (t_load 0 sv15) ?_
          refine s_lt (t_loadA 4 #[.int .i64 k.kind, .int .i64 k.p, .int .i64 k.q, .string k.str, .int .i64 k.ref]) ?_
          refine s_lt (t_loadA 3 #[.int .i64 v.kind, .int .i64 v.p, .int .i64 v.q, .string v.str, .int .i64 v.ref]) ?_
          refine s_lt (t_kern (.agg #[.int .i64 k.kind, .int .i64 k.p, .int .i64 k.q, .string k.str, .int .i64 k.ref, .int .i64 v.kind, .int .i64 v.p, .int .i64 v.q, .string v.str, .int .i64 v.ref, .bool false])) ?_
          refine s_buildSlice (e := 115) [(0, .agg #[.int .i64 k.kind, .int .i64 k.p, .int .i64 k.q, .string k.str, .int .i64 k.ref, .int .i64 v.kind, .int .i64 v.p, .int .i64 v.q, .string v.str, .int .i64 v.ref, .bool false])] #[.int .i64 k.kind, .int .i64 k.p, .int .i64 k.q, .string k.str, .int .i64 k.ref, .int .i64 v.kind, .int .i64 v.p, .int .i64 v.q, .string v.str, .int .i64 v.ref, .bool false] (fun g89 => ?_) (hb := by kernel_rfl)
          refine s_append (L := S) 2 SltT_ok Try.underlying110 (.lit 0 SltT_ok [(⟨k, v, false⟩ : Slt)]) (by show _ * 104 ≤ _; (try simp only [lnm]); omega) (by (try simp only [lnm]); omega) (fun v90 => ?_)
          refine sp (pB b 0) ?_
          refine sp (pB b 0) ?_
          refine s_fact (fun H h => ((Acc.own (T := SltT) (L := (S ++ [(⟨k, v, false⟩ : Slt)])) 2 rfl) H h).form) (fun hf91 => ?_)
          refine s_store (u := v90) (m := 1) 1 #[v90, .map (some mb16), .int .i64 (cnt S : Int)] ?_ (hm := by (obtain ⟨_, _, e⟩ := hf91; rw [e]; rfl)) (h1 := by (obtain ⟨_, _, e⟩ := hf91; rw [e]; rfl)) (ha' := by (obtain ⟨_, _, e⟩ := hf91; rw [e]; rfl))
          refine s_nil ?_
          refine x_dynS (fun _ h => by kernel_rfl) ?_
          refine xs_then ?_
          refine k_reg ?_
          refine sp (pB b 0) ?_
          refine sp (pB b 0) ?_
          refine sp (pB b 2) ?_
          refine s_lt (t_load 1 (.int .i64 (cnt S : Int))) ?_
          refine s_lt (t_add (cnt S : Int) 1 (by (try simp only [lnm]); omega)) ?_
          refine sp (pB b 0) ?_
          refine sp (pB b 2) ?_
          refine s_store 1 #[v90, .map (some mb16), .int .i64 ((cnt S : Int) + 1)] ?_
          refine s_nil ?_
          refine xs_block ?_
          refine xs_then ?_
          refine k_sr ?_
          refine sp (.int .i64 0) ?_
          refine s_nt ?_
          refine k_ret ?_
          have hk := okKey_good c8 c11
          have hcl := cnt_le S
          have hS : osetL S k v = (S ++ [(⟨k, v, false⟩ : Slt)]) := by rw [osetL_put hk c14 (of_decide_eq_false c67), ht31, if_pos c72]; show (if _ then _ else _) ++ _ = _; rw [if_neg (by have hx := of_decide_eq_false c74; omega)]
          have hinv1 : OInv (S ++ [(⟨k, v, false⟩ : Slt)]) := by rw [← hS]; exact osetL_inv hinv0 k v
          refine xs_mem (fun _ h => om_shut (S := (S ++ [(⟨k, v, false⟩ : Slt)])) (n := ((cnt S : Int) + 1)) ⟨⟨hinv1, agr_snoc hag19 k v⟩, by rw [cnt_snoc]; try rfl⟩ (h.re [1, 1, 1] [])) ?_
          refine xs_fin [.int .i64 0] (omA b (S ++ [(⟨k, v, false⟩ : Slt)]) :: F) (SI.tmp 6 SI.nil) (fun _ h => h.re [0] [1, 1, 1]) ⟨congrArg (Value.int .i64) (osetE_ok hk c14).symm, ?_⟩
          rw [hS]
theorem omnext_s {Z : Zone} {F : List Asr} {b : Nat} {S : List Slt} (hs : S.length ≤ 1000000) (k : Vl) : SF Try.prog 50 #[.pointer (some ⟨b, 0, none⟩), k.v] Z (omA b S :: F) fun r Bs => r = nextV (onext S k) ∧ Bs = omA b S :: F := by
 refine sf_enter Try.func50 56 [(0, pB b 0), (1, .agg #[.int .i64 k.kind, .int .i64 k.p, .int .i64 k.q, .string k.str, .int .i64 k.ref])] (fun w0 => ?_)
 refine k_sr ?_
 refine s_box #[.int .i64 k.kind, .int .i64 k.p, .int .i64 k.q, .string k.str, .int .i64 k.ref] (fun g1 => ?_)
 refine s_alloc (.agg #[.int .i64 0, .int .i64 0, .int .i64 0, .string ByteArray.empty, .int .i64 0]) #[.int .i64 0, .int .i64 0, .int .i64 0, .string ByteArray.empty, .int .i64 0] (fun g2 => ?_)
 refine s_alloc (.agg #[.int .i64 0, .int .i64 0, .int .i64 0, .string ByteArray.empty, .int .i64 0]) #[.int .i64 0, .int .i64 0, .int .i64 0, .string ByteArray.empty, .int .i64 0] (fun g3 => ?_)
 refine sp (.bool false) ?_
 refine sp (.int .i64 0) ?_
 refine s_nt ?_
 refine k_seq ?_
 refine k_sr ?_
 refine sp (pB b 0) ?_
 refine sp (.bool false) ?_
 refine s_nt ?_
 refine k_false ?_
 refine k_st ?_
 refine k_sr ?_
 refine sp (.int .i64 0) ?_
 refine s_nt ?_
 refine k_seq ?_
 refine k_sr ?_
 refine s_lt (t_loadA 2 #[.int .i64 k.kind, .int .i64 k.p, .int .i64 k.q, .string k.str, .int .i64 k.ref]) ?_
 refine s_lt (t_kern (.agg #[.int .i64 0, .int .i64 0, .int .i64 0, .string ByteArray.empty, .int .i64 0])) ?_
 refine s_lt (t_eqS (fun w => (eqVlT k zVl w).2)) ?_
 refine s_nt ?_
 refine k_cond (!(decide (k = zVl))) (fun c4 => ?_) (fun c4 => ?_)
 ·
  have c5 := not_t c4
  have p6 := of_decide_eq_false c5
  refine k_seq ?_
  refine k_draw ?_
  refine sp (pB b 0) ?_
  refine sp (pB b 0) ?_
  refine sp (pB b 1) ?_
  refine s_mem3 (fun H h => om_open (h.re [3] [])) (fun sv7 mb8 m9 hw => ?_)
  obtain ⟨hinv10, hag11⟩ := hw
  refine s_lt (t_load 0 (.map (some mb8))) ?_
  refine s_lt (t_loadA 5 #[.int .i64 k.kind, .int .i64 k.p, .int .i64 k.q, .string k.str, .int .i64 k.ref]) ?_
  rcases last_cases hag11 hinv10 k with ⟨hl12, hm13, ht14, hg15⟩ | ⟨i16, s17, hl18, hm19, hs20, hk21, hg22, ht23⟩
  ·
   refine s_lt (Lt.to (v' := .tuple #[.int .i64 0, .bool false]) (t_lookupOk 2 vK_ok Try.underlying109 (.int .i64 0) k) (by rw [hm13]; rfl)) ?_
   refine sp (.tuple #[.int .i64 0, .bool false]) ?_
   refine sp (.int .i64 0) ?_
   refine sp (.bool false) ?_
   refine sp (.int .i64 0) ?_
   refine sp (.bool false) ?_
   refine s_nil ?_
   refine x_dynS (fun _ h => by kernel_rfl) ?_
   refine xs_then ?_
   refine k_seq ?_
   refine k_sr ?_
   refine sp (.bool false) ?_
   refine sp (.bool true) ?_
   refine s_nt ?_
   refine k_true ?_
   refine k_sr ?_
   refine s_lt (t_kern (.agg #[.int .i64 0, .int .i64 0, .int .i64 0, .string ByteArray.empty, .int .i64 0])) ?_
   refine s_lt (t_kern (.agg #[.int .i64 0, .int .i64 0, .int .i64 0, .string ByteArray.empty, .int .i64 0])) ?_
   refine s_store 4 #[.int .i64 0, .int .i64 0, .int .i64 0, .string ByteArray.empty, .int .i64 0] ?_
   refine s_store 3 #[.int .i64 0, .int .i64 0, .int .i64 0, .string ByteArray.empty, .int .i64 0] ?_
   refine sp (.bool false) ?_
   refine sp (.int .i64 13) ?_
   refine s_nt ?_
   refine k_ret ?_
   refine xs_ret ?_
   refine xs_ret ?_
   refine xs_mem (fun _ h => om_shut (S := S) (n := (cnt S : Int)) ⟨⟨hinv10, hag11⟩, rfl⟩ (h.re [0, 0, 0] [])) ?_
   have hp : onext S k = (zVl, zVl, false, 13) := (onext_none (of_decide_eq_false c5) hl12)
   refine xs_fin [.agg #[.int .i64 0, .int .i64 0, .int .i64 0, .string ByteArray.empty, .int .i64 0], .agg #[.int .i64 0, .int .i64 0, .int .i64 0, .string ByteArray.empty, .int .i64 0], .bool false, .int .i64 13] (omA b S :: F) (SI.agg 4 26 2 (SI.agg 5 26 1 (SI.tmp 6 (SI.tmp 7 SI.nil)))) (fun _ h => h.re [0] [1, 1, 1]) ⟨?_, rfl⟩
   rw [hp]; rfl
  ·
   have hlt24 : i16 < S.length := (List.getElem?_eq_some_iff.1 hs20).1
   refine s_lt (Lt.to (v' := .tuple #[.int .i64 (i16 : Int), .bool true]) (t_lookupOk 2 vK_ok Try.underlying109 (.int .i64 0) k) (by rw [hm19]; rfl)) ?_
   refine sp (.tuple #[.int .i64 (i16 : Int), .bool true]) ?_
   refine sp (.int .i64 (i16 : Int)) ?_
   refine sp (.bool true) ?_
   refine sp (.int .i64 (i16 : Int)) ?_
   refine sp (.bool true) ?_
   refine s_nil ?_
   refine x_dynS (fun _ h => by kernel_rfl) ?_
   refine xs_then ?_
   refine k_seq ?_
   refine k_sr ?_
   refine sp (.bool true) ?_
   refine sp (.bool false) ?_
   refine s_nt ?_
   refine k_false ?_
   refine k_st ?_
   refine k_reg ?_
   refine sp (.int .i64 (i16 : Int)) ?_
   refine s_lt (t_add (i16 : Int) 1 (by (try simp only [lnm]); omega)) ?_
   refine sp (.int .i64 ((i16 : Int) + 1)) ?_
   refine s_nt ?_
   refine k_seq ?_
   refine k_sr ?_
   refine sp (pB b 0) ?_
   refine sp (pB b 0) ?_
   refine sp (pB b 0) ?_
   refine s_lt (t_load 0 sv7) ?_
   refine sp (.int .i64 ((i16 : Int) + 1)) ?_
   refine s_lt (t_suf SltT_ok Try.underlying110 (.own 1) ((i16 : Int) + 1) (i16 + 1) (by omega) (by (try simp only [lnm]); omega) (by omega)) ?_
   refine s_lt (t_len SltT_ok Try.underlying110 (Acc.suf (.own 1) SltT_ok (i16 + 1) (by (try simp only [lnm]); omega))) ?_
   refine sp (.int .i64 0) ?_
   refine s_nt ?_
   refine k_block ?_
   have hdl : (S.drop (i16 + 1)).length = S.length - (i16 + 1) := List.length_drop
   refine k_loop (ι := Nat) (fun j => j ≤ (S.drop (i16 + 1)).length ∧ live ((S.drop (i16 + 1)).take j) = []) (fun j => [(4, pB g2 0), (5, pB g3 0), (40, (suf SltT.size sv7 (i16 + 1))), (41, .int .i64 ((S.drop (i16 + 1)).length : Int)), (42, .int .i64 (j : Int))]) (fun j => blkA b #[sv7, .map (some mb8), .int .i64 (cnt S : Int)] 112 :: own SltT sv7 S :: mpA vK nV mb8 m9 :: blkA g3 #[.int .i64 0, .int .i64 0, .int .i64 0, .string ByteArray.empty, .int .i64 0] 26 :: blkA g2 #[.int .i64 0, .int .i64 0, .int .i64 0, .string ByteArray.empty, .int .i64 0] 26 :: blkA g1 #[.int .i64 k.kind, .int .i64 k.p, .int .i64 k.q, .string k.str, .int .i64 k.ref] 26 :: F) (fun j => (S.drop (i16 + 1)).length - j) 0 ⟨Nat.zero_le _, rfl⟩ (sub_of rfl ⟨⟨rfl, rfl⟩, ⟨⟨rfl, rfl⟩, ⟨⟨rfl, rfl⟩, ⟨⟨rfl, rfl⟩, ⟨⟨rfl, rfl⟩, trivial⟩⟩⟩⟩⟩) (fun _ h => h.re [0, 0, 0, 0, 0, 0] []) ?_
   rintro j hi25
   show SK _ _ _ _ _ [(4, .pointer (some ⟨g2, 0, none⟩)), (5, .pointer (some ⟨g3, 0, none⟩)), (40, (suf SltT.size sv7 (i16 + 1))), (41, .int .i64 ((S.drop (i16 + 1)).length : Int)), (42, .int .i64 (j : Int))] _ (blkA b #[sv7, .map (some mb8), .int .i64 (cnt S : Int)] 112 :: own SltT sv7 S :: mpA vK nV mb8 m9 :: blkA g3 #[.int .i64 0, .int .i64 0, .int .i64 0, .string ByteArray.empty, .int .i64 0] 26 :: blkA g2 #[.int .i64 0, .int .i64 0, .int .i64 0, .string ByteArray.empty, .int .i64 0] 26 :: blkA g1 #[.int .i64 k.kind, .int .i64 k.p, .int .i64 k.q, .string k.str, .int .i64 k.ref] 26 :: F)
   refine k_sr ?_
   refine s_lt t_cmp ?_
   refine s_nt ?_
   refine k_seq ?_
   refine k_cond (decide ((j : Int) < ((S.drop (i16 + 1)).length : Int))) (fun c26 => ?_) (fun c26 => ?_)
   ·
    have p27 := of_decide_eq_true c26
    refine k_st ?_
    refine k_seq ?_
    refine k_block ?_
    refine k_sr ?_
    refine s_lt (t_index SltT_ok Try.underlying110 (Acc.suf (.own 1) SltT_ok (i16 + 1) (by (try simp only [lnm]); omega)) (j : Int) j (by omega) (by (try simp only [lnm]); omega) (by omega)) ?_
    obtain ⟨y28, hy29⟩ : ∃ y, (S.drop (i16 + 1))[j]? = some y := ⟨_, List.getElem?_eq_getElem (by (try simp only [lnm]); omega)⟩
    refine s_lt (t_loadE SltT_ok (Acc.suf (.own 1) SltT_ok (i16 + 1) (by (try simp only [lnm]); omega)) hy29) ?_
    refine s_alloc (.agg #[.int .i64 0, .int .i64 0, .int .i64 0, .string ByteArray.empty, .int .i64 0, .int .i64 0, .int .i64 0, .int .i64 0, .string ByteArray.empty, .int .i64 0, .bool false]) #[.int .i64 0, .int .i64 0, .int .i64 0, .string ByteArray.empty, .int .i64 0, .int .i64 0, .int .i64 0, .int .i64 0, .string ByteArray.empty, .int .i64 0, .bool false] (fun g30 => ?_)
    refine s_store 0 #[.int .i64 y28.key.kind, .int .i64 y28.key.p, .int .i64 y28.key.q, .string y28.key.str, .int .i64 y28.key.ref, .int .i64 y28.val.kind, .int .i64 y28.val.p, .int .i64 y28.val.q, .string y28.val.str, .int .i64 y28.val.ref, .bool y28.gone] ?_
    refine s_nr ?_
    refine sp (pB g30 10) ?_
    refine s_lt (t_load 0 (.bool y28.gone)) ?_
    refine sp (.bool (!y28.gone)) ?_
    refine s_nt ?_
    refine k_cond (!y28.gone) (fun c31 => ?_) (fun c31 => ?_)
    ·
     have c32 := not_t c31
     refine k_seq ?_
     refine k_held [blkA g30 #[.int .i64 y28.key.kind, .int .i64 y28.key.p, .int .i64 y28.key.q, .string y28.key.str, .int .i64 y28.key.ref, .int .i64 y28.val.kind, .int .i64 y28.val.p, .int .i64 y28.val.q, .string y28.val.str, .int .i64 y28.val.ref, .bool y28.gone] 115, blkA b #[sv7, .map (some mb8), .int .i64 (cnt S : Int)] 112, own SltT sv7 S, mpA vK nV mb8 m9, blkA g1 #[.int .i64 k.kind, .int .i64 k.p, .int .i64 k.q, .string k.str, .int .i64 k.ref] 26] ?_
     refine hp_ 0 [0, 0, 0, 0, 2] (pB g30 0) ?_
     refine h_l 1 rfl [0, 0, 0, 0, 2] (fun _ => (t_loadA 0 #[.int .i64 y28.key.kind, .int .i64 y28.key.p, .int .i64 y28.key.q, .string y28.key.str, .int .i64 y28.key.ref])) ?_
     refine hp_ 2 [0, 0, 0, 0, 2] (pB g30 5) ?_
     refine h_l 3 rfl [0, 0, 0, 0, 2] (fun _ => (t_loadA 0 #[.int .i64 y28.val.kind, .int .i64 y28.val.p, .int .i64 y28.val.q, .string y28.val.str, .int .i64 y28.val.ref])) ?_
     refine h_stepS 4 ?_
     refine s_store 5 #[.int .i64 y28.key.kind, .int .i64 y28.key.p, .int .i64 y28.key.q, .string y28.key.str, .int .i64 y28.key.ref] ?_
     refine s_nil (xs_held [0, 0, 0, 0, 2] ?_)
     refine h_stepS 5 ?_
     refine s_store 4 #[.int .i64 y28.val.kind, .int .i64 y28.val.p, .int .i64 y28.val.q, .string y28.val.str, .int .i64 y28.val.ref] ?_
     refine s_nil (xs_held [0, 0, 0, 0, 2] ?_)
     refine hp_ 6 [0, 0, 0, 0, 2] (.bool true) ?_
     refine hp_ 7 [0, 0, 0, 0, 2] (.int .i64 0) ?_
     refine h_doneS ?_
     refine xs_then ?_
     refine k_ret ?_
     refine xs_retBlock ?_
     refine xs_ret ?_
     refine xs_ret ?_
     refine xs_retBlock ?_
     refine xs_ret ?_
     refine xs_mem (fun _ h => om_shut (S := S) (n := (cnt S : Int)) ⟨⟨hinv10, hag11⟩, rfl⟩ (h.re [1, 1, 1] [])) ?_
     have hr := next_found (a := (i16 + 1)) hi25.2 hy29 c32
     have hp : onext S k = (y28.key, y28.val, true, 0) := by rw [(onext_some (of_decide_eq_false c5) hl18)]; first | (rw [hr]; done) | (have hr0 : slotV (live S).head? = _ := hr; rw [hr0])
     refine xs_fin [.agg #[.int .i64 y28.key.kind, .int .i64 y28.key.p, .int .i64 y28.key.q, .string y28.key.str, .int .i64 y28.key.ref], .agg #[.int .i64 y28.val.kind, .int .i64 y28.val.p, .int .i64 y28.val.q, .string y28.val.str, .int .i64 y28.val.ref], .bool true, .int .i64 0] (omA b S :: F) (SI.agg 4 26 3 (SI.agg 5 26 2 (SI.tmp 6 (SI.tmp 7 SI.nil)))) (fun _ h => h.re [0] [1, 1, 1, 1]) ⟨?_, rfl⟩
     rw [hp]; rfl
    ·
     have c33 := not_f c31
     refine k_skip ?_
     refine xs_block ?_
     refine xs_then ?_
     refine k_reg ?_
     refine s_lt (t_add (j : Int) 1 (by (try simp only [lnm]); omega)) ?_
     refine sp (.int .i64 ((j : Int) + 1)) ?_
     refine s_nil ?_
     exact xs_round (j + 1) (by omega) ⟨by omega, live_gone_step hi25.2 hy29 c33⟩ (sub_of rfl ⟨⟨rfl, rfl⟩, ⟨⟨rfl, rfl⟩, ⟨⟨rfl, rfl⟩, ⟨⟨rfl, rfl⟩, ⟨⟨rfl, rfl⟩, trivial⟩⟩⟩⟩⟩) (fun _ h => h.re [1, 1, 1, 1, 1, 1] [6])
   ·
    have p34 := of_decide_eq_false c26
    refine k_exit ?_
    refine xs_exit ?_
    refine xs_exit ?_
    refine xs_here ?_
    refine xs_then ?_
    refine k_sr ?_
    refine s_lt (t_kern (.agg #[.int .i64 0, .int .i64 0, .int .i64 0, .string ByteArray.empty, .int .i64 0])) ?_
    refine s_lt (t_kern (.agg #[.int .i64 0, .int .i64 0, .int .i64 0, .string ByteArray.empty, .int .i64 0])) ?_
    refine s_store 4 #[.int .i64 0, .int .i64 0, .int .i64 0, .string ByteArray.empty, .int .i64 0] ?_
    refine s_store 3 #[.int .i64 0, .int .i64 0, .int .i64 0, .string ByteArray.empty, .int .i64 0] ?_
    refine sp (.bool false) ?_
    refine sp (.int .i64 0) ?_
    refine s_nt ?_
    refine k_ret ?_
    refine xs_mem (fun _ h => om_shut (S := S) (n := (cnt S : Int)) ⟨⟨hinv10, hag11⟩, rfl⟩ (h.re [0, 0, 0] [])) ?_
    have hr := next_end (a := (i16 + 1)) hi25.2 (by (try simp only [lnm]); omega)
    have hp : onext S k = (zVl, zVl, false, 0) := by rw [(onext_some (of_decide_eq_false c5) hl18)]; first | (rw [hr]; done) | (have hr0 : slotV (live S).head? = _ := hr; rw [hr0])
    refine xs_fin [.agg #[.int .i64 0, .int .i64 0, .int .i64 0, .string ByteArray.empty, .int .i64 0], .agg #[.int .i64 0, .int .i64 0, .int .i64 0, .string ByteArray.empty, .int .i64 0], .bool false, .int .i64 0] (omA b S :: F) (SI.agg 4 26 2 (SI.agg 5 26 1 (SI.tmp 6 (SI.tmp 7 SI.nil)))) (fun _ h => h.re [0] [1, 1, 1]) ⟨?_, rfl⟩
    rw [hp]; rfl
 ·
  have c35 := not_f c4
  have p36 := of_decide_eq_true c35
  refine k_st ?_
  refine k_seq ?_
  refine k_sr ?_
  refine sp (pB b 0) ?_
  refine sp (pB b 0) ?_
  refine sp (pB b 0) ?_
  refine s_mem3 (fun H h => om_open (h.re [3] [])) (fun sv37 mb38 m39 hw => ?_)
  obtain ⟨hinv40, hag41⟩ := hw
  refine s_lt (t_load 0 sv37) ?_
  refine sp (.int .i64 0) ?_
  refine s_lt (t_suf SltT_ok Try.underlying110 (.own 1) 0 0 (by omega) (by (try simp only [lnm]); omega) (by omega)) ?_
  refine s_lt (t_len SltT_ok Try.underlying110 (Acc.suf (.own 1) SltT_ok 0 (by (try simp only [lnm]); omega))) ?_
  refine sp (.int .i64 0) ?_
  refine s_nt ?_
  refine k_block ?_
  have hdl : (S.drop 0).length = S.length - 0 := List.length_drop
  refine k_loop (ι := Nat) (fun j => j ≤ (S.drop 0).length ∧ live ((S.drop 0).take j) = []) (fun j => [(4, pB g2 0), (5, pB g3 0), (40, (suf SltT.size sv37 0)), (41, .int .i64 ((S.drop 0).length : Int)), (42, .int .i64 (j : Int))]) (fun j => blkA b #[sv37, .map (some mb38), .int .i64 (cnt S : Int)] 112 :: own SltT sv37 S :: mpA vK nV mb38 m39 :: blkA g3 #[.int .i64 0, .int .i64 0, .int .i64 0, .string ByteArray.empty, .int .i64 0] 26 :: blkA g2 #[.int .i64 0, .int .i64 0, .int .i64 0, .string ByteArray.empty, .int .i64 0] 26 :: blkA g1 #[.int .i64 k.kind, .int .i64 k.p, .int .i64 k.q, .string k.str, .int .i64 k.ref] 26 :: F) (fun j => (S.drop 0).length - j) 0 ⟨Nat.zero_le _, rfl⟩ (sub_of rfl ⟨⟨rfl, rfl⟩, ⟨⟨rfl, rfl⟩, ⟨⟨rfl, rfl⟩, ⟨⟨rfl, rfl⟩, ⟨⟨rfl, rfl⟩, trivial⟩⟩⟩⟩⟩) (fun _ h => h.re [0, 0, 0, 0, 0, 0] []) ?_
  rintro j hi42
  show SK _ _ _ _ _ [(4, .pointer (some ⟨g2, 0, none⟩)), (5, .pointer (some ⟨g3, 0, none⟩)), (40, (suf SltT.size sv37 0)), (41, .int .i64 ((S.drop 0).length : Int)), (42, .int .i64 (j : Int))] _ (blkA b #[sv37, .map (some mb38), .int .i64 (cnt S : Int)] 112 :: own SltT sv37 S :: mpA vK nV mb38 m39 :: blkA g3 #[.int .i64 0, .int .i64 0, .int .i64 0, .string ByteArray.empty, .int .i64 0] 26 :: blkA g2 #[.int .i64 0, .int .i64 0, .int .i64 0, .string ByteArray.empty, .int .i64 0] 26 :: blkA g1 #[.int .i64 k.kind, .int .i64 k.p, .int .i64 k.q, .string k.str, .int .i64 k.ref] 26 :: F)
  refine k_sr ?_
  refine s_lt t_cmp ?_
  refine s_nt ?_
  refine k_seq ?_
  refine k_cond (decide ((j : Int) < ((S.drop 0).length : Int))) (fun c43 => ?_) (fun c43 => ?_)
  ·
   have p44 := of_decide_eq_true c43
   refine k_st ?_
   refine k_seq ?_
   refine k_block ?_
   refine k_sr ?_
   refine s_lt (t_index SltT_ok Try.underlying110 (Acc.suf (.own 1) SltT_ok 0 (by (try simp only [lnm]); omega)) (j : Int) j (by omega) (by (try simp only [lnm]); omega) (by omega)) ?_
   obtain ⟨y45, hy46⟩ : ∃ y, (S.drop 0)[j]? = some y := ⟨_, List.getElem?_eq_getElem (by (try simp only [lnm]); omega)⟩
   refine s_lt (t_loadE SltT_ok (Acc.suf (.own 1) SltT_ok 0 (by (try simp only [lnm]); omega)) hy46) ?_
   refine s_alloc (.agg #[.int .i64 0, .int .i64 0, .int .i64 0, .string ByteArray.empty, .int .i64 0, .int .i64 0, .int .i64 0, .int .i64 0, .string ByteArray.empty, .int .i64 0, .bool false]) #[.int .i64 0, .int .i64 0, .int .i64 0, .string ByteArray.empty, .int .i64 0, .int .i64 0, .int .i64 0, .int .i64 0, .string ByteArray.empty, .int .i64 0, .bool false] (fun g47 => ?_)
   refine s_store 0 #[.int .i64 y45.key.kind, .int .i64 y45.key.p, .int .i64 y45.key.q, .string y45.key.str, .int .i64 y45.key.ref, .int .i64 y45.val.kind, .int .i64 y45.val.p, .int .i64 y45.val.q, .string y45.val.str, .int .i64 y45.val.ref, .bool y45.gone] ?_
   refine s_nr ?_
   refine sp (pB g47 10) ?_
   refine s_lt (t_load 0 (.bool y45.gone)) ?_
   refine sp (.bool (!y45.gone)) ?_
   refine s_nt ?_
   refine k_cond (!y45.gone) (fun c48 => ?_) (fun c48 => ?_)
   ·
    have c49 := not_t c48
    refine k_seq ?_
    refine k_held [blkA g47 #[.int .i64 y45.key.kind, .int .i64 y45.key.p, .int .i64 y45.key.q, .string y45.key.str, .int .i64 y45.key.ref, .int .i64 y45.val.kind, .int .i64 y45.val.p, .int .i64 y45.val.q, .string y45.val.str, .int .i64 y45.val.ref, .bool y45.gone] 115, blkA b #[sv37, .map (some mb38), .int .i64 (cnt S : Int)] 112, own SltT sv37 S, mpA vK nV mb38 m39, blkA g1 #[.int .i64 k.kind, .int .i64 k.p, .int .i64 k.q, .string k.str, .int .i64 k.ref] 26] ?_
    refine hp_ 0 [0, 0, 0, 0, 2] (pB g47 0) ?_
    refine h_l 1 rfl [0, 0, 0, 0, 2] (fun _ => (t_loadA 0 #[.int .i64 y45.key.kind, .int .i64 y45.key.p, .int .i64 y45.key.q, .string y45.key.str, .int .i64 y45.key.ref])) ?_
    refine hp_ 2 [0, 0, 0, 0, 2] (pB g47 5) ?_
    refine h_l 3 rfl [0, 0, 0, 0, 2] (fun _ => (t_loadA 0 #[.int .i64 y45.val.kind, .int .i64 y45.val.p, .int .i64 y45.val.q, .string y45.val.str, .int .i64 y45.val.ref])) ?_
    refine h_stepS 4 ?_
    refine s_store 5 #[.int .i64 y45.key.kind, .int .i64 y45.key.p, .int .i64 y45.key.q, .string y45.key.str, .int .i64 y45.key.ref] ?_
    refine s_nil (xs_held [0, 0, 0, 0, 2] ?_)
    refine h_stepS 5 ?_
    refine s_store 4 #[.int .i64 y45.val.kind, .int .i64 y45.val.p, .int .i64 y45.val.q, .string y45.val.str, .int .i64 y45.val.ref] ?_
    refine s_nil (xs_held [0, 0, 0, 0, 2] ?_)
    refine hp_ 6 [0, 0, 0, 0, 2] (.bool true) ?_
    refine hp_ 7 [0, 0, 0, 0, 2] (.int .i64 0) ?_
    refine h_doneS ?_
    refine xs_then ?_
    refine k_ret ?_
    refine xs_retBlock ?_
    refine xs_ret ?_
    refine xs_ret ?_
    refine xs_retBlock ?_
    refine xs_ret ?_
    refine xs_mem (fun _ h => om_shut (S := S) (n := (cnt S : Int)) ⟨⟨hinv40, hag41⟩, rfl⟩ (h.re [1, 1, 1] [])) ?_
    have hz : k = zVl := (of_decide_eq_true c35)
    subst hz
    have hr := next_found (a := 0) hi42.2 hy46 c49
    have hp : onext S zVl = (y45.key, y45.val, true, 0) := by rw [(onext_nil S)]; first | (rw [hr]; done) | (have hr0 : slotV (live S).head? = _ := hr; rw [hr0])
    refine xs_fin [.agg #[.int .i64 y45.key.kind, .int .i64 y45.key.p, .int .i64 y45.key.q, .string y45.key.str, .int .i64 y45.key.ref], .agg #[.int .i64 y45.val.kind, .int .i64 y45.val.p, .int .i64 y45.val.q, .string y45.val.str, .int .i64 y45.val.ref], .bool true, .int .i64 0] (omA b S :: F) (SI.agg 4 26 3 (SI.agg 5 26 2 (SI.tmp 6 (SI.tmp 7 SI.nil)))) (fun _ h => h.re [0] [1, 1, 1, 1]) ⟨?_, rfl⟩
    rw [hp]; rfl
   ·
    have c50 := not_f c48
    refine k_skip ?_
    refine xs_block ?_
    refine xs_then ?_
    refine k_reg ?_
    refine s_lt (t_add (j : Int) 1 (by (try simp only [lnm]); omega)) ?_
    refine sp (.int .i64 ((j : Int) + 1)) ?_
    refine s_nil ?_
    exact xs_round (j + 1) (by omega) ⟨by omega, live_gone_step hi42.2 hy46 c50⟩ (sub_of rfl ⟨⟨rfl, rfl⟩, ⟨⟨rfl, rfl⟩, ⟨⟨rfl, rfl⟩, ⟨⟨rfl, rfl⟩, ⟨⟨rfl, rfl⟩, trivial⟩⟩⟩⟩⟩) (fun _ h => h.re [1, 1, 1, 1, 1, 1] [6])
  ·
   have p51 := of_decide_eq_false c43
   refine k_exit ?_
   refine xs_exit ?_
   refine xs_exit ?_
   refine xs_here ?_
   refine xs_then ?_
   refine k_sr ?_
   refine s_lt (t_kern (.agg #[.int .i64 0, .int .i64 0, .int .i64 0, .string ByteArray.empty, .int .i64 0])) ?_
   refine s_lt (t_kern (.agg #[.int .i64 0, .int .i64 0, .int .i64 0, .string ByteArray.empty, .int .i64 0])) ?_
   refine s_store 4 #[.int .i64 0, .int .i64 0, .int .i64 0, .string ByteArray.empty, .int .i64 0] ?_
   refine s_store 3 #[.int .i64 0, .int .i64 0, .int .i64 0, .string ByteArray.empty, .int .i64 0] ?_
   refine sp (.bool false) ?_
   refine sp (.int .i64 0) ?_
   refine s_nt ?_
   refine k_ret ?_
   refine xs_mem (fun _ h => om_shut (S := S) (n := (cnt S : Int)) ⟨⟨hinv40, hag41⟩, rfl⟩ (h.re [0, 0, 0] [])) ?_
   have hz : k = zVl := (of_decide_eq_true c35)
   subst hz
   have hr := next_end (a := 0) hi42.2 (by (try simp only [lnm]); omega)
   have hp : onext S zVl = (zVl, zVl, false, 0) := by rw [(onext_nil S)]; first | (rw [hr]; done) | (have hr0 : slotV (live S).head? = _ := hr; rw [hr0])
   refine xs_fin [.agg #[.int .i64 0, .int .i64 0, .int .i64 0, .string ByteArray.empty, .int .i64 0], .agg #[.int .i64 0, .int .i64 0, .int .i64 0, .string ByteArray.empty, .int .i64 0], .bool false, .int .i64 0] (omA b S :: F) (SI.agg 4 26 2 (SI.agg 5 26 1 (SI.tmp 6 (SI.tmp 7 SI.nil)))) (fun _ h => h.re [0] [1, 1, 1]) ⟨?_, rfl⟩
   rw [hp]; rfl
theorem omslots_s {Z : Zone} {F : List Asr} {b : Nat} {S : List Slt} : SF Try.prog 54 #[.pointer (some ⟨b, 0, none⟩)] Z (omA b S :: F) fun r Bs => r = .int .i64 (S.length : Int) ∧ Bs = omA b S :: F := by
 refine sf_enter Try.func54 10 [(0, pB b 0)] (fun w0 => ?_)
 refine k_sr ?_
 refine sp (.int .i64 0) ?_
 refine s_nt ?_
 refine k_seq ?_
 refine k_sr ?_
 refine sp (pB b 0) ?_
 refine sp (.bool false) ?_
 refine s_nt ?_
 refine k_false ?_
 refine k_st ?_
 refine k_sr ?_
 refine sp (pB b 0) ?_
 refine sp (pB b 0) ?_
 refine sp (pB b 0) ?_
 refine s_mem3 (fun H h => om_open (h.re [0] [])) (fun sv1 mb2 m3 hw => ?_)
 obtain ⟨hinv4, hag5⟩ := hw
 refine s_lt (t_load 0 sv1) ?_
 refine s_lt (t_len SltT_ok Try.underlying110 (.own 1)) ?_
 refine sp (.int .i64 (S.length : Int)) ?_
 refine s_nt ?_
 refine k_ret ?_
 refine xs_mem (fun _ h => om_shut (S := S) (n := (cnt S : Int)) ⟨⟨hinv4, hag5⟩, rfl⟩ (h.re [0, 0, 0] [])) ?_
 refine xs_fin [.int .i64 (S.length : Int)] (omA b S :: F) (SI.tmp 2 SI.nil) (fun _ h => h.re [0] []) ⟨?_, rfl⟩
 rfl
theorem omkeys_s {Z : Zone} {F : List Asr} {b : Nat} {S : List Slt} (hs : S.length ≤ 1000000) : SF Try.prog 74 #[.pointer (some ⟨b, 0, none⟩)] Z (omA b S :: F) fun r Bs => Bs = own VlT r (okeys S) :: omA b S :: F := by
 refine sf_enter Try.func74 27 [(0, pB b 0)] (fun w0 => ?_)
 refine k_sr ?_
 refine sp (.slice none 0 0) ?_
 refine s_nt ?_
 refine k_seq ?_
 refine k_sr ?_
 refine sp (pB b 0) ?_
 refine sp (.bool false) ?_
 refine s_nt ?_
 refine k_false ?_
 refine k_st ?_
 refine k_sr ?_
 refine sp (.slice none 0 0) ?_
 refine s_nt ?_
 refine k_seq ?_
 refine k_sr ?_
 refine sp (pB b 0) ?_
 refine sp (pB b 0) ?_
 refine sp (pB b 0) ?_
 refine s_mem3 (fun H h => om_open (h.re [0] [])) (fun sv1 mb2 m3 hw => ?_)
 obtain ⟨hinv4, hag5⟩ := hw
 refine s_lt (t_load 0 sv1) ?_
 refine s_lt (t_len SltT_ok Try.underlying110 (.own 1)) ?_
 refine sp (.int .i64 0) ?_
 refine s_nt ?_
 refine k_block ?_
 refine k_mem (fun _ h => Holds.nilS (T := VlT) h) ?_
 refine k_mem (Bs := own VlT (.slice none 0 0) (okeys (S.take 0)) :: blkA b #[sv1, .map (some mb2), .int .i64 (cnt S : Int)] 112 :: own SltT sv1 S :: mpA vK nV mb2 m3 :: F) (fun _ h => h) ?_
 refine k_loop (ι := Value × Nat) (fun (lx, i) => i ≤ S.length) (fun (lx, i) => [(3, lx), (11, sv1), (12, .int .i64 (S.length : Int)), (13, .int .i64 (i : Int))]) (fun (lx, i) => own VlT lx (okeys (S.take i)) :: blkA b #[sv1, .map (some mb2), .int .i64 (cnt S : Int)] 112 :: own SltT sv1 S :: mpA vK nV mb2 m3 :: F) (fun (lx, i) => S.length - i) ((.slice none 0 0), 0) (Nat.zero_le _) (sub_of rfl ⟨⟨rfl, rfl⟩, ⟨⟨rfl, rfl⟩, ⟨⟨rfl, rfl⟩, ⟨⟨rfl, rfl⟩, trivial⟩⟩⟩⟩) (fun _ h => h.re [0, 0, 0, 0] []) ?_
 rintro ⟨lx, i⟩ hi6
 replace hi6 : i ≤ S.length := hi6
 show SK _ _ _ _ _ [(3, lx), (11, sv1), (12, .int .i64 (S.length : Int)), (13, .int .i64 (i : Int))] _ (own VlT lx (okeys (S.take i)) :: blkA b #[sv1, .map (some mb2), .int .i64 (cnt S : Int)] 112 :: own SltT sv1 S :: mpA vK nV mb2 m3 :: F)
 have hli : (okeys (S.take i)).length ≤ i := Nat.le_trans (okeys_len _) (by rw [List.length_take]; omega)
 refine k_sr ?_
 refine s_lt t_cmp ?_
 refine s_nt ?_
 refine k_seq ?_
 refine k_cond (decide ((i : Int) < (S.length : Int))) (fun c7 => ?_) (fun c7 => ?_)
 ·
  have p8 := of_decide_eq_true c7
  refine k_st ?_
  refine k_seq ?_
  refine k_block ?_
  refine k_sr ?_
  refine s_lt (t_index SltT_ok Try.underlying110 (.own 2) (i : Int) i (by omega) (by (try simp only [lnm]); omega) (by omega)) ?_
  obtain ⟨y9, hy10⟩ : ∃ y, S[i]? = some y := ⟨_, List.getElem?_eq_getElem (by (try simp only [lnm]); omega)⟩
  refine s_lt (t_loadE SltT_ok (.own 2) hy10) ?_
  refine s_alloc (.agg #[.int .i64 0, .int .i64 0, .int .i64 0, .string ByteArray.empty, .int .i64 0, .int .i64 0, .int .i64 0, .int .i64 0, .string ByteArray.empty, .int .i64 0, .bool false]) #[.int .i64 0, .int .i64 0, .int .i64 0, .string ByteArray.empty, .int .i64 0, .int .i64 0, .int .i64 0, .int .i64 0, .string ByteArray.empty, .int .i64 0, .bool false] (fun g11 => ?_)
  refine s_store 0 #[.int .i64 y9.key.kind, .int .i64 y9.key.p, .int .i64 y9.key.q, .string y9.key.str, .int .i64 y9.key.ref, .int .i64 y9.val.kind, .int .i64 y9.val.p, .int .i64 y9.val.q, .string y9.val.str, .int .i64 y9.val.ref, .bool y9.gone] ?_
  refine s_nr ?_
  refine sp (pB g11 10) ?_
  refine s_lt (t_load 0 (.bool y9.gone)) ?_
  refine sp (.bool (!y9.gone)) ?_
  refine s_nt ?_
  refine k_cond (!y9.gone) (fun c12 => ?_) (fun c12 => ?_)
  ·
   have c13 := not_t c12
   refine k_reg ?_
   refine sp lx ?_
   refine sp (pB g11 0) ?_
   refine s_lt (t_loadA 0 #[.int .i64 y9.key.kind, .int .i64 y9.key.p, .int .i64 y9.key.q, .string y9.key.str, .int .i64 y9.key.ref]) ?_
   refine s_buildSlice (e := 26) [(0, .agg #[.int .i64 y9.key.kind, .int .i64 y9.key.p, .int .i64 y9.key.q, .string y9.key.str, .int .i64 y9.key.ref])] #[.int .i64 y9.key.kind, .int .i64 y9.key.p, .int .i64 y9.key.q, .string y9.key.str, .int .i64 y9.key.ref] (fun g14 => ?_) (hb := by kernel_rfl)
   refine s_append (L := (okeys (S.take i))) 2 VlT_ok Try.underlying22 (.lit 0 VlT_ok [y9.key]) (by show _ * 48 ≤ _; (try simp only [lnm]); omega) (by (try simp only [lnm]); omega) (fun v15 => ?_)
   refine sp v15 ?_
   refine s_nil ?_
   refine xs_block ?_
   refine xs_then ?_
   refine k_reg ?_
   refine s_lt (t_add (i : Int) 1 (by (try simp only [lnm]); omega)) ?_
   refine sp (.int .i64 ((i : Int) + 1)) ?_
   refine s_nil ?_
   have hks := okeys_step hy10
   rw [if_neg (by rw [c13]; decide)] at hks
   rw [← hks]
   exact xs_round (v15, i + 1) (by show S.length - (i + 1) < S.length - i; omega) (by show i + 1 ≤ S.length; omega) (sub_of rfl ⟨⟨rfl, rfl⟩, ⟨⟨rfl, rfl⟩, ⟨⟨rfl, rfl⟩, ⟨⟨rfl, rfl⟩, trivial⟩⟩⟩⟩) (fun _ h => h.re [2, 2, 2, 2] [4, 4])
  ·
   have c16 := not_f c12
   refine k_skip ?_
   refine xs_block ?_
   refine xs_then ?_
   refine k_reg ?_
   refine s_lt (t_add (i : Int) 1 (by (try simp only [lnm]); omega)) ?_
   refine sp (.int .i64 ((i : Int) + 1)) ?_
   refine s_nil ?_
   have hks := okeys_step hy10
   rw [if_pos c16] at hks
   rw [← hks]
   exact xs_round (lx, i + 1) (by show S.length - (i + 1) < S.length - i; omega) (by show i + 1 ≤ S.length; omega) (sub_of rfl ⟨⟨rfl, rfl⟩, ⟨⟨rfl, rfl⟩, ⟨⟨rfl, rfl⟩, ⟨⟨rfl, rfl⟩, trivial⟩⟩⟩⟩) (fun _ h => h.re [1, 1, 1, 1] [4])
 ·
  have p17 := of_decide_eq_false c7
  refine k_exit ?_
  refine xs_exit ?_
  refine xs_exit ?_
  refine xs_here ?_
  refine xs_then ?_
  refine k_sr ?_
  refine sp lx ?_
  refine sp lx ?_
  refine s_nt ?_
  refine k_ret ?_
  refine xs_mem (fun _ h => om_shut (S := S) (n := (cnt S : Int)) ⟨⟨hinv4, hag5⟩, rfl⟩ (h.re [1, 1, 1] [])) ?_
  have hend : okeys (S.take i) = okeys S := by rw [List.take_of_length_le (by omega)]
  rw [hend]
  exact xs_fin [lx] (own VlT lx (okeys S) :: omA b S :: F) (SI.tmp 2 SI.nil) (fun _ h => h.re [1, 0] []) rfl
end Go.Proofs.Ytmilekfknhglkaa
end
section
set_option linter.unusedSimpArgs false
set_option linter.unusedVariables false
set_option maxRecDepth 100000
set_option maxHeartbeats 2000000
namespace Go.Proofs.Ytmilekfknhglkaa
open Go.Hp Go.J Go.S
open Go.Mem (Ty KTy blk elemAt pre suf blk_pre blk_suf aget aset strK aggDesc)
open Go.Mem (adel apos aget_aset aget_adel)
/-- An ordered map of the reference in memory. -/
theorem cnt_step {S : List Slt} {i : Nat} {s : Slt} (h : S[i]? = some s) : cnt (S.take (i + 1)) = if s.gone then cnt (S.take i) else cnt (S.take i) + 1 := by
  unfold cnt; rw [live_take h]; split <;> simp
theorem set_gone {S : List Slt} (h : OInv S) {k : Vl} {i : Nat} {s : Slt} (hs : S[i]? = some s) (hk : s.key = k) (hg : s.gone = true) : S = S.set i ⟨k, zVl, true⟩ := by
  have e := h.zero s (List.mem_of_getElem? hs) hg
  have : s = ⟨k, zVl, true⟩ := by rw [← hk, ← e, ← hg]
  rw [← this]; exact (set_same hs).symm
theorem next_found2 {S : List Slt} {a j : Nat} {s : Slt} (ha : a ≤ j) (h : live ((S.drop a).take (j - a)) = []) (hs : S[j]? = some s) (hg : s.gone = false) : slotV (live (S.drop a)).head? = (s.key, s.val, true) :=
  next_found h (by rw [List.getElem?_drop, show a + (j - a) = j by omega]; exact hs) hg
theorem next_end2 {S : List Slt} {a j : Nat} (ha : a ≤ j) (h : live ((S.drop a).take (j - a)) = []) (hj : S.length ≤ j) : slotV (live (S.drop a)).head? = (zVl, zVl, false) :=
  next_end h (by rw [List.length_drop]; omega)
theorem next_step2 {S : List Slt} {a j : Nat} {s : Slt} (ha : a ≤ j) (h : live ((S.drop a).take (j - a)) = []) (hs : S[j]? = some s) (hg : s.gone = true) : live ((S.drop a).take (j + 1 - a)) = [] := by
  rw [show j + 1 - a = (j - a) + 1 by omega]
  exact live_gone_step h (by rw [List.getElem?_drop, show a + (j - a) = j by omega]; exact hs) hg
end Go.Proofs.Ytmilekfknhglkaa
end
