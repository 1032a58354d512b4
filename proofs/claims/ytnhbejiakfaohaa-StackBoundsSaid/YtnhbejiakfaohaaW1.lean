/-
  Values that are valid, by the program and by the reference.
-/
import Derived.Test.YtnhbejiakfaohaaDefs
set_option linter.unusedSimpArgs false
set_option linter.unusedVariables false
set_option maxRecDepth 100000
namespace Go.Proofs.Ytnhbejiakfaohaa
open Go.Hp Go.J Go.S
open Go.Mem (Ty KTy blk elemAt pre suf blk_pre blk_suf aget aset strK aggDesc)
theorem gcd_s {Z : Zone} (x y : Nat) : SF Try.prog 53 #[.int .i64 x, .int .i64 y] Z [] fun v Bs => v = .int .i64 (Nat.gcd x y) ∧ Bs = [] := by
  refine sf_enter Try.func53 12 [(0, .int .i64 (x : Int)), (1, .int .i64 (y : Int))] (fun w0 => ?_)
  refine k_seq ?_
  refine k_reg ?_
  refine s_lt (t_pure (.int .i64 0)) ?_
  refine s_nil ?_
  refine xs_then ?_
  refine k_seq ?_
  refine k_block ?_
  refine k_loop (ι := Nat × Nat) (fun (a, b) => Nat.gcd a b = Nat.gcd x y) (fun (a, b) => [(0, .int .i64 (a : Int)), (1, .int .i64 (b : Int)), (4, .int .i64 0)]) (fun (a, b) => []) (fun (a, b) => b) (x, y) rfl (sub_of rfl ⟨⟨rfl, rfl⟩, ⟨⟨rfl, rfl⟩, ⟨⟨rfl, rfl⟩, trivial⟩⟩⟩) (fun _ h => h.re [] []) ?_
  rintro ⟨a, b⟩ hi1
  replace hi1 : Nat.gcd a b = Nat.gcd x y := hi1
  show SK _ _ _ _ _ [(0, .int .i64 (a : Int)), (1, .int .i64 (b : Int)), (4, .int .i64 0)] _ []
  refine k_seq ?_
  refine k_seq ?_
  refine k_reg ?_
  refine s_lt (t_pure (.int .i64 (b : Int))) ?_
  refine s_lt t_cmp ?_
  refine s_nil ?_
  refine xs_then ?_
  refine k_cond (decide ((b : Int) ≠ 0)) (fun c2 => ?_) (fun c2 => ?_)
  ·
    have p3 := of_decide_eq_true c2
    refine k_skip ?_
    refine xs_then ?_
    refine k_block ?_
    refine k_draw ?_
    refine s_lt (t_pure (.int .i64 (b : Int))) ?_
    refine s_lt (t_pure (.int .i64 (a : Int))) ?_
    refine s_lt (t_pure (.int .i64 (b : Int))) ?_
    refine s_lt (Lt.to (v' := .int .i64 ((a % b : Nat) : Int)) (t_rem (a : Int) (b : Int) (by omega)) rfl) ?_
    refine s_lt (t_pure (.int .i64 (b : Int))) ?_
    refine s_lt (t_pure (.int .i64 ((a % b : Nat) : Int))) ?_
    refine s_nil ?_
    refine x_dynS (fun _ h => by kernel_rfl) ?_
    refine xs_block ?_
    exact xs_round (b, a % b) (by exact Nat.mod_lt _ (by omega)) (by show Nat.gcd b (a % b) = _; rw [gcd_step]; exact hi1) (sub_of rfl ⟨⟨rfl, rfl⟩, ⟨⟨rfl, rfl⟩, ⟨⟨rfl, rfl⟩, trivial⟩⟩⟩) (fun _ h => h.re [] [])
  ·
    have p4 := Decidable.not_not.1 (of_decide_eq_false c2)
    refine k_exit ?_
    refine xs_exit ?_
    refine xs_exit ?_
    refine xs_here ?_
    refine xs_then ?_
    refine k_seq ?_
    refine k_reg ?_
    refine s_lt (t_pure (.int .i64 (a : Int))) ?_
    refine s_lt (t_pure (.int .i64 (a : Int))) ?_
    refine s_nil ?_
    refine xs_then ?_
    refine k_ret ?_
    obtain rfl : b = 0 := by omega
    refine xs_fin [.int .i64 (a : Int)] [] (SI.tmp 4 SI.nil) (fun _ h => h.re [] []) ⟨?_, rfl⟩
    rw [← hi1, Nat.gcd_zero_right]; rfl
theorem rgcd_s {Z : Zone} (x y : Nat) : SF Try.prog 50 #[.int .i64 x, .int .i64 y] Z [] fun v Bs => v = .int .i64 (Nat.gcd x y) ∧ Bs = [] := by
  refine sf_enter Try.func50 12 [(0, .int .i64 (x : Int)), (1, .int .i64 (y : Int))] (fun w0 => ?_)
  refine k_seq ?_
  refine k_reg ?_
  refine s_lt (t_pure (.int .i64 0)) ?_
  refine s_nil ?_
  refine xs_then ?_
  refine k_seq ?_
  refine k_block ?_
  refine k_loop (ι := Nat × Nat) (fun (a, b) => Nat.gcd a b = Nat.gcd x y) (fun (a, b) => [(0, .int .i64 (a : Int)), (1, .int .i64 (b : Int)), (4, .int .i64 0)]) (fun (a, b) => []) (fun (a, b) => b) (x, y) rfl (sub_of rfl ⟨⟨rfl, rfl⟩, ⟨⟨rfl, rfl⟩, ⟨⟨rfl, rfl⟩, trivial⟩⟩⟩) (fun _ h => h.re [] []) ?_
  rintro ⟨a, b⟩ hi1
  replace hi1 : Nat.gcd a b = Nat.gcd x y := hi1
  show SK _ _ _ _ _ [(0, .int .i64 (a : Int)), (1, .int .i64 (b : Int)), (4, .int .i64 0)] _ []
  refine k_seq ?_
  refine k_seq ?_
  refine k_reg ?_
  refine s_lt (t_pure (.int .i64 (b : Int))) ?_
  refine s_lt t_cmp ?_
  refine s_nil ?_
  refine xs_then ?_
  refine k_cond (decide ((b : Int) ≠ 0)) (fun c2 => ?_) (fun c2 => ?_)
  ·
    have p3 := of_decide_eq_true c2
    refine k_skip ?_
    refine xs_then ?_
    refine k_block ?_
    refine k_draw ?_
    refine s_lt (t_pure (.int .i64 (b : Int))) ?_
    refine s_lt (t_pure (.int .i64 (a : Int))) ?_
    refine s_lt (t_pure (.int .i64 (b : Int))) ?_
    refine s_lt (Lt.to (v' := .int .i64 ((a % b : Nat) : Int)) (t_rem (a : Int) (b : Int) (by omega)) rfl) ?_
    refine s_lt (t_pure (.int .i64 (b : Int))) ?_
    refine s_lt (t_pure (.int .i64 ((a % b : Nat) : Int))) ?_
    refine s_nil ?_
    refine x_dynS (fun _ h => by kernel_rfl) ?_
    refine xs_block ?_
    exact xs_round (b, a % b) (by exact Nat.mod_lt _ (by omega)) (by show Nat.gcd b (a % b) = _; rw [gcd_step]; exact hi1) (sub_of rfl ⟨⟨rfl, rfl⟩, ⟨⟨rfl, rfl⟩, ⟨⟨rfl, rfl⟩, trivial⟩⟩⟩) (fun _ h => h.re [] [])
  ·
    have p4 := Decidable.not_not.1 (of_decide_eq_false c2)
    refine k_exit ?_
    refine xs_exit ?_
    refine xs_exit ?_
    refine xs_here ?_
    refine xs_then ?_
    refine k_seq ?_
    refine k_reg ?_
    refine s_lt (t_pure (.int .i64 (a : Int))) ?_
    refine s_lt (t_pure (.int .i64 (a : Int))) ?_
    refine s_nil ?_
    refine xs_then ?_
    refine k_ret ?_
    obtain rfl : b = 0 := by omega
    refine xs_fin [.int .i64 (a : Int)] [] (SI.tmp 4 SI.nil) (fun _ h => h.re [] []) ⟨?_, rfl⟩
    rw [← hi1, Nat.gcd_zero_right]; rfl
theorem gcd_i {Z : Zone} (x y : Int) (hx : 0 ≤ x) (hy : 0 ≤ y) : SF Try.prog 53 #[.int .i64 x, .int .i64 y] Z [] fun v Bs => v = .int .i64 (Nat.gcd x.toNat y.toNat) ∧ Bs = [] := by
  have h := gcd_s (Z := Z) x.toNat y.toNat
  rw [show ((x.toNat : Nat) : Int) = x by omega, show ((y.toNat : Nat) : Int) = y by omega] at h
  exact h
theorem rgcd_i {Z : Zone} (x y : Int) (hx : 0 ≤ x) (hy : 0 ≤ y) : SF Try.prog 50 #[.int .i64 x, .int .i64 y] Z [] fun v Bs => v = .int .i64 (Nat.gcd x.toNat y.toNat) ∧ Bs = [] := by
  have h := rgcd_s (Z := Z) x.toNat y.toNat
  rw [show ((x.toNat : Nat) : Int) = x by omega, show ((y.toNat : Nat) : Int) = y by omega] at h
  exact h
theorem gcd_bool (p q : Int) (h : 1 ≤ q) : decide (((Nat.gcd (if p < (-p) then (-p) else p).toNat q.toNat : Nat) : Int) = 1) = decide (Int.gcd p q = 1) := by
  rw [show (if p < (-p) then (-p) else p).toNat = p.natAbs by omega, show q.toNat = q.natAbs by omega, Bool.eq_iff_iff]
  rw [decide_eq_true_eq, decide_eq_true_eq]
  exact ⟨fun h => Int.ofNat_inj.1 h, fun h => Int.ofNat_inj.2 h⟩
theorem validN_eq (p q : Int) : ((decide ((1 : Int) ≤ q)) && ((decide (q ≤ 2147483647)) && ((decide ((-2147483647) ≤ p)) && ((decide (p ≤ 2147483647)) && (decide (((Nat.gcd (if p < (-p) then (-p) else p).toNat q.toNat : Nat) : Int) = 1)))))) = validN p q := by
  by_cases h : 1 ≤ q
  · rw [gcd_bool p q h]; rfl
  · simp [validN, h]
theorem rvalidN_eq (p q : Int) : ((decide ((1 : Int) ≤ q)) && ((decide (q ≤ 2147483647)) && ((decide (p ≤ 2147483647)) && ((decide ((-2147483647) ≤ p)) && (decide (((Nat.gcd (if p < (-p) then (-p) else p).toNat q.toNat : Nat) : Int) = 1)))))) = validN p q := by
  rw [← validN_eq, Bool.and_left_comm (decide (p ≤ 2147483647))]
theorem abs_s {Z : Zone} (x : Int) (h1 : -2147483647 ≤ x) (h2 : x ≤ 2147483647) : SF Try.prog 51 #[.int .i64 x] Z [] fun v Bs => v = .int .i64 (if x < -x then -x else x) ∧ Bs = [] := by
  refine sf_enter Try.func51 8 [(0, .int .i64 x)] (fun w0 => ?_)
  refine k_seq ?_
  refine k_reg ?_
  refine s_lt (t_pure (.int .i64 0)) ?_
  refine s_nil ?_
  refine xs_then ?_
  refine k_seq ?_
  refine k_seq ?_
  refine k_reg ?_
  refine s_lt (t_pure (.int .i64 x)) ?_
  refine s_lt t_cmp ?_
  refine s_nil ?_
  refine xs_then ?_
  refine k_cond (decide (x < 0)) (fun c1 => ?_) (fun c1 => ?_)
  ·
    have p2 := of_decide_eq_true c1
    refine k_seq ?_
    refine k_reg ?_
    refine s_lt (t_pure (.int .i64 x)) ?_
    refine s_lt (t_neg x (by omega)) ?_
    refine s_lt (t_pure (.int .i64 (-x))) ?_
    refine s_nil ?_
    refine xs_then ?_
    refine k_ret ?_
    refine xs_ret ?_
    refine xs_fin [.int .i64 (-x)] [] (SI.tmp 2 SI.nil) (fun _ h => h.re [] []) ⟨?_, rfl⟩
    exact congrArg (Value.int .i64) (by omega)
  ·
    have p3 := of_decide_eq_false c1
    refine k_skip ?_
    refine xs_then ?_
    refine k_seq ?_
    refine k_reg ?_
    refine s_lt (t_pure (.int .i64 x)) ?_
    refine s_lt (t_pure (.int .i64 x)) ?_
    refine s_nil ?_
    refine xs_then ?_
    refine k_ret ?_
    refine xs_fin [.int .i64 x] [] (SI.tmp 2 SI.nil) (fun _ h => h.re [] []) ⟨?_, rfl⟩
    exact congrArg (Value.int .i64) (by omega)
theorem vnum_s {Z : Zone} (p q : Int) : SF Try.prog 52 #[.agg #[.int .i64 p, .int .i64 q]] Z [] fun v Bs => v = .bool (validN p q) ∧ Bs = [] := by
  refine sf_enter Try.func52 33 [(0, .agg #[.int .i64 p, .int .i64 q])] (fun w0 => ?_)
  refine k_seq ?_
  refine k_reg ?_
  refine s_box #[.int .i64 p, .int .i64 q] (fun g1 => ?_)
  refine s_lt (t_pure (.bool false)) ?_
  refine s_nil ?_
  refine xs_then ?_
  refine k_cut (ι := Unit) (fun _ => True) (fun _ => [(2, .bool ((decide ((1 : Int) ≤ q)) && ((decide (q ≤ 2147483647)) && ((decide ((-2147483647) ≤ p)) && ((decide (p ≤ 2147483647)) && (decide (((Nat.gcd ((if p < (-p) then (-p) else p)).toNat (q).toNat : Nat) : Int) = 1)))))))]) (fun _ => [blkA g1 #[.int .i64 p, .int .i64 q] 30]) ?_ (fun _ _ => ?_)
  ·
    refine k_reg ?_
    refine s_lt (t_pure (.pointer (some ⟨g1, 1, none⟩))) ?_
    refine s_lt (t_load 0 (.int .i64 q)) ?_
    refine s_lt t_cmp ?_
    refine s_lt (t_pure (.bool (decide ((1 : Int) ≤ q)))) ?_
    refine s_fork 6 (decide ((1 : Int) ≤ q)) (fun c2 => ?_) (fun c2 => ?_)
    ·
      have p3 := of_decide_eq_true c2
      refine s_lt (t_pure (.pointer (some ⟨g1, 1, none⟩))) ?_
      refine s_lt (t_load 0 (.int .i64 q)) ?_
      refine s_lt t_cmp ?_
      refine s_lt (t_pure (.bool (decide (q ≤ 2147483647)))) ?_
      refine s_lt (t_pure (.bool (decide (q ≤ 2147483647)))) ?_
      refine s_fork 11 (decide (q ≤ 2147483647)) (fun c4 => ?_) (fun c4 => ?_)
      ·
        have p5 := of_decide_eq_true c4
        refine s_lt (t_pure (.pointer (some ⟨g1, 0, none⟩))) ?_
        refine s_lt (t_load 0 (.int .i64 p)) ?_
        refine s_lt t_cmp ?_
        refine s_lt (t_pure (.bool (decide ((-2147483647) ≤ p)))) ?_
        refine s_lt (t_pure (.bool (decide ((-2147483647) ≤ p)))) ?_
        refine s_fork 16 (decide ((-2147483647) ≤ p)) (fun c6 => ?_) (fun c6 => ?_)
        ·
          have p7 := of_decide_eq_true c6
          refine s_lt (t_pure (.pointer (some ⟨g1, 0, none⟩))) ?_
          refine s_lt (t_load 0 (.int .i64 p)) ?_
          refine s_lt t_cmp ?_
          refine s_lt (t_pure (.bool (decide (p ≤ 2147483647)))) ?_
          refine s_lt (t_pure (.bool (decide (p ≤ 2147483647)))) ?_
          refine s_fork 21 (decide (p ≤ 2147483647)) (fun c8 => ?_) (fun c8 => ?_)
          ·
            have p9 := of_decide_eq_true c8
            refine s_lt (t_pure (.pointer (some ⟨g1, 0, none⟩))) ?_
            refine s_lt (t_load 0 (.int .i64 p)) ?_
            refine s_lt (t_pure (.pointer (some ⟨g1, 0, none⟩))) ?_
            refine s_lt (t_load 0 (.int .i64 p)) ?_
            refine s_lt (t_neg p (by omega)) ?_
            refine s_lt t_max ?_
            refine s_lt (t_pure (.pointer (some ⟨g1, 1, none⟩))) ?_
            refine s_lt (t_load 0 (.int .i64 q)) ?_
            refine s_vcall (fun _ h => gcd_i (if p < (-p) then (-p) else p) q (by omega) (by omega)) ?_
            rintro _ rfl
            refine s_lt t_cmp ?_
            refine s_lt (t_pure (.bool (decide (((Nat.gcd ((if p < (-p) then (-p) else p)).toNat (q).toNat : Nat) : Int) = 1)))) ?_
            refine s_lt (t_pure (.bool (decide (((Nat.gcd ((if p < (-p) then (-p) else p)).toNat (q).toNat : Nat) : Int) = 1)))) ?_
            refine s_nil ?_
            exact xs_cut () trivial (sub_of rfl ⟨⟨rfl, show Value.bool (decide (((Nat.gcd ((if p < (-p) then (-p) else p)).toNat (q).toNat : Nat) : Int) = 1)) = Value.bool ((decide ((1 : Int) ≤ q)) && ((decide (q ≤ 2147483647)) && ((decide ((-2147483647) ≤ p)) && ((decide (p ≤ 2147483647)) && (decide (((Nat.gcd ((if p < (-p) then (-p) else p)).toNat (q).toNat : Nat) : Int) = 1)))))) by simp [c2, c4, c6, c8]⟩, trivial⟩) (fun _ h => h.re [] [])
          ·
            have p10 := of_decide_eq_false c8
            refine s_skip ?_
            refine s_skip ?_
            refine s_skip ?_
            refine s_skip ?_
            refine s_skip ?_
            refine s_skip ?_
            refine s_skip ?_
            refine s_skip ?_
            refine s_skip ?_
            refine s_skip ?_
            refine s_lt (t_pure (.bool false)) ?_
            refine s_lt (t_pure (.bool false)) ?_
            refine s_nil ?_
            exact xs_cut () trivial (sub_of rfl ⟨⟨rfl, show Value.bool false = Value.bool ((decide ((1 : Int) ≤ q)) && ((decide (q ≤ 2147483647)) && ((decide ((-2147483647) ≤ p)) && ((decide (p ≤ 2147483647)) && (decide (((Nat.gcd ((if p < (-p) then (-p) else p)).toNat (q).toNat : Nat) : Int) = 1)))))) by simp [c2, c4, c6, c8]⟩, trivial⟩) (fun _ h => h.re [] [])
        ·
          have p11 := of_decide_eq_false c6
          refine s_skip ?_
          refine s_skip ?_
          refine s_skip ?_
          refine s_lt (t_pure (.bool false)) ?_
          refine s_lt (t_pure (.bool false)) ?_
          refine s_skip ?_
          refine s_skip ?_
          refine s_skip ?_
          refine s_skip ?_
          refine s_skip ?_
          refine s_skip ?_
          refine s_skip ?_
          refine s_skip ?_
          refine s_skip ?_
          refine s_skip ?_
          refine s_lt (t_pure (.bool false)) ?_
          refine s_lt (t_pure (.bool false)) ?_
          refine s_nil ?_
          exact xs_cut () trivial (sub_of rfl ⟨⟨rfl, show Value.bool false = Value.bool ((decide ((1 : Int) ≤ q)) && ((decide (q ≤ 2147483647)) && ((decide ((-2147483647) ≤ p)) && ((decide (p ≤ 2147483647)) && (decide (((Nat.gcd ((if p < (-p) then (-p) else p)).toNat (q).toNat : Nat) : Int) = 1)))))) by simp [c2, c4, c6]⟩, trivial⟩) (fun _ h => h.re [] [])
      ·
        have p12 := of_decide_eq_false c4
        refine s_skip ?_
        refine s_skip ?_
        refine s_skip ?_
        refine s_lt (t_pure (.bool false)) ?_
        refine s_lt (t_pure (.bool false)) ?_
        refine s_skip ?_
        refine s_skip ?_
        refine s_skip ?_
        refine s_lt (t_pure (.bool false)) ?_
        refine s_lt (t_pure (.bool false)) ?_
        refine s_skip ?_
        refine s_skip ?_
        refine s_skip ?_
        refine s_skip ?_
        refine s_skip ?_
        refine s_skip ?_
        refine s_skip ?_
        refine s_skip ?_
        refine s_skip ?_
        refine s_skip ?_
        refine s_lt (t_pure (.bool false)) ?_
        refine s_lt (t_pure (.bool false)) ?_
        refine s_nil ?_
        exact xs_cut () trivial (sub_of rfl ⟨⟨rfl, show Value.bool false = Value.bool ((decide ((1 : Int) ≤ q)) && ((decide (q ≤ 2147483647)) && ((decide ((-2147483647) ≤ p)) && ((decide (p ≤ 2147483647)) && (decide (((Nat.gcd ((if p < (-p) then (-p) else p)).toNat (q).toNat : Nat) : Int) = 1)))))) by simp [c2, c4]⟩, trivial⟩) (fun _ h => h.re [] [])
    ·
      have p13 := of_decide_eq_false c2
      refine s_skip ?_
      refine s_skip ?_
      refine s_skip ?_
      refine s_lt (t_pure (.bool false)) ?_
      refine s_lt (t_pure (.bool false)) ?_
      refine s_skip ?_
      refine s_skip ?_
      refine s_skip ?_
      refine s_lt (t_pure (.bool false)) ?_
      refine s_lt (t_pure (.bool false)) ?_
      refine s_skip ?_
      refine s_skip ?_
      refine s_skip ?_
      refine s_lt (t_pure (.bool false)) ?_
      refine s_lt (t_pure (.bool false)) ?_
      refine s_skip ?_
      refine s_skip ?_
      refine s_skip ?_
      refine s_skip ?_
      refine s_skip ?_
      refine s_skip ?_
      refine s_skip ?_
      refine s_skip ?_
      refine s_skip ?_
      refine s_skip ?_
      refine s_lt (t_pure (.bool false)) ?_
      refine s_lt (t_pure (.bool false)) ?_
      refine s_nil ?_
      exact xs_cut () trivial (sub_of rfl ⟨⟨rfl, show Value.bool false = Value.bool ((decide ((1 : Int) ≤ q)) && ((decide (q ≤ 2147483647)) && ((decide ((-2147483647) ≤ p)) && ((decide (p ≤ 2147483647)) && (decide (((Nat.gcd ((if p < (-p) then (-p) else p)).toNat (q).toNat : Nat) : Int) = 1)))))) by simp [c2]⟩, trivial⟩) (fun _ h => h.re [] [])
  ·
    refine k_ret ?_
    refine xs_fin [.bool ((decide ((1 : Int) ≤ q)) && ((decide (q ≤ 2147483647)) && ((decide ((-2147483647) ≤ p)) && ((decide (p ≤ 2147483647)) && (decide (((Nat.gcd ((if p < (-p) then (-p) else p)).toNat (q).toNat : Nat) : Int) = 1))))))] [] (SI.tmp 2 SI.nil) (fun _ h => h.re [] [0]) ⟨?_, rfl⟩
    exact congrArg Value.bool (validN_eq p q)
theorem rvnum_s {Z : Zone} (p q : Int) : SF Try.prog 35 #[.agg #[.int .i64 p, .int .i64 q]] Z [] fun v Bs => v = .bool (validN p q) ∧ Bs = [] := by
  refine sf_enter Try.func35 30 [(0, .agg #[.int .i64 p, .int .i64 q])] (fun w0 => ?_)
  refine k_seq ?_
  refine k_reg ?_
  refine s_box #[.int .i64 p, .int .i64 q] (fun g1 => ?_)
  refine s_lt (t_pure (.bool false)) ?_
  refine s_nil ?_
  refine xs_then ?_
  refine k_cut (ι := Unit) (fun _ => True) (fun _ => [(2, .bool ((decide ((1 : Int) ≤ q)) && ((decide (q ≤ 2147483647)) && ((decide (p ≤ 2147483647)) && ((decide ((-2147483647) ≤ p)) && (decide (((Nat.gcd ((if p < (-p) then (-p) else p)).toNat (q).toNat : Nat) : Int) = 1)))))))]) (fun _ => [blkA g1 #[.int .i64 p, .int .i64 q] 30]) ?_ (fun _ _ => ?_)
  ·
    refine k_held [blkA g1 #[.int .i64 p, .int .i64 q] 30] ?_
    refine h_lt 0 rfl (np_then np_finS) [0] (fun _ => (t_pure (.pointer (some ⟨g1, 1, none⟩)))) ?_
    refine h_lt 1 rfl (np_then np_finS) [0] (fun _ => (t_load 0 (.int .i64 q))) ?_
    refine h_lt 2 rfl (np_then np_finS) [0] (fun _ => t_cmp) ?_
    refine h_lt 3 rfl (np_then np_finS) [0] (fun _ => (t_pure (.bool (decide ((1 : Int) ≤ q))))) ?_
    refine h_forkS 6 (decide ((1 : Int) ≤ q)) (fun c2 => ?_) (fun c2 => ?_)
    ·
      have p3 := of_decide_eq_true c2
      refine h_lt 4 rfl (np_then np_finS) [0] (fun _ => (t_pure (.pointer (some ⟨g1, 1, none⟩)))) ?_
      refine h_lt 5 rfl (np_then np_finS) [0] (fun _ => (t_load 0 (.int .i64 q))) ?_
      refine h_lt 6 rfl (np_then np_finS) [0] (fun _ => t_cmp) ?_
      refine h_lt 7 rfl (np_then np_finS) [0] (fun _ => (t_pure (.bool (decide (q ≤ 2147483647))))) ?_
      refine h_lt 8 rfl (np_then np_finS) [0] (fun _ => (t_pure (.bool (decide (q ≤ 2147483647))))) ?_
      refine h_forkS 11 (decide (q ≤ 2147483647)) (fun c4 => ?_) (fun c4 => ?_)
      ·
        have p5 := of_decide_eq_true c4
        refine h_lt 9 rfl (np_then np_finS) [0] (fun _ => (t_pure (.pointer (some ⟨g1, 0, none⟩)))) ?_
        refine h_lt 10 rfl (np_then np_finS) [0] (fun _ => (t_load 0 (.int .i64 p))) ?_
        refine h_lt 11 rfl (np_then np_finS) [0] (fun _ => t_cmp) ?_
        refine h_lt 12 rfl (np_then np_finS) [0] (fun _ => (t_pure (.bool (decide (p ≤ 2147483647))))) ?_
        refine h_lt 13 rfl (np_then np_finS) [0] (fun _ => (t_pure (.bool (decide (p ≤ 2147483647))))) ?_
        refine h_forkS 16 (decide (p ≤ 2147483647)) (fun c6 => ?_) (fun c6 => ?_)
        ·
          have p7 := of_decide_eq_true c6
          refine h_lt 14 rfl (np_then np_finS) [0] (fun _ => (t_pure (.pointer (some ⟨g1, 0, none⟩)))) ?_
          refine h_lt 15 rfl (np_then np_finS) [0] (fun _ => (t_load 0 (.int .i64 p))) ?_
          refine h_lt 16 rfl (np_then np_finS) [0] (fun _ => t_cmp) ?_
          refine h_lt 17 rfl (np_then np_finS) [0] (fun _ => (t_pure (.bool (decide ((-2147483647) ≤ p))))) ?_
          refine h_lt 18 rfl (np_then np_finS) [0] (fun _ => (t_pure (.bool (decide ((-2147483647) ≤ p))))) ?_
          refine h_forkS 21 (decide ((-2147483647) ≤ p)) (fun c8 => ?_) (fun c8 => ?_)
          ·
            have p9 := of_decide_eq_true c8
            refine h_lt 19 rfl (np_then np_finS) [0] (fun _ => (t_pure (.pointer (some ⟨g1, 0, none⟩)))) ?_
            refine h_lt 20 rfl (np_then np_finS) [0] (fun _ => (t_load 0 (.int .i64 p))) ?_
            refine h_lt 22 rfl (np_then np_finS) [0] (fun _ => (t_pure (.pointer (some ⟨g1, 1, none⟩)))) ?_
            refine h_lt 23 rfl (np_then np_finS) [0] (fun _ => (t_load 0 (.int .i64 q))) ?_
            refine h_stepS 21 ?_
            refine s_vcall (fun _ h => abs_s p (by omega) (by omega)) ?_
            rintro _ rfl
            refine s_nil (xs_held [0] ?_)
            refine h_stepS 24 ?_
            refine s_vcall (fun _ h => rgcd_i (if p < (-p) then (-p) else p) q (by omega) (by omega)) ?_
            rintro _ rfl
            refine s_nil (xs_held [0] ?_)
            refine h_lt 25 rfl (np_then np_finS) [0] (fun _ => t_cmp) ?_
            refine h_lt 26 rfl (np_then np_finS) [0] (fun _ => (t_pure (.bool (decide (((Nat.gcd ((if p < (-p) then (-p) else p)).toNat (q).toNat : Nat) : Int) = 1))))) ?_
            refine h_lt 27 rfl (np_then np_finS) [0] (fun _ => (t_pure (.bool (decide (((Nat.gcd ((if p < (-p) then (-p) else p)).toNat (q).toNat : Nat) : Int) = 1))))) ?_
            refine h_doneS ?_
            exact xs_cut () trivial (sub_of rfl ⟨⟨rfl, show Value.bool (decide (((Nat.gcd ((if p < (-p) then (-p) else p)).toNat (q).toNat : Nat) : Int) = 1)) = Value.bool ((decide ((1 : Int) ≤ q)) && ((decide (q ≤ 2147483647)) && ((decide (p ≤ 2147483647)) && ((decide ((-2147483647) ≤ p)) && (decide (((Nat.gcd ((if p < (-p) then (-p) else p)).toNat (q).toNat : Nat) : Int) = 1)))))) by simp [c2, c4, c6, c8]⟩, trivial⟩) (fun _ h => h.re [] [])
          ·
            have p10 := of_decide_eq_false c8
            refine h_skipS 19 (np_then np_finS) [0] ?_
            refine h_skipS 20 (np_then np_finS) [0] ?_
            refine h_skipS 22 (np_then np_finS) [0] ?_
            refine h_skipS 23 (np_then np_finS) [0] ?_
            refine h_stepS 21 ?_
            refine s_skip ?_
            refine s_nil (xs_held [0] ?_)
            refine h_stepS 24 ?_
            refine s_skip ?_
            refine s_nil (xs_held [0] ?_)
            refine h_skipS 25 (np_then np_finS) [0] ?_
            refine h_lt 26 rfl (np_then np_finS) [0] (fun _ => (t_pure (.bool false))) ?_
            refine h_lt 27 rfl (np_then np_finS) [0] (fun _ => (t_pure (.bool false))) ?_
            refine h_doneS ?_
            exact xs_cut () trivial (sub_of rfl ⟨⟨rfl, show Value.bool false = Value.bool ((decide ((1 : Int) ≤ q)) && ((decide (q ≤ 2147483647)) && ((decide (p ≤ 2147483647)) && ((decide ((-2147483647) ≤ p)) && (decide (((Nat.gcd ((if p < (-p) then (-p) else p)).toNat (q).toNat : Nat) : Int) = 1)))))) by simp [c2, c4, c6, c8]⟩, trivial⟩) (fun _ h => h.re [] [])
        ·
          have p11 := of_decide_eq_false c6
          refine h_skipS 14 (np_then np_finS) [0] ?_
          refine h_skipS 15 (np_then np_finS) [0] ?_
          refine h_skipS 16 (np_then np_finS) [0] ?_
          refine h_lt 17 rfl (np_then np_finS) [0] (fun _ => (t_pure (.bool false))) ?_
          refine h_lt 18 rfl (np_then np_finS) [0] (fun _ => (t_pure (.bool false))) ?_
          refine h_skipS 19 (np_then np_finS) [0] ?_
          refine h_skipS 20 (np_then np_finS) [0] ?_
          refine h_skipS 22 (np_then np_finS) [0] ?_
          refine h_skipS 23 (np_then np_finS) [0] ?_
          refine h_stepS 21 ?_
          refine s_skip ?_
          refine s_nil (xs_held [0] ?_)
          refine h_stepS 24 ?_
          refine s_skip ?_
          refine s_nil (xs_held [0] ?_)
          refine h_skipS 25 (np_then np_finS) [0] ?_
          refine h_lt 26 rfl (np_then np_finS) [0] (fun _ => (t_pure (.bool false))) ?_
          refine h_lt 27 rfl (np_then np_finS) [0] (fun _ => (t_pure (.bool false))) ?_
          refine h_doneS ?_
          exact xs_cut () trivial (sub_of rfl ⟨⟨rfl, show Value.bool false = Value.bool ((decide ((1 : Int) ≤ q)) && ((decide (q ≤ 2147483647)) && ((decide (p ≤ 2147483647)) && ((decide ((-2147483647) ≤ p)) && (decide (((Nat.gcd ((if p < (-p) then (-p) else p)).toNat (q).toNat : Nat) : Int) = 1)))))) by simp [c2, c4, c6]⟩, trivial⟩) (fun _ h => h.re [] [])
      ·
        have p12 := of_decide_eq_false c4
        refine h_skipS 9 (np_then np_finS) [0] ?_
        refine h_skipS 10 (np_then np_finS) [0] ?_
        refine h_skipS 11 (np_then np_finS) [0] ?_
        refine h_lt 12 rfl (np_then np_finS) [0] (fun _ => (t_pure (.bool false))) ?_
        refine h_lt 13 rfl (np_then np_finS) [0] (fun _ => (t_pure (.bool false))) ?_
        refine h_skipS 14 (np_then np_finS) [0] ?_
        refine h_skipS 15 (np_then np_finS) [0] ?_
        refine h_skipS 16 (np_then np_finS) [0] ?_
        refine h_lt 17 rfl (np_then np_finS) [0] (fun _ => (t_pure (.bool false))) ?_
        refine h_lt 18 rfl (np_then np_finS) [0] (fun _ => (t_pure (.bool false))) ?_
        refine h_skipS 19 (np_then np_finS) [0] ?_
        refine h_skipS 20 (np_then np_finS) [0] ?_
        refine h_skipS 22 (np_then np_finS) [0] ?_
        refine h_skipS 23 (np_then np_finS) [0] ?_
        refine h_stepS 21 ?_
        refine s_skip ?_
        refine s_nil (xs_held [0] ?_)
        refine h_stepS 24 ?_
        refine s_skip ?_
        refine s_nil (xs_held [0] ?_)
        refine h_skipS 25 (np_then np_finS) [0] ?_
        refine h_lt 26 rfl (np_then np_finS) [0] (fun _ => (t_pure (.bool false))) ?_
        refine h_lt 27 rfl (np_then np_finS) [0] (fun _ => (t_pure (.bool false))) ?_
        refine h_doneS ?_
        exact xs_cut () trivial (sub_of rfl ⟨⟨rfl, show Value.bool false = Value.bool ((decide ((1 : Int) ≤ q)) && ((decide (q ≤ 2147483647)) && ((decide (p ≤ 2147483647)) && ((decide ((-2147483647) ≤ p)) && (decide (((Nat.gcd ((if p < (-p) then (-p) else p)).toNat (q).toNat : Nat) : Int) = 1)))))) by simp [c2, c4]⟩, trivial⟩) (fun _ h => h.re [] [])
    ·
      have p13 := of_decide_eq_false c2
      refine h_skipS 4 (np_then np_finS) [0] ?_
      refine h_skipS 5 (np_then np_finS) [0] ?_
      refine h_skipS 6 (np_then np_finS) [0] ?_
      refine h_lt 7 rfl (np_then np_finS) [0] (fun _ => (t_pure (.bool false))) ?_
      refine h_lt 8 rfl (np_then np_finS) [0] (fun _ => (t_pure (.bool false))) ?_
      refine h_skipS 9 (np_then np_finS) [0] ?_
      refine h_skipS 10 (np_then np_finS) [0] ?_
      refine h_skipS 11 (np_then np_finS) [0] ?_
      refine h_lt 12 rfl (np_then np_finS) [0] (fun _ => (t_pure (.bool false))) ?_
      refine h_lt 13 rfl (np_then np_finS) [0] (fun _ => (t_pure (.bool false))) ?_
      refine h_skipS 14 (np_then np_finS) [0] ?_
      refine h_skipS 15 (np_then np_finS) [0] ?_
      refine h_skipS 16 (np_then np_finS) [0] ?_
      refine h_lt 17 rfl (np_then np_finS) [0] (fun _ => (t_pure (.bool false))) ?_
      refine h_lt 18 rfl (np_then np_finS) [0] (fun _ => (t_pure (.bool false))) ?_
      refine h_skipS 19 (np_then np_finS) [0] ?_
      refine h_skipS 20 (np_then np_finS) [0] ?_
      refine h_skipS 22 (np_then np_finS) [0] ?_
      refine h_skipS 23 (np_then np_finS) [0] ?_
      refine h_stepS 21 ?_
      refine s_skip ?_
      refine s_nil (xs_held [0] ?_)
      refine h_stepS 24 ?_
      refine s_skip ?_
      refine s_nil (xs_held [0] ?_)
      refine h_skipS 25 (np_then np_finS) [0] ?_
      refine h_lt 26 rfl (np_then np_finS) [0] (fun _ => (t_pure (.bool false))) ?_
      refine h_lt 27 rfl (np_then np_finS) [0] (fun _ => (t_pure (.bool false))) ?_
      refine h_doneS ?_
      exact xs_cut () trivial (sub_of rfl ⟨⟨rfl, show Value.bool false = Value.bool ((decide ((1 : Int) ≤ q)) && ((decide (q ≤ 2147483647)) && ((decide (p ≤ 2147483647)) && ((decide ((-2147483647) ≤ p)) && (decide (((Nat.gcd ((if p < (-p) then (-p) else p)).toNat (q).toNat : Nat) : Int) = 1)))))) by simp [c2]⟩, trivial⟩) (fun _ h => h.re [] [])
  ·
    refine k_ret ?_
    refine xs_fin [.bool ((decide ((1 : Int) ≤ q)) && ((decide (q ≤ 2147483647)) && ((decide (p ≤ 2147483647)) && ((decide ((-2147483647) ≤ p)) && (decide (((Nat.gcd ((if p < (-p) then (-p) else p)).toNat (q).toNat : Nat) : Int) = 1))))))] [] (SI.tmp 2 SI.nil) (fun _ h => h.re [] [0]) ⟨?_, rfl⟩
    exact congrArg Value.bool (rvalidN_eq p q)
theorem valid_s {Z : Zone} (v : Vl) : SF Try.prog 36 #[v.v] Z [] fun r Bs => r = .bool (validB v) ∧ Bs = [] := by
  refine sf_enter Try.func36 74 [(0, .agg #[.int .i64 v.kind, .int .i64 v.p, .int .i64 v.q, .string v.str, .int .i64 v.ref])] (fun w0 => ?_)
  refine k_seq ?_
  refine k_reg ?_
  refine s_box #[.int .i64 v.kind, .int .i64 v.p, .int .i64 v.q, .string v.str, .int .i64 v.ref] (fun g1 => ?_)
  refine s_lt (t_pure (.bool false)) ?_
  refine s_nil ?_
  refine xs_then ?_
  refine k_seq ?_
  refine k_reg ?_
  refine s_lt (t_pure (.pointer (some ⟨g1, 0, none⟩))) ?_
  refine s_lt (t_load 0 (.int .i64 v.kind)) ?_
  refine s_lt (t_kern (.agg #[.int .i64 v.kind, .int .i64 0, .int .i64 0, .string ByteArray.empty, .int .i64 0])) ?_
  refine s_alloc (.agg #[.int .i64 0, .int .i64 0, .int .i64 0, .string ByteArray.empty, .int .i64 0]) #[.int .i64 0, .int .i64 0, .int .i64 0, .string ByteArray.empty, .int .i64 0] (fun g2 => ?_)
  refine s_store 0 #[.int .i64 v.kind, .int .i64 0, .int .i64 0, .string ByteArray.empty, .int .i64 0] ?_
  refine s_nil ?_
  refine xs_then ?_
  refine k_seq ?_
  refine k_reg ?_
  refine s_lt (t_pure (.bool true)) ?_
  refine s_nil ?_
  refine xs_then ?_
  refine k_seq ?_
  refine k_seq ?_
  refine k_reg ?_
  refine s_lt (t_pure (.pointer (some ⟨g1, 0, none⟩))) ?_
  refine s_lt (t_load 1 (.int .i64 v.kind)) ?_
  refine s_nil ?_
  refine xs_then ?_
  refine k_block ?_
  refine k_seq ?_
  refine k_reg ?_
  refine s_lt t_cmp ?_
  refine s_lt (t_pure (.bool (decide (v.kind = 0)))) ?_
  refine s_nil ?_
  refine xs_then ?_
  refine k_cond (decide (v.kind = 0)) (fun c3 => ?_) (fun c3 => ?_)
  ·
    have p4 := of_decide_eq_true c3
    refine k_skip ?_
    refine xs_block ?_
    refine xs_then ?_
    refine k_seq ?_
    refine k_reg ?_
    refine s_lt (t_pure (.bool true)) ?_
    refine s_lt (t_pure (.bool true)) ?_
    refine s_lt (t_loadA 1 #[.int .i64 v.kind, .int .i64 v.p, .int .i64 v.q, .string v.str, .int .i64 v.ref]) ?_
    refine s_lt (t_loadA 0 #[.int .i64 v.kind, .int .i64 0, .int .i64 0, .string ByteArray.empty, .int .i64 0]) ?_
    refine s_lt (t_eqS (fun w => (eqVlT v (⟨v.kind, 0, 0, ByteArray.empty, 0⟩ : Vl) w).1)) ?_
    refine s_lt (t_pure (.bool (decide (v = (⟨v.kind, 0, 0, ByteArray.empty, 0⟩ : Vl))))) ?_
    refine s_lt (t_pure (.bool (decide (v = (⟨v.kind, 0, 0, ByteArray.empty, 0⟩ : Vl))))) ?_
    refine s_nil ?_
    refine xs_then ?_
    refine k_ret ?_
    refine xs_fin [.bool (decide (v = (⟨v.kind, 0, 0, ByteArray.empty, 0⟩ : Vl)))] [] (SI.tmp 2 SI.nil) (fun _ h => h.re [] [0, 0]) ⟨?_, rfl⟩
    refine congrArg Value.bool ?_
    first | (simp [validB, p4]; done) | (rw [Bool.and_comm]; simp [validB, p4]; done) | (rw [Bool.eq_iff_iff]; simp [validB, p4, and_comm, and_left_comm, and_assoc]; done)
  ·
    have p5 := of_decide_eq_false c3
    refine k_seq ?_
    refine k_reg ?_
    refine s_lt t_cmp ?_
    refine s_lt (t_pure (.bool (decide (v.kind = 1)))) ?_
    refine s_nil ?_
    refine xs_then ?_
    refine k_cond (decide (v.kind = 1)) (fun c6 => ?_) (fun c6 => ?_)
    ·
      have p7 := of_decide_eq_true c6
      refine k_seq ?_
      refine k_reg ?_
      refine s_lt (t_pure (.pointer (some ⟨g1, 4, none⟩))) ?_
      refine s_lt (t_load 1 (.int .i64 v.ref)) ?_
      refine s_lt (t_pure (.pointer (some ⟨g2, 4, none⟩))) ?_
      refine s_store 0 #[.int .i64 v.kind, .int .i64 0, .int .i64 0, .string ByteArray.empty, .int .i64 v.ref] ?_
      refine s_nil ?_
      refine xs_then ?_
      refine k_reg ?_
      refine s_lt (t_pure (.pointer (some ⟨g1, 4, none⟩))) ?_
      refine s_lt (t_load 1 (.int .i64 v.ref)) ?_
      refine s_lt t_cmp ?_
      refine s_lt (t_pure (.bool (decide (v.ref = 0)))) ?_
      refine s_fork 20 (decide (v.ref = 0)) (fun c8 => ?_) (fun c8 => ?_)
      ·
        have p9 := of_decide_eq_true c8
        refine s_skip ?_
        refine s_skip ?_
        refine s_skip ?_
        refine s_lt (t_pure (.bool true)) ?_
        refine s_lt (t_pure (.bool true)) ?_
        refine s_nil ?_
        refine xs_block ?_
        refine xs_then ?_
        refine k_seq ?_
        refine k_reg ?_
        refine s_lt (t_pure (.bool true)) ?_
        refine s_lt (t_pure (.bool true)) ?_
        refine s_lt (t_loadA 1 #[.int .i64 v.kind, .int .i64 v.p, .int .i64 v.q, .string v.str, .int .i64 v.ref]) ?_
        refine s_lt (t_loadA 0 #[.int .i64 v.kind, .int .i64 0, .int .i64 0, .string ByteArray.empty, .int .i64 v.ref]) ?_
        refine s_lt (t_eqS (fun w => (eqVlT v (⟨v.kind, 0, 0, ByteArray.empty, v.ref⟩ : Vl) w).1)) ?_
        refine s_lt (t_pure (.bool (decide (v = (⟨v.kind, 0, 0, ByteArray.empty, v.ref⟩ : Vl))))) ?_
        refine s_lt (t_pure (.bool (decide (v = (⟨v.kind, 0, 0, ByteArray.empty, v.ref⟩ : Vl))))) ?_
        refine s_nil ?_
        refine xs_then ?_
        refine k_ret ?_
        refine xs_fin [.bool (decide (v = (⟨v.kind, 0, 0, ByteArray.empty, v.ref⟩ : Vl)))] [] (SI.tmp 2 SI.nil) (fun _ h => h.re [] [0, 0]) ⟨?_, rfl⟩
        refine congrArg Value.bool ?_
        first | (simp [validB, p5, p7, p9]; done) | (rw [Bool.and_comm]; simp [validB, p5, p7, p9]; done) | (rw [Bool.eq_iff_iff]; simp [validB, p5, p7, p9, and_comm, and_left_comm, and_assoc]; done)
      ·
        have p10 := of_decide_eq_false c8
        refine s_lt (t_pure (.pointer (some ⟨g1, 4, none⟩))) ?_
        refine s_lt (t_load 1 (.int .i64 v.ref)) ?_
        refine s_lt t_cmp ?_
        refine s_lt (t_pure (.bool (decide (v.ref = 1)))) ?_
        refine s_lt (t_pure (.bool (decide (v.ref = 1)))) ?_
        refine s_nil ?_
        refine xs_block ?_
        refine xs_then ?_
        refine k_cut (ι := Unit) (fun _ => True) (fun _ => [(2, .bool ((decide (v.ref = 1)) && (decide (v = (⟨v.kind, 0, 0, ByteArray.empty, v.ref⟩ : Vl)))))]) (fun _ => [blkA g2 #[.int .i64 v.kind, .int .i64 0, .int .i64 0, .string ByteArray.empty, .int .i64 v.ref] 32, blkA g1 #[.int .i64 v.kind, .int .i64 v.p, .int .i64 v.q, .string v.str, .int .i64 v.ref] 32]) ?_ (fun _ _ => ?_)
        ·
          refine k_reg ?_
          refine s_lt (t_pure (.bool (decide (v.ref = 1)))) ?_
          refine s_lt (t_pure (.bool (decide (v.ref = 1)))) ?_
          refine s_fork 69 (decide (v.ref = 1)) (fun c11 => ?_) (fun c11 => ?_)
          ·
            have p12 := of_decide_eq_true c11
            refine s_lt (t_loadA 1 #[.int .i64 v.kind, .int .i64 v.p, .int .i64 v.q, .string v.str, .int .i64 v.ref]) ?_
            refine s_lt (t_loadA 0 #[.int .i64 v.kind, .int .i64 0, .int .i64 0, .string ByteArray.empty, .int .i64 v.ref]) ?_
            refine s_lt (t_eqS (fun w => (eqVlT v (⟨v.kind, 0, 0, ByteArray.empty, v.ref⟩ : Vl) w).1)) ?_
            refine s_lt (t_pure (.bool (decide (v = (⟨v.kind, 0, 0, ByteArray.empty, v.ref⟩ : Vl))))) ?_
            refine s_lt (t_pure (.bool (decide (v = (⟨v.kind, 0, 0, ByteArray.empty, v.ref⟩ : Vl))))) ?_
            refine s_nil ?_
            exact xs_cut () trivial (sub_of rfl ⟨⟨rfl, show Value.bool (decide (v = (⟨v.kind, 0, 0, ByteArray.empty, v.ref⟩ : Vl))) = Value.bool ((decide (v.ref = 1)) && (decide (v = (⟨v.kind, 0, 0, ByteArray.empty, v.ref⟩ : Vl)))) by simp [c11]⟩, trivial⟩) (fun _ h => h.re [] [])
          ·
            have p13 := of_decide_eq_false c11
            refine s_skip ?_
            refine s_skip ?_
            refine s_skip ?_
            refine s_lt (t_pure (.bool false)) ?_
            refine s_lt (t_pure (.bool false)) ?_
            refine s_nil ?_
            exact xs_cut () trivial (sub_of rfl ⟨⟨rfl, show Value.bool false = Value.bool ((decide (v.ref = 1)) && (decide (v = (⟨v.kind, 0, 0, ByteArray.empty, v.ref⟩ : Vl)))) by simp [c11]⟩, trivial⟩) (fun _ h => h.re [] [])
        ·
          refine k_ret ?_
          refine xs_fin [.bool ((decide (v.ref = 1)) && (decide (v = (⟨v.kind, 0, 0, ByteArray.empty, v.ref⟩ : Vl))))] [] (SI.tmp 2 SI.nil) (fun _ h => h.re [] [0, 0]) ⟨?_, rfl⟩
          refine congrArg Value.bool ?_
          first | (simp [validB, p5, p7, p10]; done) | (rw [Bool.and_comm]; simp [validB, p5, p7, p10]; done) | (rw [Bool.eq_iff_iff]; simp [validB, p5, p7, p10, and_comm, and_left_comm, and_assoc]; done)
    ·
      have p14 := of_decide_eq_false c6
      refine k_seq ?_
      refine k_reg ?_
      refine s_lt t_cmp ?_
      refine s_lt (t_pure (.bool (decide (v.kind = 2)))) ?_
      refine s_nil ?_
      refine xs_then ?_
      refine k_cond (decide (v.kind = 2)) (fun c15 => ?_) (fun c15 => ?_)
      ·
        have p16 := of_decide_eq_true c15
        refine k_seq ?_
        refine k_reg ?_
        refine s_lt (t_pure (.pointer (some ⟨g1, 1, none⟩))) ?_
        refine s_lt (t_loadA 1 #[.int .i64 v.p, .int .i64 v.q]) ?_
        refine s_lt (t_pure (.pointer (some ⟨g2, 1, none⟩))) ?_
        refine s_store 0 #[.int .i64 v.kind, .int .i64 v.p, .int .i64 v.q, .string ByteArray.empty, .int .i64 0] ?_
        refine s_nil ?_
        refine xs_then ?_
        refine k_reg ?_
        refine s_lt (t_pure (.pointer (some ⟨g1, 1, none⟩))) ?_
        refine s_lt (t_loadA 1 #[.int .i64 v.p, .int .i64 v.q]) ?_
        refine s_vcall (fun _ h => vnum_s v.p v.q) ?_
        rintro _ rfl
        refine s_lt (t_pure (.bool (validN v.p v.q))) ?_
        refine s_nil ?_
        refine xs_block ?_
        refine xs_then ?_
        refine k_cut (ι := Unit) (fun _ => True) (fun _ => [(2, .bool ((validN v.p v.q) && (decide (v = (⟨v.kind, v.p, v.q, ByteArray.empty, 0⟩ : Vl)))))]) (fun _ => [blkA g2 #[.int .i64 v.kind, .int .i64 v.p, .int .i64 v.q, .string ByteArray.empty, .int .i64 0] 32, blkA g1 #[.int .i64 v.kind, .int .i64 v.p, .int .i64 v.q, .string v.str, .int .i64 v.ref] 32]) ?_ (fun _ _ => ?_)
        ·
          refine k_reg ?_
          refine s_lt (t_pure (.bool (validN v.p v.q))) ?_
          refine s_lt (t_pure (.bool (validN v.p v.q))) ?_
          refine s_fork 69 (validN v.p v.q) (fun c17 => ?_) (fun c17 => ?_)
          ·
            refine s_lt (t_loadA 1 #[.int .i64 v.kind, .int .i64 v.p, .int .i64 v.q, .string v.str, .int .i64 v.ref]) ?_
            refine s_lt (t_loadA 0 #[.int .i64 v.kind, .int .i64 v.p, .int .i64 v.q, .string ByteArray.empty, .int .i64 0]) ?_
            refine s_lt (t_eqS (fun w => (eqVlT v (⟨v.kind, v.p, v.q, ByteArray.empty, 0⟩ : Vl) w).1)) ?_
            refine s_lt (t_pure (.bool (decide (v = (⟨v.kind, v.p, v.q, ByteArray.empty, 0⟩ : Vl))))) ?_
            refine s_lt (t_pure (.bool (decide (v = (⟨v.kind, v.p, v.q, ByteArray.empty, 0⟩ : Vl))))) ?_
            refine s_nil ?_
            exact xs_cut () trivial (sub_of rfl ⟨⟨rfl, show Value.bool (decide (v = (⟨v.kind, v.p, v.q, ByteArray.empty, 0⟩ : Vl))) = Value.bool ((validN v.p v.q) && (decide (v = (⟨v.kind, v.p, v.q, ByteArray.empty, 0⟩ : Vl)))) by simp [c17]⟩, trivial⟩) (fun _ h => h.re [] [])
          ·
            refine s_skip ?_
            refine s_skip ?_
            refine s_skip ?_
            refine s_lt (t_pure (.bool false)) ?_
            refine s_lt (t_pure (.bool false)) ?_
            refine s_nil ?_
            exact xs_cut () trivial (sub_of rfl ⟨⟨rfl, show Value.bool false = Value.bool ((validN v.p v.q) && (decide (v = (⟨v.kind, v.p, v.q, ByteArray.empty, 0⟩ : Vl)))) by simp [c17]⟩, trivial⟩) (fun _ h => h.re [] [])
        ·
          refine k_ret ?_
          refine xs_fin [.bool ((validN v.p v.q) && (decide (v = (⟨v.kind, v.p, v.q, ByteArray.empty, 0⟩ : Vl))))] [] (SI.tmp 2 SI.nil) (fun _ h => h.re [] [0, 0]) ⟨?_, rfl⟩
          refine congrArg Value.bool ?_
          first | (simp [validB, p5, p14, p16]; done) | (rw [Bool.and_comm]; simp [validB, p5, p14, p16]; done) | (rw [Bool.eq_iff_iff]; simp [validB, p5, p14, p16, and_comm, and_left_comm, and_assoc]; done)
      ·
        have p18 := of_decide_eq_false c15
        refine k_seq ?_
        refine k_reg ?_
        refine s_lt t_cmp ?_
        refine s_lt (t_pure (.bool (decide (v.kind = 3)))) ?_
        refine s_nil ?_
        refine xs_then ?_
        refine k_cond (decide (v.kind = 3)) (fun c19 => ?_) (fun c19 => ?_)
        ·
          have p20 := of_decide_eq_true c19
          refine k_seq ?_
          refine k_reg ?_
          refine s_lt (t_pure (.pointer (some ⟨g1, 3, none⟩))) ?_
          refine s_lt (t_load 1 (.string v.str)) ?_
          refine s_lt (t_pure (.pointer (some ⟨g2, 3, none⟩))) ?_
          refine s_store 0 #[.int .i64 v.kind, .int .i64 0, .int .i64 0, .string v.str, .int .i64 0] ?_
          refine s_nil ?_
          refine xs_then ?_
          refine k_reg ?_
          refine s_lt (t_pure (.pointer (some ⟨g1, 3, none⟩))) ?_
          refine s_lt (t_load 1 (.string v.str)) ?_
          refine s_lt (t_kern (.int .i64 (v.str.size : Int))) ?_
          refine s_lt t_cmp ?_
          refine s_lt (t_pure (.bool (decide ((v.str.size : Int) ≤ 4096)))) ?_
          refine s_nil ?_
          refine xs_block ?_
          refine xs_then ?_
          refine k_cut (ι := Unit) (fun _ => True) (fun _ => [(2, .bool ((decide ((v.str.size : Int) ≤ 4096)) && (decide (v = (⟨v.kind, 0, 0, v.str, 0⟩ : Vl)))))]) (fun _ => [blkA g2 #[.int .i64 v.kind, .int .i64 0, .int .i64 0, .string v.str, .int .i64 0] 32, blkA g1 #[.int .i64 v.kind, .int .i64 v.p, .int .i64 v.q, .string v.str, .int .i64 v.ref] 32]) ?_ (fun _ _ => ?_)
          ·
            refine k_reg ?_
            refine s_lt (t_pure (.bool (decide ((v.str.size : Int) ≤ 4096)))) ?_
            refine s_lt (t_pure (.bool (decide ((v.str.size : Int) ≤ 4096)))) ?_
            refine s_fork 69 (decide ((v.str.size : Int) ≤ 4096)) (fun c21 => ?_) (fun c21 => ?_)
            ·
              have p22 := of_decide_eq_true c21
              refine s_lt (t_loadA 1 #[.int .i64 v.kind, .int .i64 v.p, .int .i64 v.q, .string v.str, .int .i64 v.ref]) ?_
              refine s_lt (t_loadA 0 #[.int .i64 v.kind, .int .i64 0, .int .i64 0, .string v.str, .int .i64 0]) ?_
              refine s_lt (t_eqS (fun w => (eqVlT v (⟨v.kind, 0, 0, v.str, 0⟩ : Vl) w).1)) ?_
              refine s_lt (t_pure (.bool (decide (v = (⟨v.kind, 0, 0, v.str, 0⟩ : Vl))))) ?_
              refine s_lt (t_pure (.bool (decide (v = (⟨v.kind, 0, 0, v.str, 0⟩ : Vl))))) ?_
              refine s_nil ?_
              exact xs_cut () trivial (sub_of rfl ⟨⟨rfl, show Value.bool (decide (v = (⟨v.kind, 0, 0, v.str, 0⟩ : Vl))) = Value.bool ((decide ((v.str.size : Int) ≤ 4096)) && (decide (v = (⟨v.kind, 0, 0, v.str, 0⟩ : Vl)))) by simp [c21]⟩, trivial⟩) (fun _ h => h.re [] [])
            ·
              have p23 := of_decide_eq_false c21
              refine s_skip ?_
              refine s_skip ?_
              refine s_skip ?_
              refine s_lt (t_pure (.bool false)) ?_
              refine s_lt (t_pure (.bool false)) ?_
              refine s_nil ?_
              exact xs_cut () trivial (sub_of rfl ⟨⟨rfl, show Value.bool false = Value.bool ((decide ((v.str.size : Int) ≤ 4096)) && (decide (v = (⟨v.kind, 0, 0, v.str, 0⟩ : Vl)))) by simp [c21]⟩, trivial⟩) (fun _ h => h.re [] [])
          ·
            refine k_ret ?_
            refine xs_fin [.bool ((decide ((v.str.size : Int) ≤ 4096)) && (decide (v = (⟨v.kind, 0, 0, v.str, 0⟩ : Vl))))] [] (SI.tmp 2 SI.nil) (fun _ h => h.re [] [0, 0]) ⟨?_, rfl⟩
            refine congrArg Value.bool ?_
            first | (simp [validB, p5, p14, p18, p20]; done) | (rw [Bool.and_comm]; simp [validB, p5, p14, p18, p20]; done) | (rw [Bool.eq_iff_iff]; simp [validB, p5, p14, p18, p20, and_comm, and_left_comm, and_assoc]; done)
        ·
          have p24 := of_decide_eq_false c19
          refine k_seq ?_
          refine k_seq ?_
          refine k_reg ?_
          refine s_lt t_cmp ?_
          refine s_lt (t_pure (.bool (decide (v.kind = 4)))) ?_
          refine s_nil ?_
          refine xs_then ?_
          refine k_cond (decide (v.kind = 4)) (fun c25 => ?_) (fun c25 => ?_)
          ·
            have p26 := of_decide_eq_true c25
            refine k_skip ?_
            refine xs_then ?_
            refine k_true (hv := congrArg Value.bool c25) ?_
            refine k_seq ?_
            refine k_reg ?_
            refine s_lt (t_pure (.pointer (some ⟨g1, 4, none⟩))) ?_
            refine s_lt (t_load 1 (.int .i64 v.ref)) ?_
            refine s_lt (t_pure (.pointer (some ⟨g2, 4, none⟩))) ?_
            refine s_store 0 #[.int .i64 v.kind, .int .i64 0, .int .i64 0, .string ByteArray.empty, .int .i64 v.ref] ?_
            refine s_nil ?_
            refine xs_then ?_
            refine k_reg ?_
            refine s_lt (t_pure (.pointer (some ⟨g1, 4, none⟩))) ?_
            refine s_lt (t_load 1 (.int .i64 v.ref)) ?_
            refine s_lt t_cmp ?_
            refine s_lt (t_pure (.bool (decide ((1 : Int) ≤ v.ref)))) ?_
            refine s_nil ?_
            refine xs_block ?_
            refine xs_then ?_
            refine k_cut (ι := Unit) (fun _ => True) (fun _ => [(2, .bool ((decide ((1 : Int) ≤ v.ref)) && (decide (v = (⟨v.kind, 0, 0, ByteArray.empty, v.ref⟩ : Vl)))))]) (fun _ => [blkA g2 #[.int .i64 v.kind, .int .i64 0, .int .i64 0, .string ByteArray.empty, .int .i64 v.ref] 32, blkA g1 #[.int .i64 v.kind, .int .i64 v.p, .int .i64 v.q, .string v.str, .int .i64 v.ref] 32]) ?_ (fun _ _ => ?_)
            ·
              refine k_reg ?_
              refine s_lt (t_pure (.bool (decide ((1 : Int) ≤ v.ref)))) ?_
              refine s_lt (t_pure (.bool (decide ((1 : Int) ≤ v.ref)))) ?_
              refine s_fork 69 (decide ((1 : Int) ≤ v.ref)) (fun c27 => ?_) (fun c27 => ?_)
              ·
                have p28 := of_decide_eq_true c27
                refine s_lt (t_loadA 1 #[.int .i64 v.kind, .int .i64 v.p, .int .i64 v.q, .string v.str, .int .i64 v.ref]) ?_
                refine s_lt (t_loadA 0 #[.int .i64 v.kind, .int .i64 0, .int .i64 0, .string ByteArray.empty, .int .i64 v.ref]) ?_
                refine s_lt (t_eqS (fun w => (eqVlT v (⟨v.kind, 0, 0, ByteArray.empty, v.ref⟩ : Vl) w).1)) ?_
                refine s_lt (t_pure (.bool (decide (v = (⟨v.kind, 0, 0, ByteArray.empty, v.ref⟩ : Vl))))) ?_
                refine s_lt (t_pure (.bool (decide (v = (⟨v.kind, 0, 0, ByteArray.empty, v.ref⟩ : Vl))))) ?_
                refine s_nil ?_
                exact xs_cut () trivial (sub_of rfl ⟨⟨rfl, show Value.bool (decide (v = (⟨v.kind, 0, 0, ByteArray.empty, v.ref⟩ : Vl))) = Value.bool ((decide ((1 : Int) ≤ v.ref)) && (decide (v = (⟨v.kind, 0, 0, ByteArray.empty, v.ref⟩ : Vl)))) by simp [c27]⟩, trivial⟩) (fun _ h => h.re [] [])
              ·
                have p29 := of_decide_eq_false c27
                refine s_skip ?_
                refine s_skip ?_
                refine s_skip ?_
                refine s_lt (t_pure (.bool false)) ?_
                refine s_lt (t_pure (.bool false)) ?_
                refine s_nil ?_
                exact xs_cut () trivial (sub_of rfl ⟨⟨rfl, show Value.bool false = Value.bool ((decide ((1 : Int) ≤ v.ref)) && (decide (v = (⟨v.kind, 0, 0, ByteArray.empty, v.ref⟩ : Vl)))) by simp [c27]⟩, trivial⟩) (fun _ h => h.re [] [])
            ·
              refine k_ret ?_
              refine xs_fin [.bool ((decide ((1 : Int) ≤ v.ref)) && (decide (v = (⟨v.kind, 0, 0, ByteArray.empty, v.ref⟩ : Vl))))] [] (SI.tmp 2 SI.nil) (fun _ h => h.re [] [0, 0]) ⟨?_, rfl⟩
              refine congrArg Value.bool ?_
              first | (simp [validB, p5, p14, p18, p24, p26]; done) | (rw [Bool.and_comm]; simp [validB, p5, p14, p18, p24, p26]; done) | (rw [Bool.eq_iff_iff]; simp [validB, p5, p14, p18, p24, p26, and_comm, and_left_comm, and_assoc]; done)
          ·
            have p30 := of_decide_eq_false c25
            refine k_seq ?_
            refine k_reg ?_
            refine s_lt t_cmp ?_
            refine s_lt (t_pure (.bool (decide (v.kind = 5)))) ?_
            refine s_nil ?_
            refine xs_then ?_
            refine k_cond (decide (v.kind = 5)) (fun c31 => ?_) (fun c31 => ?_)
            ·
              have p32 := of_decide_eq_true c31
              refine k_skip ?_
              refine xs_then ?_
              refine k_true (hv := congrArg Value.bool c31) ?_
              refine k_seq ?_
              refine k_reg ?_
              refine s_lt (t_pure (.pointer (some ⟨g1, 4, none⟩))) ?_
              refine s_lt (t_load 1 (.int .i64 v.ref)) ?_
              refine s_lt (t_pure (.pointer (some ⟨g2, 4, none⟩))) ?_
              refine s_store 0 #[.int .i64 v.kind, .int .i64 0, .int .i64 0, .string ByteArray.empty, .int .i64 v.ref] ?_
              refine s_nil ?_
              refine xs_then ?_
              refine k_reg ?_
              refine s_lt (t_pure (.pointer (some ⟨g1, 4, none⟩))) ?_
              refine s_lt (t_load 1 (.int .i64 v.ref)) ?_
              refine s_lt t_cmp ?_
              refine s_lt (t_pure (.bool (decide ((1 : Int) ≤ v.ref)))) ?_
              refine s_nil ?_
              refine xs_block ?_
              refine xs_then ?_
              refine k_cut (ι := Unit) (fun _ => True) (fun _ => [(2, .bool ((decide ((1 : Int) ≤ v.ref)) && (decide (v = (⟨v.kind, 0, 0, ByteArray.empty, v.ref⟩ : Vl)))))]) (fun _ => [blkA g2 #[.int .i64 v.kind, .int .i64 0, .int .i64 0, .string ByteArray.empty, .int .i64 v.ref] 32, blkA g1 #[.int .i64 v.kind, .int .i64 v.p, .int .i64 v.q, .string v.str, .int .i64 v.ref] 32]) ?_ (fun _ _ => ?_)
              ·
                refine k_reg ?_
                refine s_lt (t_pure (.bool (decide ((1 : Int) ≤ v.ref)))) ?_
                refine s_lt (t_pure (.bool (decide ((1 : Int) ≤ v.ref)))) ?_
                refine s_fork 69 (decide ((1 : Int) ≤ v.ref)) (fun c33 => ?_) (fun c33 => ?_)
                ·
                  have p34 := of_decide_eq_true c33
                  refine s_lt (t_loadA 1 #[.int .i64 v.kind, .int .i64 v.p, .int .i64 v.q, .string v.str, .int .i64 v.ref]) ?_
                  refine s_lt (t_loadA 0 #[.int .i64 v.kind, .int .i64 0, .int .i64 0, .string ByteArray.empty, .int .i64 v.ref]) ?_
                  refine s_lt (t_eqS (fun w => (eqVlT v (⟨v.kind, 0, 0, ByteArray.empty, v.ref⟩ : Vl) w).1)) ?_
                  refine s_lt (t_pure (.bool (decide (v = (⟨v.kind, 0, 0, ByteArray.empty, v.ref⟩ : Vl))))) ?_
                  refine s_lt (t_pure (.bool (decide (v = (⟨v.kind, 0, 0, ByteArray.empty, v.ref⟩ : Vl))))) ?_
                  refine s_nil ?_
                  exact xs_cut () trivial (sub_of rfl ⟨⟨rfl, show Value.bool (decide (v = (⟨v.kind, 0, 0, ByteArray.empty, v.ref⟩ : Vl))) = Value.bool ((decide ((1 : Int) ≤ v.ref)) && (decide (v = (⟨v.kind, 0, 0, ByteArray.empty, v.ref⟩ : Vl)))) by simp [c33]⟩, trivial⟩) (fun _ h => h.re [] [])
                ·
                  have p35 := of_decide_eq_false c33
                  refine s_skip ?_
                  refine s_skip ?_
                  refine s_skip ?_
                  refine s_lt (t_pure (.bool false)) ?_
                  refine s_lt (t_pure (.bool false)) ?_
                  refine s_nil ?_
                  exact xs_cut () trivial (sub_of rfl ⟨⟨rfl, show Value.bool false = Value.bool ((decide ((1 : Int) ≤ v.ref)) && (decide (v = (⟨v.kind, 0, 0, ByteArray.empty, v.ref⟩ : Vl)))) by simp [c33]⟩, trivial⟩) (fun _ h => h.re [] [])
              ·
                refine k_ret ?_
                refine xs_fin [.bool ((decide ((1 : Int) ≤ v.ref)) && (decide (v = (⟨v.kind, 0, 0, ByteArray.empty, v.ref⟩ : Vl))))] [] (SI.tmp 2 SI.nil) (fun _ h => h.re [] [0, 0]) ⟨?_, rfl⟩
                refine congrArg Value.bool ?_
                first | (simp [validB, p5, p14, p18, p24, p30, p32]; done) | (rw [Bool.and_comm]; simp [validB, p5, p14, p18, p24, p30, p32]; done) | (rw [Bool.eq_iff_iff]; simp [validB, p5, p14, p18, p24, p30, p32, and_comm, and_left_comm, and_assoc]; done)
            ·
              have p36 := of_decide_eq_false c31
              refine k_seq ?_
              refine k_reg ?_
              refine s_lt t_cmp ?_
              refine s_lt (t_pure (.bool (decide (v.kind = 7)))) ?_
              refine s_nil ?_
              refine xs_then ?_
              refine k_cond (decide (v.kind = 7)) (fun c37 => ?_) (fun c37 => ?_)
              ·
                have p38 := of_decide_eq_true c37
                refine k_skip ?_
                refine xs_then ?_
                refine k_true (hv := congrArg Value.bool c37) ?_
                refine k_seq ?_
                refine k_reg ?_
                refine s_lt (t_pure (.pointer (some ⟨g1, 4, none⟩))) ?_
                refine s_lt (t_load 1 (.int .i64 v.ref)) ?_
                refine s_lt (t_pure (.pointer (some ⟨g2, 4, none⟩))) ?_
                refine s_store 0 #[.int .i64 v.kind, .int .i64 0, .int .i64 0, .string ByteArray.empty, .int .i64 v.ref] ?_
                refine s_nil ?_
                refine xs_then ?_
                refine k_reg ?_
                refine s_lt (t_pure (.pointer (some ⟨g1, 4, none⟩))) ?_
                refine s_lt (t_load 1 (.int .i64 v.ref)) ?_
                refine s_lt t_cmp ?_
                refine s_lt (t_pure (.bool (decide ((1 : Int) ≤ v.ref)))) ?_
                refine s_nil ?_
                refine xs_block ?_
                refine xs_then ?_
                refine k_cut (ι := Unit) (fun _ => True) (fun _ => [(2, .bool ((decide ((1 : Int) ≤ v.ref)) && (decide (v = (⟨v.kind, 0, 0, ByteArray.empty, v.ref⟩ : Vl)))))]) (fun _ => [blkA g2 #[.int .i64 v.kind, .int .i64 0, .int .i64 0, .string ByteArray.empty, .int .i64 v.ref] 32, blkA g1 #[.int .i64 v.kind, .int .i64 v.p, .int .i64 v.q, .string v.str, .int .i64 v.ref] 32]) ?_ (fun _ _ => ?_)
                ·
                  refine k_reg ?_
                  refine s_lt (t_pure (.bool (decide ((1 : Int) ≤ v.ref)))) ?_
                  refine s_lt (t_pure (.bool (decide ((1 : Int) ≤ v.ref)))) ?_
                  refine s_fork 69 (decide ((1 : Int) ≤ v.ref)) (fun c39 => ?_) (fun c39 => ?_)
                  ·
                    have p40 := of_decide_eq_true c39
                    refine s_lt (t_loadA 1 #[.int .i64 v.kind, .int .i64 v.p, .int .i64 v.q, .string v.str, .int .i64 v.ref]) ?_
                    refine s_lt (t_loadA 0 #[.int .i64 v.kind, .int .i64 0, .int .i64 0, .string ByteArray.empty, .int .i64 v.ref]) ?_
                    refine s_lt (t_eqS (fun w => (eqVlT v (⟨v.kind, 0, 0, ByteArray.empty, v.ref⟩ : Vl) w).1)) ?_
                    refine s_lt (t_pure (.bool (decide (v = (⟨v.kind, 0, 0, ByteArray.empty, v.ref⟩ : Vl))))) ?_
                    refine s_lt (t_pure (.bool (decide (v = (⟨v.kind, 0, 0, ByteArray.empty, v.ref⟩ : Vl))))) ?_
                    refine s_nil ?_
                    exact xs_cut () trivial (sub_of rfl ⟨⟨rfl, show Value.bool (decide (v = (⟨v.kind, 0, 0, ByteArray.empty, v.ref⟩ : Vl))) = Value.bool ((decide ((1 : Int) ≤ v.ref)) && (decide (v = (⟨v.kind, 0, 0, ByteArray.empty, v.ref⟩ : Vl)))) by simp [c39]⟩, trivial⟩) (fun _ h => h.re [] [])
                  ·
                    have p41 := of_decide_eq_false c39
                    refine s_skip ?_
                    refine s_skip ?_
                    refine s_skip ?_
                    refine s_lt (t_pure (.bool false)) ?_
                    refine s_lt (t_pure (.bool false)) ?_
                    refine s_nil ?_
                    exact xs_cut () trivial (sub_of rfl ⟨⟨rfl, show Value.bool false = Value.bool ((decide ((1 : Int) ≤ v.ref)) && (decide (v = (⟨v.kind, 0, 0, ByteArray.empty, v.ref⟩ : Vl)))) by simp [c39]⟩, trivial⟩) (fun _ h => h.re [] [])
                ·
                  refine k_ret ?_
                  refine xs_fin [.bool ((decide ((1 : Int) ≤ v.ref)) && (decide (v = (⟨v.kind, 0, 0, ByteArray.empty, v.ref⟩ : Vl))))] [] (SI.tmp 2 SI.nil) (fun _ h => h.re [] [0, 0]) ⟨?_, rfl⟩
                  refine congrArg Value.bool ?_
                  first | (simp [validB, p5, p14, p18, p24, p30, p36, p38]; done) | (rw [Bool.and_comm]; simp [validB, p5, p14, p18, p24, p30, p36, p38]; done) | (rw [Bool.eq_iff_iff]; simp [validB, p5, p14, p18, p24, p30, p36, p38, and_comm, and_left_comm, and_assoc]; done)
              ·
                have p42 := of_decide_eq_false c37
                refine k_reg ?_
                refine s_lt t_cmp ?_
                refine s_lt (t_pure (.bool (decide (v.kind = 8)))) ?_
                refine s_nil ?_
                refine xs_then ?_
                refine k_cond (decide (v.kind = 8)) (fun c43 => ?_) (fun c43 => ?_)
                ·
                  have p44 := of_decide_eq_true c43
                  refine k_seq ?_
                  refine k_reg ?_
                  refine s_lt (t_pure (.pointer (some ⟨g1, 4, none⟩))) ?_
                  refine s_lt (t_load 1 (.int .i64 v.ref)) ?_
                  refine s_lt (t_pure (.pointer (some ⟨g2, 4, none⟩))) ?_
                  refine s_store 0 #[.int .i64 v.kind, .int .i64 0, .int .i64 0, .string ByteArray.empty, .int .i64 v.ref] ?_
                  refine s_nil ?_
                  refine xs_then ?_
                  refine k_reg ?_
                  refine s_lt (t_pure (.pointer (some ⟨g1, 4, none⟩))) ?_
                  refine s_lt (t_load 1 (.int .i64 v.ref)) ?_
                  refine s_lt t_cmp ?_
                  refine s_lt (t_pure (.bool (decide ((1 : Int) ≤ v.ref)))) ?_
                  refine s_nil ?_
                  refine xs_block ?_
                  refine xs_then ?_
                  refine k_cut (ι := Unit) (fun _ => True) (fun _ => [(2, .bool ((decide ((1 : Int) ≤ v.ref)) && (decide (v = (⟨v.kind, 0, 0, ByteArray.empty, v.ref⟩ : Vl)))))]) (fun _ => [blkA g2 #[.int .i64 v.kind, .int .i64 0, .int .i64 0, .string ByteArray.empty, .int .i64 v.ref] 32, blkA g1 #[.int .i64 v.kind, .int .i64 v.p, .int .i64 v.q, .string v.str, .int .i64 v.ref] 32]) ?_ (fun _ _ => ?_)
                  ·
                    refine k_reg ?_
                    refine s_lt (t_pure (.bool (decide ((1 : Int) ≤ v.ref)))) ?_
                    refine s_lt (t_pure (.bool (decide ((1 : Int) ≤ v.ref)))) ?_
                    refine s_fork 69 (decide ((1 : Int) ≤ v.ref)) (fun c45 => ?_) (fun c45 => ?_)
                    ·
                      have p46 := of_decide_eq_true c45
                      refine s_lt (t_loadA 1 #[.int .i64 v.kind, .int .i64 v.p, .int .i64 v.q, .string v.str, .int .i64 v.ref]) ?_
                      refine s_lt (t_loadA 0 #[.int .i64 v.kind, .int .i64 0, .int .i64 0, .string ByteArray.empty, .int .i64 v.ref]) ?_
                      refine s_lt (t_eqS (fun w => (eqVlT v (⟨v.kind, 0, 0, ByteArray.empty, v.ref⟩ : Vl) w).1)) ?_
                      refine s_lt (t_pure (.bool (decide (v = (⟨v.kind, 0, 0, ByteArray.empty, v.ref⟩ : Vl))))) ?_
                      refine s_lt (t_pure (.bool (decide (v = (⟨v.kind, 0, 0, ByteArray.empty, v.ref⟩ : Vl))))) ?_
                      refine s_nil ?_
                      exact xs_cut () trivial (sub_of rfl ⟨⟨rfl, show Value.bool (decide (v = (⟨v.kind, 0, 0, ByteArray.empty, v.ref⟩ : Vl))) = Value.bool ((decide ((1 : Int) ≤ v.ref)) && (decide (v = (⟨v.kind, 0, 0, ByteArray.empty, v.ref⟩ : Vl)))) by simp [c45]⟩, trivial⟩) (fun _ h => h.re [] [])
                    ·
                      have p47 := of_decide_eq_false c45
                      refine s_skip ?_
                      refine s_skip ?_
                      refine s_skip ?_
                      refine s_lt (t_pure (.bool false)) ?_
                      refine s_lt (t_pure (.bool false)) ?_
                      refine s_nil ?_
                      exact xs_cut () trivial (sub_of rfl ⟨⟨rfl, show Value.bool false = Value.bool ((decide ((1 : Int) ≤ v.ref)) && (decide (v = (⟨v.kind, 0, 0, ByteArray.empty, v.ref⟩ : Vl)))) by simp [c45]⟩, trivial⟩) (fun _ h => h.re [] [])
                  ·
                    refine k_ret ?_
                    refine xs_fin [.bool ((decide ((1 : Int) ≤ v.ref)) && (decide (v = (⟨v.kind, 0, 0, ByteArray.empty, v.ref⟩ : Vl))))] [] (SI.tmp 2 SI.nil) (fun _ h => h.re [] [0, 0]) ⟨?_, rfl⟩
                    refine congrArg Value.bool ?_
                    first | (simp [validB, p5, p14, p18, p24, p30, p36, p42, p44]; done) | (rw [Bool.and_comm]; simp [validB, p5, p14, p18, p24, p30, p36, p42, p44]; done) | (rw [Bool.eq_iff_iff]; simp [validB, p5, p14, p18, p24, p30, p36, p42, p44, and_comm, and_left_comm, and_assoc]; done)
                ·
                  have p48 := of_decide_eq_false c43
                  refine k_seq ?_
                  refine k_reg ?_
                  refine s_lt t_cmp ?_
                  refine s_lt (t_pure (.bool (decide (v.kind = 6)))) ?_
                  refine s_nil ?_
                  refine xs_then ?_
                  refine k_cond (decide (v.kind = 6)) (fun c49 => ?_) (fun c49 => ?_)
                  ·
                    have p50 := of_decide_eq_true c49
                    refine k_seq ?_
                    refine k_reg ?_
                    refine s_lt (t_pure (.pointer (some ⟨g1, 3, none⟩))) ?_
                    refine s_lt (t_load 1 (.string v.str)) ?_
                    refine s_lt (t_pure (.pointer (some ⟨g2, 3, none⟩))) ?_
                    refine s_store 0 #[.int .i64 v.kind, .int .i64 0, .int .i64 0, .string v.str, .int .i64 0] ?_
                    refine s_nil ?_
                    refine xs_then ?_
                    refine k_reg ?_
                    refine s_lt (t_pure (.pointer (some ⟨g1, 3, none⟩))) ?_
                    refine s_lt (t_load 1 (.string v.str)) ?_
                    refine s_lt (t_kern (.int .i64 (v.str.size : Int))) ?_
                    refine s_lt t_cmp ?_
                    refine s_lt (t_pure (.bool (decide ((1 : Int) ≤ (v.str.size : Int))))) ?_
                    refine s_fork 62 (decide ((1 : Int) ≤ (v.str.size : Int))) (fun c51 => ?_) (fun c51 => ?_)
                    ·
                      have p52 := of_decide_eq_true c51
                      refine s_lt (t_pure (.pointer (some ⟨g1, 3, none⟩))) ?_
                      refine s_lt (t_load 1 (.string v.str)) ?_
                      refine s_lt (t_kern (.int .i64 (v.str.size : Int))) ?_
                      refine s_lt t_cmp ?_
                      refine s_lt (t_pure (.bool (decide ((v.str.size : Int) ≤ 4096)))) ?_
                      refine s_lt (t_pure (.bool (decide ((v.str.size : Int) ≤ 4096)))) ?_
                      refine s_nil ?_
                      refine xs_block ?_
                      refine xs_then ?_
                      refine k_cut (ι := Unit) (fun _ => True) (fun _ => [(2, .bool ((decide ((v.str.size : Int) ≤ 4096)) && (decide (v = (⟨v.kind, 0, 0, v.str, 0⟩ : Vl)))))]) (fun _ => [blkA g2 #[.int .i64 v.kind, .int .i64 0, .int .i64 0, .string v.str, .int .i64 0] 32, blkA g1 #[.int .i64 v.kind, .int .i64 v.p, .int .i64 v.q, .string v.str, .int .i64 v.ref] 32]) ?_ (fun _ _ => ?_)
                      ·
                        refine k_reg ?_
                        refine s_lt (t_pure (.bool (decide ((v.str.size : Int) ≤ 4096)))) ?_
                        refine s_lt (t_pure (.bool (decide ((v.str.size : Int) ≤ 4096)))) ?_
                        refine s_fork 69 (decide ((v.str.size : Int) ≤ 4096)) (fun c53 => ?_) (fun c53 => ?_)
                        ·
                          have p54 := of_decide_eq_true c53
                          refine s_lt (t_loadA 1 #[.int .i64 v.kind, .int .i64 v.p, .int .i64 v.q, .string v.str, .int .i64 v.ref]) ?_
                          refine s_lt (t_loadA 0 #[.int .i64 v.kind, .int .i64 0, .int .i64 0, .string v.str, .int .i64 0]) ?_
                          refine s_lt (t_eqS (fun w => (eqVlT v (⟨v.kind, 0, 0, v.str, 0⟩ : Vl) w).1)) ?_
                          refine s_lt (t_pure (.bool (decide (v = (⟨v.kind, 0, 0, v.str, 0⟩ : Vl))))) ?_
                          refine s_lt (t_pure (.bool (decide (v = (⟨v.kind, 0, 0, v.str, 0⟩ : Vl))))) ?_
                          refine s_nil ?_
                          exact xs_cut () trivial (sub_of rfl ⟨⟨rfl, show Value.bool (decide (v = (⟨v.kind, 0, 0, v.str, 0⟩ : Vl))) = Value.bool ((decide ((v.str.size : Int) ≤ 4096)) && (decide (v = (⟨v.kind, 0, 0, v.str, 0⟩ : Vl)))) by simp [c53]⟩, trivial⟩) (fun _ h => h.re [] [])
                        ·
                          have p55 := of_decide_eq_false c53
                          refine s_skip ?_
                          refine s_skip ?_
                          refine s_skip ?_
                          refine s_lt (t_pure (.bool false)) ?_
                          refine s_lt (t_pure (.bool false)) ?_
                          refine s_nil ?_
                          exact xs_cut () trivial (sub_of rfl ⟨⟨rfl, show Value.bool false = Value.bool ((decide ((v.str.size : Int) ≤ 4096)) && (decide (v = (⟨v.kind, 0, 0, v.str, 0⟩ : Vl)))) by simp [c53]⟩, trivial⟩) (fun _ h => h.re [] [])
                      ·
                        refine k_ret ?_
                        refine xs_fin [.bool ((decide ((v.str.size : Int) ≤ 4096)) && (decide (v = (⟨v.kind, 0, 0, v.str, 0⟩ : Vl))))] [] (SI.tmp 2 SI.nil) (fun _ h => h.re [] [0, 0]) ⟨?_, rfl⟩
                        refine congrArg Value.bool ?_
                        first | (simp [validB, p5, p14, p18, p24, p30, p36, p42, p48, p50, p52]; done) | (rw [Bool.and_comm]; simp [validB, p5, p14, p18, p24, p30, p36, p42, p48, p50, p52]; done) | (rw [Bool.eq_iff_iff]; simp [validB, p5, p14, p18, p24, p30, p36, p42, p48, p50, p52, and_comm, and_left_comm, and_assoc]; done)
                    ·
                      have p56 := of_decide_eq_false c51
                      refine s_skip ?_
                      refine s_skip ?_
                      refine s_skip ?_
                      refine s_skip ?_
                      refine s_lt (t_pure (.bool false)) ?_
                      refine s_lt (t_pure (.bool false)) ?_
                      refine s_nil ?_
                      refine xs_block ?_
                      refine xs_then ?_
                      refine k_seq ?_
                      refine k_reg ?_
                      refine s_lt (t_pure (.bool false)) ?_
                      refine s_lt (t_pure (.bool false)) ?_
                      refine s_skip ?_
                      refine s_skip ?_
                      refine s_skip ?_
                      refine s_lt (t_pure (.bool false)) ?_
                      refine s_lt (t_pure (.bool false)) ?_
                      refine s_nil ?_
                      refine xs_then ?_
                      refine k_ret ?_
                      refine xs_fin [.bool false] [] (SI.tmp 2 SI.nil) (fun _ h => h.re [] [0, 0]) ⟨?_, rfl⟩
                      refine congrArg Value.bool ?_
                      first | (simp [validB, p5, p14, p18, p24, p30, p36, p42, p48, p50, p56]; done) | (rw [Bool.and_comm]; simp [validB, p5, p14, p18, p24, p30, p36, p42, p48, p50, p56]; done) | (rw [Bool.eq_iff_iff]; simp [validB, p5, p14, p18, p24, p30, p36, p42, p48, p50, p56, and_comm, and_left_comm, and_assoc]; done)
                  ·
                    have p57 := of_decide_eq_false c49
                    refine k_reg ?_
                    refine s_lt (t_pure (.bool false)) ?_
                    refine s_nil ?_
                    refine xs_block ?_
                    refine xs_then ?_
                    refine k_seq ?_
                    refine k_reg ?_
                    refine s_lt (t_pure (.bool false)) ?_
                    refine s_lt (t_pure (.bool false)) ?_
                    refine s_skip ?_
                    refine s_skip ?_
                    refine s_skip ?_
                    refine s_lt (t_pure (.bool false)) ?_
                    refine s_lt (t_pure (.bool false)) ?_
                    refine s_nil ?_
                    refine xs_then ?_
                    refine k_ret ?_
                    refine xs_fin [.bool false] [] (SI.tmp 2 SI.nil) (fun _ h => h.re [] [0, 0]) ⟨?_, rfl⟩
                    refine congrArg Value.bool ?_
                    first | (simp [validB, p5, p14, p18, p24, p30, p36, p42, p48, p57]; done) | (rw [Bool.and_comm]; simp [validB, p5, p14, p18, p24, p30, p36, p42, p48, p57]; done) | (rw [Bool.eq_iff_iff]; simp [validB, p5, p14, p18, p24, p30, p36, p42, p48, p57, and_comm, and_left_comm, and_assoc]; done)
theorem rvalid_s {Z : Zone} (v : Vl) : SF Try.prog 15 #[v.v] Z [] fun r Bs => r = .bool (validB v) ∧ Bs = [] := by
  refine sf_enter Try.func15 88 [(0, .agg #[.int .i64 v.kind, .int .i64 v.p, .int .i64 v.q, .string v.str, .int .i64 v.ref])] (fun w0 => ?_)
  refine k_seq ?_
  refine k_reg ?_
  refine s_box #[.int .i64 v.kind, .int .i64 v.p, .int .i64 v.q, .string v.str, .int .i64 v.ref] (fun g1 => ?_)
  refine s_lt (t_pure (.bool false)) ?_
  refine s_nil ?_
  refine xs_then ?_
  refine k_seq ?_
  refine k_seq ?_
  refine k_reg ?_
  refine s_lt (t_pure (.pointer (some ⟨g1, 0, none⟩))) ?_
  refine s_lt (t_load 0 (.int .i64 v.kind)) ?_
  refine s_nil ?_
  refine xs_then ?_
  refine k_block ?_
  refine k_seq ?_
  refine k_reg ?_
  refine s_lt t_cmp ?_
  refine s_lt (t_pure (.bool (decide (v.kind = 0)))) ?_
  refine s_nil ?_
  refine xs_then ?_
  refine k_cond (decide (v.kind = 0)) (fun c2 => ?_) (fun c2 => ?_)
  ·
    have p3 := of_decide_eq_true c2
    refine k_seq ?_
    refine k_reg ?_
    refine s_lt (t_loadA 0 #[.int .i64 v.kind, .int .i64 v.p, .int .i64 v.q, .string v.str, .int .i64 v.ref]) ?_
    refine s_lt (t_kern (.agg #[.int .i64 0, .int .i64 0, .int .i64 0, .string ByteArray.empty, .int .i64 0])) ?_
    refine s_lt (t_eqS (fun w => (eqVlT v (⟨0, 0, 0, ByteArray.empty, 0⟩ : Vl) w).1)) ?_
    refine s_lt (t_pure (.bool (decide (v = (⟨0, 0, 0, ByteArray.empty, 0⟩ : Vl))))) ?_
    refine s_nil ?_
    refine xs_then ?_
    refine k_ret ?_
    refine xs_retBlock ?_
    refine xs_ret ?_
    refine xs_fin [.bool (decide (v = (⟨0, 0, 0, ByteArray.empty, 0⟩ : Vl)))] [] (SI.tmp 2 SI.nil) (fun _ h => h.re [] [0]) ⟨?_, rfl⟩
    refine congrArg Value.bool ?_
    first | (simp [validB, p3]; done) | (rw [Bool.and_comm]; simp [validB, p3]; done) | (rw [Bool.eq_iff_iff]; simp [validB, p3, and_comm, and_left_comm, and_assoc]; done)
  ·
    have p4 := of_decide_eq_false c2
    refine k_seq ?_
    refine k_reg ?_
    refine s_lt t_cmp ?_
    refine s_lt (t_pure (.bool (decide (v.kind = 1)))) ?_
    refine s_nil ?_
    refine xs_then ?_
    refine k_cond (decide (v.kind = 1)) (fun c5 => ?_) (fun c5 => ?_)
    ·
      have p6 := of_decide_eq_true c5
      refine k_cut (ι := Unit) (fun _ => True) (fun _ => [(2, .bool ((decide (v = (⟨1, 0, 0, ByteArray.empty, v.ref⟩ : Vl))) && ((decide (v.ref = 0)) || (decide (v.ref = 1)))))]) (fun _ => [blkA g1 #[.int .i64 v.kind, .int .i64 v.p, .int .i64 v.q, .string v.str, .int .i64 v.ref] 32]) ?_ (fun _ _ => ?_)
      ·
        refine k_reg ?_
        refine s_lt (t_loadA 0 #[.int .i64 v.kind, .int .i64 v.p, .int .i64 v.q, .string v.str, .int .i64 v.ref]) ?_
        refine s_lt (t_pure (.pointer (some ⟨g1, 4, none⟩))) ?_
        refine s_lt (t_load 0 (.int .i64 v.ref)) ?_
        refine s_lt (t_kern (.agg #[.int .i64 1, .int .i64 0, .int .i64 0, .string ByteArray.empty, .int .i64 v.ref])) ?_
        refine s_lt (t_eqS (fun w => (eqVlT v (⟨1, 0, 0, ByteArray.empty, v.ref⟩ : Vl) w).1)) ?_
        refine s_lt (t_pure (.bool (decide (v = (⟨1, 0, 0, ByteArray.empty, v.ref⟩ : Vl))))) ?_
        refine s_fork 17 (decide (v = (⟨1, 0, 0, ByteArray.empty, v.ref⟩ : Vl))) (fun c7 => ?_) (fun c7 => ?_)
        ·
          have p8 := of_decide_eq_true c7
          refine s_lt (t_pure (.pointer (some ⟨g1, 4, none⟩))) ?_
          refine s_lt (t_load 0 (.int .i64 v.ref)) ?_
          refine s_lt t_cmp ?_
          refine s_lt (t_pure (.bool (decide (v.ref = 0)))) ?_
          refine s_fork 21 (decide (v.ref = 0)) (fun c9 => ?_) (fun c9 => ?_)
          ·
            have p10 := of_decide_eq_true c9
            refine s_skip ?_
            refine s_skip ?_
            refine s_skip ?_
            refine s_lt (t_pure (.bool true)) ?_
            refine s_lt (t_pure (.bool true)) ?_
            refine s_lt (t_pure (.bool true)) ?_
            refine s_nil ?_
            exact xs_cut () trivial (sub_of rfl ⟨⟨rfl, show Value.bool true = Value.bool ((decide (v = (⟨1, 0, 0, ByteArray.empty, v.ref⟩ : Vl))) && ((decide (v.ref = 0)) || (decide (v.ref = 1)))) by simp [c7, c9]⟩, trivial⟩) (fun _ h => h.re [] [])
          ·
            have p11 := of_decide_eq_false c9
            refine s_lt (t_pure (.pointer (some ⟨g1, 4, none⟩))) ?_
            refine s_lt (t_load 0 (.int .i64 v.ref)) ?_
            refine s_lt t_cmp ?_
            refine s_lt (t_pure (.bool (decide (v.ref = 1)))) ?_
            refine s_lt (t_pure (.bool (decide (v.ref = 1)))) ?_
            refine s_lt (t_pure (.bool (decide (v.ref = 1)))) ?_
            refine s_nil ?_
            exact xs_cut () trivial (sub_of rfl ⟨⟨rfl, show Value.bool (decide (v.ref = 1)) = Value.bool ((decide (v = (⟨1, 0, 0, ByteArray.empty, v.ref⟩ : Vl))) && ((decide (v.ref = 0)) || (decide (v.ref = 1)))) by simp [c7, c9]⟩, trivial⟩) (fun _ h => h.re [] [])
        ·
          have p12 := of_decide_eq_false c7
          refine s_skip ?_
          refine s_skip ?_
          refine s_skip ?_
          refine s_skip ?_
          refine s_skip ?_
          refine s_skip ?_
          refine s_skip ?_
          refine s_skip ?_
          refine s_lt (t_pure (.bool false)) ?_
          refine s_lt (t_pure (.bool false)) ?_
          refine s_nil ?_
          exact xs_cut () trivial (sub_of rfl ⟨⟨rfl, show Value.bool false = Value.bool ((decide (v = (⟨1, 0, 0, ByteArray.empty, v.ref⟩ : Vl))) && ((decide (v.ref = 0)) || (decide (v.ref = 1)))) by simp [c7]⟩, trivial⟩) (fun _ h => h.re [] [])
      ·
        refine k_ret ?_
        refine xs_retBlock ?_
        refine xs_ret ?_
        refine xs_fin [.bool ((decide (v = (⟨1, 0, 0, ByteArray.empty, v.ref⟩ : Vl))) && ((decide (v.ref = 0)) || (decide (v.ref = 1))))] [] (SI.tmp 2 SI.nil) (fun _ h => h.re [] [0]) ⟨?_, rfl⟩
        refine congrArg Value.bool ?_
        first | (simp [validB, p4, p6]; done) | (rw [Bool.and_comm]; simp [validB, p4, p6]; done) | (rw [Bool.eq_iff_iff]; simp [validB, p4, p6, and_comm, and_left_comm, and_assoc]; done)
    ·
      have p13 := of_decide_eq_false c5
      refine k_seq ?_
      refine k_reg ?_
      refine s_lt t_cmp ?_
      refine s_lt (t_pure (.bool (decide (v.kind = 2)))) ?_
      refine s_nil ?_
      refine xs_then ?_
      refine k_cond (decide (v.kind = 2)) (fun c14 => ?_) (fun c14 => ?_)
      ·
        have p15 := of_decide_eq_true c14
        refine k_cut (ι := Unit) (fun _ => True) (fun _ => [(2, .bool ((decide (v = (⟨2, v.p, v.q, ByteArray.empty, 0⟩ : Vl))) && (validN v.p v.q)))]) (fun _ => [blkA g1 #[.int .i64 v.kind, .int .i64 v.p, .int .i64 v.q, .string v.str, .int .i64 v.ref] 32]) ?_ (fun _ _ => ?_)
        ·
          refine k_reg ?_
          refine s_lt (t_loadA 0 #[.int .i64 v.kind, .int .i64 v.p, .int .i64 v.q, .string v.str, .int .i64 v.ref]) ?_
          refine s_lt (t_pure (.pointer (some ⟨g1, 1, none⟩))) ?_
          refine s_lt (t_loadA 0 #[.int .i64 v.p, .int .i64 v.q]) ?_
          refine s_lt (t_kern (.agg #[.int .i64 2, .int .i64 v.p, .int .i64 v.q, .string ByteArray.empty, .int .i64 0])) ?_
          refine s_lt (t_eqS (fun w => (eqVlT v (⟨2, v.p, v.q, ByteArray.empty, 0⟩ : Vl) w).1)) ?_
          refine s_lt (t_pure (.bool (decide (v = (⟨2, v.p, v.q, ByteArray.empty, 0⟩ : Vl))))) ?_
          refine s_fork 34 (decide (v = (⟨2, v.p, v.q, ByteArray.empty, 0⟩ : Vl))) (fun c16 => ?_) (fun c16 => ?_)
          ·
            have p17 := of_decide_eq_true c16
            refine s_lt (t_pure (.pointer (some ⟨g1, 1, none⟩))) ?_
            refine s_lt (t_loadA 0 #[.int .i64 v.p, .int .i64 v.q]) ?_
            refine s_vcall (fun _ h => rvnum_s v.p v.q) ?_
            rintro _ rfl
            refine s_lt (t_pure (.bool (validN v.p v.q))) ?_
            refine s_lt (t_pure (.bool (validN v.p v.q))) ?_
            refine s_nil ?_
            exact xs_cut () trivial (sub_of rfl ⟨⟨rfl, show Value.bool (validN v.p v.q) = Value.bool ((decide (v = (⟨2, v.p, v.q, ByteArray.empty, 0⟩ : Vl))) && (validN v.p v.q)) by simp [c16]⟩, trivial⟩) (fun _ h => h.re [] [])
          ·
            have p18 := of_decide_eq_false c16
            refine s_skip ?_
            refine s_skip ?_
            refine s_skip ?_
            refine s_lt (t_pure (.bool false)) ?_
            refine s_lt (t_pure (.bool false)) ?_
            refine s_nil ?_
            exact xs_cut () trivial (sub_of rfl ⟨⟨rfl, show Value.bool false = Value.bool ((decide (v = (⟨2, v.p, v.q, ByteArray.empty, 0⟩ : Vl))) && (validN v.p v.q)) by simp [c16]⟩, trivial⟩) (fun _ h => h.re [] [])
        ·
          refine k_ret ?_
          refine xs_retBlock ?_
          refine xs_ret ?_
          refine xs_fin [.bool ((decide (v = (⟨2, v.p, v.q, ByteArray.empty, 0⟩ : Vl))) && (validN v.p v.q))] [] (SI.tmp 2 SI.nil) (fun _ h => h.re [] [0]) ⟨?_, rfl⟩
          refine congrArg Value.bool ?_
          first | (simp [validB, p4, p13, p15]; done) | (rw [Bool.and_comm]; simp [validB, p4, p13, p15]; done) | (rw [Bool.eq_iff_iff]; simp [validB, p4, p13, p15, and_comm, and_left_comm, and_assoc]; done)
      ·
        have p19 := of_decide_eq_false c14
        refine k_seq ?_
        refine k_reg ?_
        refine s_lt t_cmp ?_
        refine s_lt (t_pure (.bool (decide (v.kind = 3)))) ?_
        refine s_nil ?_
        refine xs_then ?_
        refine k_cond (decide (v.kind = 3)) (fun c20 => ?_) (fun c20 => ?_)
        ·
          have p21 := of_decide_eq_true c20
          refine k_cut (ι := Unit) (fun _ => True) (fun _ => [(2, .bool ((decide ((v.str.size : Int) ≤ 4096)) && (decide (v = (⟨3, 0, 0, v.str, 0⟩ : Vl)))))]) (fun _ => [blkA g1 #[.int .i64 v.kind, .int .i64 v.p, .int .i64 v.q, .string v.str, .int .i64 v.ref] 32]) ?_ (fun _ _ => ?_)
          ·
            refine k_reg ?_
            refine s_lt (t_pure (.pointer (some ⟨g1, 3, none⟩))) ?_
            refine s_lt (t_load 0 (.string v.str)) ?_
            refine s_lt (t_kern (.int .i64 (v.str.size : Int))) ?_
            refine s_lt t_cmp ?_
            refine s_lt (t_pure (.bool (decide ((v.str.size : Int) ≤ 4096)))) ?_
            refine s_fork 45 (decide ((v.str.size : Int) ≤ 4096)) (fun c22 => ?_) (fun c22 => ?_)
            ·
              have p23 := of_decide_eq_true c22
              refine s_lt (t_loadA 0 #[.int .i64 v.kind, .int .i64 v.p, .int .i64 v.q, .string v.str, .int .i64 v.ref]) ?_
              refine s_lt (t_pure (.pointer (some ⟨g1, 3, none⟩))) ?_
              refine s_lt (t_load 0 (.string v.str)) ?_
              refine s_lt (t_kern (.agg #[.int .i64 3, .int .i64 0, .int .i64 0, .string v.str, .int .i64 0])) ?_
              refine s_lt (t_eqS (fun w => (eqVlT v (⟨3, 0, 0, v.str, 0⟩ : Vl) w).1)) ?_
              refine s_lt (t_pure (.bool (decide (v = (⟨3, 0, 0, v.str, 0⟩ : Vl))))) ?_
              refine s_lt (t_pure (.bool (decide (v = (⟨3, 0, 0, v.str, 0⟩ : Vl))))) ?_
              refine s_nil ?_
              exact xs_cut () trivial (sub_of rfl ⟨⟨rfl, show Value.bool (decide (v = (⟨3, 0, 0, v.str, 0⟩ : Vl))) = Value.bool ((decide ((v.str.size : Int) ≤ 4096)) && (decide (v = (⟨3, 0, 0, v.str, 0⟩ : Vl)))) by simp [c22]⟩, trivial⟩) (fun _ h => h.re [] [])
            ·
              have p24 := of_decide_eq_false c22
              refine s_skip ?_
              refine s_skip ?_
              refine s_skip ?_
              refine s_skip ?_
              refine s_skip ?_
              refine s_lt (t_pure (.bool false)) ?_
              refine s_lt (t_pure (.bool false)) ?_
              refine s_nil ?_
              exact xs_cut () trivial (sub_of rfl ⟨⟨rfl, show Value.bool false = Value.bool ((decide ((v.str.size : Int) ≤ 4096)) && (decide (v = (⟨3, 0, 0, v.str, 0⟩ : Vl)))) by simp [c22]⟩, trivial⟩) (fun _ h => h.re [] [])
          ·
            refine k_ret ?_
            refine xs_retBlock ?_
            refine xs_ret ?_
            refine xs_fin [.bool ((decide ((v.str.size : Int) ≤ 4096)) && (decide (v = (⟨3, 0, 0, v.str, 0⟩ : Vl))))] [] (SI.tmp 2 SI.nil) (fun _ h => h.re [] [0]) ⟨?_, rfl⟩
            refine congrArg Value.bool ?_
            first | (simp [validB, p4, p13, p19, p21]; done) | (rw [Bool.and_comm]; simp [validB, p4, p13, p19, p21]; done) | (rw [Bool.eq_iff_iff]; simp [validB, p4, p13, p19, p21, and_comm, and_left_comm, and_assoc]; done)
        ·
          have p25 := of_decide_eq_false c20
          refine k_seq ?_
          refine k_reg ?_
          refine s_lt t_cmp ?_
          refine s_lt (t_pure (.bool (decide (v.kind = 6)))) ?_
          refine s_nil ?_
          refine xs_then ?_
          refine k_cond (decide (v.kind = 6)) (fun c26 => ?_) (fun c26 => ?_)
          ·
            have p27 := of_decide_eq_true c26
            refine k_cut (ι := Unit) (fun _ => True) (fun _ => [(2, .bool ((decide ((1 : Int) ≤ (v.str.size : Int))) && ((decide ((v.str.size : Int) ≤ 4096)) && (decide (v = (⟨6, 0, 0, v.str, 0⟩ : Vl))))))]) (fun _ => [blkA g1 #[.int .i64 v.kind, .int .i64 v.p, .int .i64 v.q, .string v.str, .int .i64 v.ref] 32]) ?_ (fun _ _ => ?_)
            ·
              refine k_reg ?_
              refine s_lt (t_pure (.pointer (some ⟨g1, 3, none⟩))) ?_
              refine s_lt (t_load 0 (.string v.str)) ?_
              refine s_lt (t_kern (.int .i64 (v.str.size : Int))) ?_
              refine s_lt t_cmp ?_
              refine s_lt (t_pure (.bool (decide ((1 : Int) ≤ (v.str.size : Int))))) ?_
              refine s_fork 58 (decide ((1 : Int) ≤ (v.str.size : Int))) (fun c28 => ?_) (fun c28 => ?_)
              ·
                have p29 := of_decide_eq_true c28
                refine s_lt (t_pure (.pointer (some ⟨g1, 3, none⟩))) ?_
                refine s_lt (t_load 0 (.string v.str)) ?_
                refine s_lt (t_kern (.int .i64 (v.str.size : Int))) ?_
                refine s_lt t_cmp ?_
                refine s_lt (t_pure (.bool (decide ((v.str.size : Int) ≤ 4096)))) ?_
                refine s_lt (t_pure (.bool (decide ((v.str.size : Int) ≤ 4096)))) ?_
                refine s_fork 64 (decide ((v.str.size : Int) ≤ 4096)) (fun c30 => ?_) (fun c30 => ?_)
                ·
                  have p31 := of_decide_eq_true c30
                  refine s_lt (t_loadA 0 #[.int .i64 v.kind, .int .i64 v.p, .int .i64 v.q, .string v.str, .int .i64 v.ref]) ?_
                  refine s_lt (t_pure (.pointer (some ⟨g1, 3, none⟩))) ?_
                  refine s_lt (t_load 0 (.string v.str)) ?_
                  refine s_lt (t_kern (.agg #[.int .i64 6, .int .i64 0, .int .i64 0, .string v.str, .int .i64 0])) ?_
                  refine s_lt (t_eqS (fun w => (eqVlT v (⟨6, 0, 0, v.str, 0⟩ : Vl) w).1)) ?_
                  refine s_lt (t_pure (.bool (decide (v = (⟨6, 0, 0, v.str, 0⟩ : Vl))))) ?_
                  refine s_lt (t_pure (.bool (decide (v = (⟨6, 0, 0, v.str, 0⟩ : Vl))))) ?_
                  refine s_nil ?_
                  exact xs_cut () trivial (sub_of rfl ⟨⟨rfl, show Value.bool (decide (v = (⟨6, 0, 0, v.str, 0⟩ : Vl))) = Value.bool ((decide ((1 : Int) ≤ (v.str.size : Int))) && ((decide ((v.str.size : Int) ≤ 4096)) && (decide (v = (⟨6, 0, 0, v.str, 0⟩ : Vl))))) by simp [c28, c30]⟩, trivial⟩) (fun _ h => h.re [] [])
                ·
                  have p32 := of_decide_eq_false c30
                  refine s_skip ?_
                  refine s_skip ?_
                  refine s_skip ?_
                  refine s_skip ?_
                  refine s_skip ?_
                  refine s_lt (t_pure (.bool false)) ?_
                  refine s_lt (t_pure (.bool false)) ?_
                  refine s_nil ?_
                  exact xs_cut () trivial (sub_of rfl ⟨⟨rfl, show Value.bool false = Value.bool ((decide ((1 : Int) ≤ (v.str.size : Int))) && ((decide ((v.str.size : Int) ≤ 4096)) && (decide (v = (⟨6, 0, 0, v.str, 0⟩ : Vl))))) by simp [c28, c30]⟩, trivial⟩) (fun _ h => h.re [] [])
              ·
                have p33 := of_decide_eq_false c28
                refine s_skip ?_
                refine s_skip ?_
                refine s_skip ?_
                refine s_skip ?_
                refine s_lt (t_pure (.bool false)) ?_
                refine s_lt (t_pure (.bool false)) ?_
                refine s_skip ?_
                refine s_skip ?_
                refine s_skip ?_
                refine s_skip ?_
                refine s_skip ?_
                refine s_lt (t_pure (.bool false)) ?_
                refine s_lt (t_pure (.bool false)) ?_
                refine s_nil ?_
                exact xs_cut () trivial (sub_of rfl ⟨⟨rfl, show Value.bool false = Value.bool ((decide ((1 : Int) ≤ (v.str.size : Int))) && ((decide ((v.str.size : Int) ≤ 4096)) && (decide (v = (⟨6, 0, 0, v.str, 0⟩ : Vl))))) by simp [c28]⟩, trivial⟩) (fun _ h => h.re [] [])
            ·
              refine k_ret ?_
              refine xs_retBlock ?_
              refine xs_ret ?_
              refine xs_fin [.bool ((decide ((1 : Int) ≤ (v.str.size : Int))) && ((decide ((v.str.size : Int) ≤ 4096)) && (decide (v = (⟨6, 0, 0, v.str, 0⟩ : Vl)))))] [] (SI.tmp 2 SI.nil) (fun _ h => h.re [] [0]) ⟨?_, rfl⟩
              refine congrArg Value.bool ?_
              first | (simp [validB, p4, p13, p19, p25, p27]; done) | (rw [Bool.and_comm]; simp [validB, p4, p13, p19, p25, p27]; done) | (rw [Bool.eq_iff_iff]; simp [validB, p4, p13, p19, p25, p27, and_comm, and_left_comm, and_assoc]; done)
          ·
            have p34 := of_decide_eq_false c26
            refine k_seq ?_
            refine k_seq ?_
            refine k_reg ?_
            refine s_lt t_cmp ?_
            refine s_lt (t_pure (.bool (decide (v.kind = 4)))) ?_
            refine s_nil ?_
            refine xs_then ?_
            refine k_cond (decide (v.kind = 4)) (fun c35 => ?_) (fun c35 => ?_)
            ·
              have p36 := of_decide_eq_true c35
              refine k_skip ?_
              refine xs_then ?_
              refine k_true (hv := congrArg Value.bool c35) ?_
              refine k_cut (ι := Unit) (fun _ => True) (fun _ => [(2, .bool ((decide (v = (⟨v.kind, 0, 0, ByteArray.empty, v.ref⟩ : Vl))) && (decide ((1 : Int) ≤ v.ref))))]) (fun _ => [blkA g1 #[.int .i64 v.kind, .int .i64 v.p, .int .i64 v.q, .string v.str, .int .i64 v.ref] 32]) ?_ (fun _ _ => ?_)
              ·
                refine k_reg ?_
                refine s_lt (t_loadA 0 #[.int .i64 v.kind, .int .i64 v.p, .int .i64 v.q, .string v.str, .int .i64 v.ref]) ?_
                refine s_lt (t_pure (.pointer (some ⟨g1, 0, none⟩))) ?_
                refine s_lt (t_load 0 (.int .i64 v.kind)) ?_
                refine s_lt (t_pure (.pointer (some ⟨g1, 4, none⟩))) ?_
                refine s_lt (t_load 0 (.int .i64 v.ref)) ?_
                refine s_lt (t_kern (.agg #[.int .i64 v.kind, .int .i64 0, .int .i64 0, .string ByteArray.empty, .int .i64 v.ref])) ?_
                refine s_lt (t_eqS (fun w => (eqVlT v (⟨v.kind, 0, 0, ByteArray.empty, v.ref⟩ : Vl) w).1)) ?_
                refine s_lt (t_pure (.bool (decide (v = (⟨v.kind, 0, 0, ByteArray.empty, v.ref⟩ : Vl))))) ?_
                refine s_fork 83 (decide (v = (⟨v.kind, 0, 0, ByteArray.empty, v.ref⟩ : Vl))) (fun c37 => ?_) (fun c37 => ?_)
                ·
                  have p38 := of_decide_eq_true c37
                  refine s_lt (t_pure (.pointer (some ⟨g1, 4, none⟩))) ?_
                  refine s_lt (t_load 0 (.int .i64 v.ref)) ?_
                  refine s_lt t_cmp ?_
                  refine s_lt (t_pure (.bool (decide ((1 : Int) ≤ v.ref)))) ?_
                  refine s_lt (t_pure (.bool (decide ((1 : Int) ≤ v.ref)))) ?_
                  refine s_nil ?_
                  exact xs_cut () trivial (sub_of rfl ⟨⟨rfl, show Value.bool (decide ((1 : Int) ≤ v.ref)) = Value.bool ((decide (v = (⟨v.kind, 0, 0, ByteArray.empty, v.ref⟩ : Vl))) && (decide ((1 : Int) ≤ v.ref))) by simp [c37]⟩, trivial⟩) (fun _ h => h.re [] [])
                ·
                  have p39 := of_decide_eq_false c37
                  refine s_skip ?_
                  refine s_skip ?_
                  refine s_skip ?_
                  refine s_lt (t_pure (.bool false)) ?_
                  refine s_lt (t_pure (.bool false)) ?_
                  refine s_nil ?_
                  exact xs_cut () trivial (sub_of rfl ⟨⟨rfl, show Value.bool false = Value.bool ((decide (v = (⟨v.kind, 0, 0, ByteArray.empty, v.ref⟩ : Vl))) && (decide ((1 : Int) ≤ v.ref))) by simp [c37]⟩, trivial⟩) (fun _ h => h.re [] [])
              ·
                refine k_ret ?_
                refine xs_retBlock ?_
                refine xs_ret ?_
                refine xs_fin [.bool ((decide (v = (⟨v.kind, 0, 0, ByteArray.empty, v.ref⟩ : Vl))) && (decide ((1 : Int) ≤ v.ref)))] [] (SI.tmp 2 SI.nil) (fun _ h => h.re [] [0]) ⟨?_, rfl⟩
                refine congrArg Value.bool ?_
                first | (simp [validB, p4, p13, p19, p25, p34, p36]; done) | (rw [Bool.and_comm]; simp [validB, p4, p13, p19, p25, p34, p36]; done) | (rw [Bool.eq_iff_iff]; simp [validB, p4, p13, p19, p25, p34, p36, and_comm, and_left_comm, and_assoc]; done)
            ·
              have p40 := of_decide_eq_false c35
              refine k_seq ?_
              refine k_reg ?_
              refine s_lt t_cmp ?_
              refine s_lt (t_pure (.bool (decide (v.kind = 5)))) ?_
              refine s_nil ?_
              refine xs_then ?_
              refine k_cond (decide (v.kind = 5)) (fun c41 => ?_) (fun c41 => ?_)
              ·
                have p42 := of_decide_eq_true c41
                refine k_skip ?_
                refine xs_then ?_
                refine k_true (hv := congrArg Value.bool c41) ?_
                refine k_cut (ι := Unit) (fun _ => True) (fun _ => [(2, .bool ((decide (v = (⟨v.kind, 0, 0, ByteArray.empty, v.ref⟩ : Vl))) && (decide ((1 : Int) ≤ v.ref))))]) (fun _ => [blkA g1 #[.int .i64 v.kind, .int .i64 v.p, .int .i64 v.q, .string v.str, .int .i64 v.ref] 32]) ?_ (fun _ _ => ?_)
                ·
                  refine k_reg ?_
                  refine s_lt (t_loadA 0 #[.int .i64 v.kind, .int .i64 v.p, .int .i64 v.q, .string v.str, .int .i64 v.ref]) ?_
                  refine s_lt (t_pure (.pointer (some ⟨g1, 0, none⟩))) ?_
                  refine s_lt (t_load 0 (.int .i64 v.kind)) ?_
                  refine s_lt (t_pure (.pointer (some ⟨g1, 4, none⟩))) ?_
                  refine s_lt (t_load 0 (.int .i64 v.ref)) ?_
                  refine s_lt (t_kern (.agg #[.int .i64 v.kind, .int .i64 0, .int .i64 0, .string ByteArray.empty, .int .i64 v.ref])) ?_
                  refine s_lt (t_eqS (fun w => (eqVlT v (⟨v.kind, 0, 0, ByteArray.empty, v.ref⟩ : Vl) w).1)) ?_
                  refine s_lt (t_pure (.bool (decide (v = (⟨v.kind, 0, 0, ByteArray.empty, v.ref⟩ : Vl))))) ?_
                  refine s_fork 83 (decide (v = (⟨v.kind, 0, 0, ByteArray.empty, v.ref⟩ : Vl))) (fun c43 => ?_) (fun c43 => ?_)
                  ·
                    have p44 := of_decide_eq_true c43
                    refine s_lt (t_pure (.pointer (some ⟨g1, 4, none⟩))) ?_
                    refine s_lt (t_load 0 (.int .i64 v.ref)) ?_
                    refine s_lt t_cmp ?_
                    refine s_lt (t_pure (.bool (decide ((1 : Int) ≤ v.ref)))) ?_
                    refine s_lt (t_pure (.bool (decide ((1 : Int) ≤ v.ref)))) ?_
                    refine s_nil ?_
                    exact xs_cut () trivial (sub_of rfl ⟨⟨rfl, show Value.bool (decide ((1 : Int) ≤ v.ref)) = Value.bool ((decide (v = (⟨v.kind, 0, 0, ByteArray.empty, v.ref⟩ : Vl))) && (decide ((1 : Int) ≤ v.ref))) by simp [c43]⟩, trivial⟩) (fun _ h => h.re [] [])
                  ·
                    have p45 := of_decide_eq_false c43
                    refine s_skip ?_
                    refine s_skip ?_
                    refine s_skip ?_
                    refine s_lt (t_pure (.bool false)) ?_
                    refine s_lt (t_pure (.bool false)) ?_
                    refine s_nil ?_
                    exact xs_cut () trivial (sub_of rfl ⟨⟨rfl, show Value.bool false = Value.bool ((decide (v = (⟨v.kind, 0, 0, ByteArray.empty, v.ref⟩ : Vl))) && (decide ((1 : Int) ≤ v.ref))) by simp [c43]⟩, trivial⟩) (fun _ h => h.re [] [])
                ·
                  refine k_ret ?_
                  refine xs_retBlock ?_
                  refine xs_ret ?_
                  refine xs_fin [.bool ((decide (v = (⟨v.kind, 0, 0, ByteArray.empty, v.ref⟩ : Vl))) && (decide ((1 : Int) ≤ v.ref)))] [] (SI.tmp 2 SI.nil) (fun _ h => h.re [] [0]) ⟨?_, rfl⟩
                  refine congrArg Value.bool ?_
                  first | (simp [validB, p4, p13, p19, p25, p34, p40, p42]; done) | (rw [Bool.and_comm]; simp [validB, p4, p13, p19, p25, p34, p40, p42]; done) | (rw [Bool.eq_iff_iff]; simp [validB, p4, p13, p19, p25, p34, p40, p42, and_comm, and_left_comm, and_assoc]; done)
              ·
                have p46 := of_decide_eq_false c41
                refine k_seq ?_
                refine k_reg ?_
                refine s_lt t_cmp ?_
                refine s_lt (t_pure (.bool (decide (v.kind = 7)))) ?_
                refine s_nil ?_
                refine xs_then ?_
                refine k_cond (decide (v.kind = 7)) (fun c47 => ?_) (fun c47 => ?_)
                ·
                  have p48 := of_decide_eq_true c47
                  refine k_skip ?_
                  refine xs_then ?_
                  refine k_true (hv := congrArg Value.bool c47) ?_
                  refine k_cut (ι := Unit) (fun _ => True) (fun _ => [(2, .bool ((decide (v = (⟨v.kind, 0, 0, ByteArray.empty, v.ref⟩ : Vl))) && (decide ((1 : Int) ≤ v.ref))))]) (fun _ => [blkA g1 #[.int .i64 v.kind, .int .i64 v.p, .int .i64 v.q, .string v.str, .int .i64 v.ref] 32]) ?_ (fun _ _ => ?_)
                  ·
                    refine k_reg ?_
                    refine s_lt (t_loadA 0 #[.int .i64 v.kind, .int .i64 v.p, .int .i64 v.q, .string v.str, .int .i64 v.ref]) ?_
                    refine s_lt (t_pure (.pointer (some ⟨g1, 0, none⟩))) ?_
                    refine s_lt (t_load 0 (.int .i64 v.kind)) ?_
                    refine s_lt (t_pure (.pointer (some ⟨g1, 4, none⟩))) ?_
                    refine s_lt (t_load 0 (.int .i64 v.ref)) ?_
                    refine s_lt (t_kern (.agg #[.int .i64 v.kind, .int .i64 0, .int .i64 0, .string ByteArray.empty, .int .i64 v.ref])) ?_
                    refine s_lt (t_eqS (fun w => (eqVlT v (⟨v.kind, 0, 0, ByteArray.empty, v.ref⟩ : Vl) w).1)) ?_
                    refine s_lt (t_pure (.bool (decide (v = (⟨v.kind, 0, 0, ByteArray.empty, v.ref⟩ : Vl))))) ?_
                    refine s_fork 83 (decide (v = (⟨v.kind, 0, 0, ByteArray.empty, v.ref⟩ : Vl))) (fun c49 => ?_) (fun c49 => ?_)
                    ·
                      have p50 := of_decide_eq_true c49
                      refine s_lt (t_pure (.pointer (some ⟨g1, 4, none⟩))) ?_
                      refine s_lt (t_load 0 (.int .i64 v.ref)) ?_
                      refine s_lt t_cmp ?_
                      refine s_lt (t_pure (.bool (decide ((1 : Int) ≤ v.ref)))) ?_
                      refine s_lt (t_pure (.bool (decide ((1 : Int) ≤ v.ref)))) ?_
                      refine s_nil ?_
                      exact xs_cut () trivial (sub_of rfl ⟨⟨rfl, show Value.bool (decide ((1 : Int) ≤ v.ref)) = Value.bool ((decide (v = (⟨v.kind, 0, 0, ByteArray.empty, v.ref⟩ : Vl))) && (decide ((1 : Int) ≤ v.ref))) by simp [c49]⟩, trivial⟩) (fun _ h => h.re [] [])
                    ·
                      have p51 := of_decide_eq_false c49
                      refine s_skip ?_
                      refine s_skip ?_
                      refine s_skip ?_
                      refine s_lt (t_pure (.bool false)) ?_
                      refine s_lt (t_pure (.bool false)) ?_
                      refine s_nil ?_
                      exact xs_cut () trivial (sub_of rfl ⟨⟨rfl, show Value.bool false = Value.bool ((decide (v = (⟨v.kind, 0, 0, ByteArray.empty, v.ref⟩ : Vl))) && (decide ((1 : Int) ≤ v.ref))) by simp [c49]⟩, trivial⟩) (fun _ h => h.re [] [])
                  ·
                    refine k_ret ?_
                    refine xs_retBlock ?_
                    refine xs_ret ?_
                    refine xs_fin [.bool ((decide (v = (⟨v.kind, 0, 0, ByteArray.empty, v.ref⟩ : Vl))) && (decide ((1 : Int) ≤ v.ref)))] [] (SI.tmp 2 SI.nil) (fun _ h => h.re [] [0]) ⟨?_, rfl⟩
                    refine congrArg Value.bool ?_
                    first | (simp [validB, p4, p13, p19, p25, p34, p40, p46, p48]; done) | (rw [Bool.and_comm]; simp [validB, p4, p13, p19, p25, p34, p40, p46, p48]; done) | (rw [Bool.eq_iff_iff]; simp [validB, p4, p13, p19, p25, p34, p40, p46, p48, and_comm, and_left_comm, and_assoc]; done)
                ·
                  have p52 := of_decide_eq_false c47
                  refine k_reg ?_
                  refine s_lt t_cmp ?_
                  refine s_lt (t_pure (.bool (decide (v.kind = 8)))) ?_
                  refine s_nil ?_
                  refine xs_then ?_
                  refine k_cond (decide (v.kind = 8)) (fun c53 => ?_) (fun c53 => ?_)
                  ·
                    have p54 := of_decide_eq_true c53
                    refine k_cut (ι := Unit) (fun _ => True) (fun _ => [(2, .bool ((decide (v = (⟨v.kind, 0, 0, ByteArray.empty, v.ref⟩ : Vl))) && (decide ((1 : Int) ≤ v.ref))))]) (fun _ => [blkA g1 #[.int .i64 v.kind, .int .i64 v.p, .int .i64 v.q, .string v.str, .int .i64 v.ref] 32]) ?_ (fun _ _ => ?_)
                    ·
                      refine k_reg ?_
                      refine s_lt (t_loadA 0 #[.int .i64 v.kind, .int .i64 v.p, .int .i64 v.q, .string v.str, .int .i64 v.ref]) ?_
                      refine s_lt (t_pure (.pointer (some ⟨g1, 0, none⟩))) ?_
                      refine s_lt (t_load 0 (.int .i64 v.kind)) ?_
                      refine s_lt (t_pure (.pointer (some ⟨g1, 4, none⟩))) ?_
                      refine s_lt (t_load 0 (.int .i64 v.ref)) ?_
                      refine s_lt (t_kern (.agg #[.int .i64 v.kind, .int .i64 0, .int .i64 0, .string ByteArray.empty, .int .i64 v.ref])) ?_
                      refine s_lt (t_eqS (fun w => (eqVlT v (⟨v.kind, 0, 0, ByteArray.empty, v.ref⟩ : Vl) w).1)) ?_
                      refine s_lt (t_pure (.bool (decide (v = (⟨v.kind, 0, 0, ByteArray.empty, v.ref⟩ : Vl))))) ?_
                      refine s_fork 83 (decide (v = (⟨v.kind, 0, 0, ByteArray.empty, v.ref⟩ : Vl))) (fun c55 => ?_) (fun c55 => ?_)
                      ·
                        have p56 := of_decide_eq_true c55
                        refine s_lt (t_pure (.pointer (some ⟨g1, 4, none⟩))) ?_
                        refine s_lt (t_load 0 (.int .i64 v.ref)) ?_
                        refine s_lt t_cmp ?_
                        refine s_lt (t_pure (.bool (decide ((1 : Int) ≤ v.ref)))) ?_
                        refine s_lt (t_pure (.bool (decide ((1 : Int) ≤ v.ref)))) ?_
                        refine s_nil ?_
                        exact xs_cut () trivial (sub_of rfl ⟨⟨rfl, show Value.bool (decide ((1 : Int) ≤ v.ref)) = Value.bool ((decide (v = (⟨v.kind, 0, 0, ByteArray.empty, v.ref⟩ : Vl))) && (decide ((1 : Int) ≤ v.ref))) by simp [c55]⟩, trivial⟩) (fun _ h => h.re [] [])
                      ·
                        have p57 := of_decide_eq_false c55
                        refine s_skip ?_
                        refine s_skip ?_
                        refine s_skip ?_
                        refine s_lt (t_pure (.bool false)) ?_
                        refine s_lt (t_pure (.bool false)) ?_
                        refine s_nil ?_
                        exact xs_cut () trivial (sub_of rfl ⟨⟨rfl, show Value.bool false = Value.bool ((decide (v = (⟨v.kind, 0, 0, ByteArray.empty, v.ref⟩ : Vl))) && (decide ((1 : Int) ≤ v.ref))) by simp [c55]⟩, trivial⟩) (fun _ h => h.re [] [])
                    ·
                      refine k_ret ?_
                      refine xs_retBlock ?_
                      refine xs_ret ?_
                      refine xs_fin [.bool ((decide (v = (⟨v.kind, 0, 0, ByteArray.empty, v.ref⟩ : Vl))) && (decide ((1 : Int) ≤ v.ref)))] [] (SI.tmp 2 SI.nil) (fun _ h => h.re [] [0]) ⟨?_, rfl⟩
                      refine congrArg Value.bool ?_
                      first | (simp [validB, p4, p13, p19, p25, p34, p40, p46, p52, p54]; done) | (rw [Bool.and_comm]; simp [validB, p4, p13, p19, p25, p34, p40, p46, p52, p54]; done) | (rw [Bool.eq_iff_iff]; simp [validB, p4, p13, p19, p25, p34, p40, p46, p52, p54, and_comm, and_left_comm, and_assoc]; done)
                  ·
                    have p58 := of_decide_eq_false c53
                    refine k_skip ?_
                    refine xs_block ?_
                    refine xs_then ?_
                    refine k_seq ?_
                    refine k_reg ?_
                    refine s_lt (t_pure (.bool false)) ?_
                    refine s_nil ?_
                    refine xs_then ?_
                    refine k_ret ?_
                    refine xs_fin [.bool false] [] (SI.tmp 2 SI.nil) (fun _ h => h.re [] [0]) ⟨?_, rfl⟩
                    refine congrArg Value.bool ?_
                    first | (simp [validB, p4, p13, p19, p25, p34, p40, p46, p52, p58]; done) | (rw [Bool.and_comm]; simp [validB, p4, p13, p19, p25, p34, p40, p46, p52, p58]; done) | (rw [Bool.eq_iff_iff]; simp [validB, p4, p13, p19, p25, p34, p40, p46, p52, p58, and_comm, and_left_comm, and_assoc]; done)
end Go.Proofs.Ytnhbejiakfaohaa
