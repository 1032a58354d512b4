/-
  Values; ordered maps of the program. Each law says its conditions.
-/
import Derived.Test.YtmhpcebiamkciaaGreatG2
section
set_option linter.unusedSimpArgs false
set_option linter.unusedVariables false
set_option maxRecDepth 100000
set_option maxHeartbeats 2000000
namespace Go.Proofs.YtmhpcebiamkciaaGreat
open Go.Hp Go.J Go.S
open Go.Mem (Ty KTy blk elemAt pre suf blk_pre blk_suf aget aset strK aggDesc)
open Go.Mem (adel apos aget_aset aget_adel)
theorem gcd_s {Z : Zone} (x y : Nat) : SF Tryz.prog 232 #[.int .i64 x, .int .i64 y] Z [] fun v Bs => v = .int .i64 (Nat.gcd x y) ∧ Bs = [] := by
  refine sf_enter Tryz.func232 12 [(0, .int .i64 (x : Int)), (1, .int .i64 (y : Int))] (fun w0 => ?_)
  refine k_seq ?_
  refine k_reg ?_
  refine s_lt (t_pure (.int .i64 0)) ?_
  refine s_nil ?_
  refine xs_then ?_
  refine k_seq ?_
  refine k_block ?_
  refine k_loop (ι := Nat × Nat) (fun (a, b) => Nat.gcd a b = Nat.gcd x y) (fun (a, b) => [(0, .int .i64 (a : Int)), (1, .int .i64 (b : Int)), (4, .int .i64 0)]) (fun (a, b) => []) (fun (a, b) => b) (x, y) rfl (sub_of rfl ⟨⟨rfl, rfl⟩, ⟨⟨rfl, rfl⟩, ⟨⟨rfl, rfl⟩, trivial⟩⟩⟩) (fun _ h => h.re [] []) ?_
  rintro ⟨a, b⟩ hi1
  replace hi1 : Nat.gcd a b = Nat.gcd x y := hi1
  show SK _ _ _ _ _ [(0, .int .i64 (a : Int)), (1, .int .i64 (b : Int)), (4, .int .i64 0)] _ []
  refine k_seq ?_
  refine k_seq ?_
  refine k_reg ?_
  refine s_lt (t_pure (.int .i64 (b : Int))) ?_
  refine s_lt t_cmp ?_
  refine s_nil ?_
  refine xs_then ?_
  refine k_cond (decide ((b : Int) ≠ 0)) (fun c2 => ?_) (fun c2 => ?_)
  ·
    have p3 := of_decide_eq_true c2
    refine k_skip ?_
    refine xs_then ?_
    refine k_block ?_
    refine k_draw ?_
    refine s_lt (t_pure (.int .i64 (b : Int))) ?_
    refine s_lt (t_pure (.int .i64 (a : Int))) ?_
    refine s_lt (t_pure (.int .i64 (b : Int))) ?_
    refine s_lt (Lt.to (v' := .int .i64 ((a % b : Nat) : Int)) (t_rem (a : Int) (b : Int) (by omega)) rfl) ?_
    refine s_lt (t_pure (.int .i64 (b : Int))) ?_
    refine s_lt (t_pure (.int .i64 ((a % b : Nat) : Int))) ?_
    refine s_nil ?_
    refine x_dynS (fun _ h => by kernel_rfl) ?_
    refine xs_block ?_
    exact xs_round (b, a % b) (by exact Nat.mod_lt _ (by omega)) (by show Nat.gcd b (a % b) = _; rw [gcd_step]; exact hi1) (sub_of rfl ⟨⟨rfl, rfl⟩, ⟨⟨rfl, rfl⟩, ⟨⟨rfl, rfl⟩, trivial⟩⟩⟩) (fun _ h => h.re [] [])
  ·
    have p4 := Decidable.not_not.1 (of_decide_eq_false c2)
    refine k_exit ?_
    refine xs_exit ?_
    refine xs_exit ?_
    refine xs_here ?_
    refine xs_then ?_
    refine k_seq ?_
    refine k_reg ?_
    refine s_lt (t_pure (.int .i64 (a : Int))) ?_
    refine s_lt (t_pure (.int .i64 (a : Int))) ?_
    refine s_nil ?_
    refine xs_then ?_
    refine k_ret ?_
    obtain rfl : b = 0 := by omega
    refine xs_fin [.int .i64 (a : Int)] [] (SI.tmp 4 SI.nil) (fun _ h => h.re [] []) ⟨?_, rfl⟩
    rw [← hi1, Nat.gcd_zero_right]; rfl
theorem gcd_i {Z : Zone} (x y : Int) (hx : 0 ≤ x) (hy : 0 ≤ y) : SF Tryz.prog 232 #[.int .i64 x, .int .i64 y] Z [] fun v Bs => v = .int .i64 (Nat.gcd x.toNat y.toNat) ∧ Bs = [] := by
  have h := gcd_s (Z := Z) x.toNat y.toNat
  rw [show ((x.toNat : Nat) : Int) = x by omega, show ((y.toNat : Nat) : Int) = y by omega] at h
  exact h
theorem vnum_s {Z : Zone} (p q : Int) : SF Tryz.prog 191 #[.agg #[.int .i64 p, .int .i64 q]] Z [] fun v Bs => v = .bool (validN p q) ∧ Bs = [] := by
  refine sf_enter Tryz.func191 33 [(0, .agg #[.int .i64 p, .int .i64 q])] (fun w0 => ?_)
  refine k_seq ?_
  refine k_reg ?_
  refine s_box #[.int .i64 p, .int .i64 q] (fun g1 => ?_)
  refine s_lt (t_pure (.bool false)) ?_
  refine s_nil ?_
  refine xs_then ?_
  refine k_cut (ι := Unit) (fun _ => True) (fun _ => [(2, .bool ((decide ((1 : Int) ≤ q)) && ((decide (q ≤ 2147483647)) && ((decide ((-2147483647) ≤ p)) && ((decide (p ≤ 2147483647)) && (decide (((Nat.gcd ((if p < (-p) then (-p) else p)).toNat (q).toNat : Nat) : Int) = 1)))))))]) (fun _ => [blkA g1 #[.int .i64 p, .int .i64 q] 69]) ?_ (fun _ _ => ?_)
  ·
    refine k_reg ?_
    refine s_lt (t_pure (.pointer (some ⟨g1, 1, none⟩))) ?_
    refine s_lt (t_load 0 (.int .i64 q)) ?_
    refine s_lt t_cmp ?_
    refine s_lt (t_pure (.bool (decide ((1 : Int) ≤ q)))) ?_
    refine s_fork 6 (decide ((1 : Int) ≤ q)) (fun c2 => ?_) (fun c2 => ?_)
    ·
      have p3 := of_decide_eq_true c2
      refine s_lt (t_pure (.pointer (some ⟨g1, 1, none⟩))) ?_
      refine s_lt (t_load 0 (.int .i64 q)) ?_
      refine s_lt t_cmp ?_
      refine s_lt (t_pure (.bool (decide (q ≤ 2147483647)))) ?_
      refine s_lt (t_pure (.bool (decide (q ≤ 2147483647)))) ?_
      refine s_fork 11 (decide (q ≤ 2147483647)) (fun c4 => ?_) (fun c4 => ?_)
      ·
        have p5 := of_decide_eq_true c4
        refine s_lt (t_pure (.pointer (some ⟨g1, 0, none⟩))) ?_
        refine s_lt (t_load 0 (.int .i64 p)) ?_
        refine s_lt t_cmp ?_
        refine s_lt (t_pure (.bool (decide ((-2147483647) ≤ p)))) ?_
        refine s_lt (t_pure (.bool (decide ((-2147483647) ≤ p)))) ?_
        refine s_fork 16 (decide ((-2147483647) ≤ p)) (fun c6 => ?_) (fun c6 => ?_)
        ·
          have p7 := of_decide_eq_true c6
          refine s_lt (t_pure (.pointer (some ⟨g1, 0, none⟩))) ?_
          refine s_lt (t_load 0 (.int .i64 p)) ?_
          refine s_lt t_cmp ?_
          refine s_lt (t_pure (.bool (decide (p ≤ 2147483647)))) ?_
          refine s_lt (t_pure (.bool (decide (p ≤ 2147483647)))) ?_
          refine s_fork 21 (decide (p ≤ 2147483647)) (fun c8 => ?_) (fun c8 => ?_)
          ·
            have p9 := of_decide_eq_true c8
            refine s_lt (t_pure (.pointer (some ⟨g1, 0, none⟩))) ?_
            refine s_lt (t_load 0 (.int .i64 p)) ?_
            refine s_lt (t_pure (.pointer (some ⟨g1, 0, none⟩))) ?_
            refine s_lt (t_load 0 (.int .i64 p)) ?_
            refine s_lt (t_neg p (by omega)) ?_
            refine s_lt t_max ?_
            refine s_lt (t_pure (.pointer (some ⟨g1, 1, none⟩))) ?_
            refine s_lt (t_load 0 (.int .i64 q)) ?_
            refine s_vcall (fun _ h => gcd_i (if p < (-p) then (-p) else p) q (by omega) (by omega)) ?_
            rintro _ rfl
            refine s_lt t_cmp ?_
            refine s_lt (t_pure (.bool (decide (((Nat.gcd ((if p < (-p) then (-p) else p)).toNat (q).toNat : Nat) : Int) = 1)))) ?_
            refine s_lt (t_pure (.bool (decide (((Nat.gcd ((if p < (-p) then (-p) else p)).toNat (q).toNat : Nat) : Int) = 1)))) ?_
            refine s_nil ?_
            exact xs_cut () trivial (sub_of rfl ⟨⟨rfl, show Value.bool (decide (((Nat.gcd ((if p < (-p) then (-p) else p)).toNat (q).toNat : Nat) : Int) = 1)) = Value.bool ((decide ((1 : Int) ≤ q)) && ((decide (q ≤ 2147483647)) && ((decide ((-2147483647) ≤ p)) && ((decide (p ≤ 2147483647)) && (decide (((Nat.gcd ((if p < (-p) then (-p) else p)).toNat (q).toNat : Nat) : Int) = 1)))))) by first | (simp only [c2, c4, c6, c8, Bool.true_and, Bool.false_and, Bool.and_true, Bool.and_false, Bool.true_or, Bool.or_true, Bool.false_or, Bool.or_false, Bool.not_true, Bool.not_false]; done) | simp [c2, c4, c6, c8]⟩, trivial⟩) (fun _ h => h.re [0] [])
          ·
            have p10 := of_decide_eq_false c8
            refine s_skip ?_
            refine s_skip ?_
            refine s_skip ?_
            refine s_skip ?_
            refine s_skip ?_
            refine s_skip ?_
            refine s_skip ?_
            refine s_skip ?_
            refine s_skip ?_
            refine s_skip ?_
            refine s_lt (t_pure (.bool false)) ?_
            refine s_lt (t_pure (.bool false)) ?_
            refine s_nil ?_
            exact xs_cut () trivial (sub_of rfl ⟨⟨rfl, show Value.bool false = Value.bool ((decide ((1 : Int) ≤ q)) && ((decide (q ≤ 2147483647)) && ((decide ((-2147483647) ≤ p)) && ((decide (p ≤ 2147483647)) && (decide (((Nat.gcd ((if p < (-p) then (-p) else p)).toNat (q).toNat : Nat) : Int) = 1)))))) by first | (simp only [c2, c4, c6, c8, Bool.true_and, Bool.false_and, Bool.and_true, Bool.and_false, Bool.true_or, Bool.or_true, Bool.false_or, Bool.or_false, Bool.not_true, Bool.not_false]; done) | simp [c2, c4, c6, c8]⟩, trivial⟩) (fun _ h => h.re [0] [])
        ·
          have p11 := of_decide_eq_false c6
          refine s_skip ?_
          refine s_skip ?_
          refine s_skip ?_
          refine s_lt (t_pure (.bool false)) ?_
          refine s_lt (t_pure (.bool false)) ?_
          refine s_skip ?_
          refine s_skip ?_
          refine s_skip ?_
          refine s_skip ?_
          refine s_skip ?_
          refine s_skip ?_
          refine s_skip ?_
          refine s_skip ?_
          refine s_skip ?_
          refine s_skip ?_
          refine s_lt (t_pure (.bool false)) ?_
          refine s_lt (t_pure (.bool false)) ?_
          refine s_nil ?_
          exact xs_cut () trivial (sub_of rfl ⟨⟨rfl, show Value.bool false = Value.bool ((decide ((1 : Int) ≤ q)) && ((decide (q ≤ 2147483647)) && ((decide ((-2147483647) ≤ p)) && ((decide (p ≤ 2147483647)) && (decide (((Nat.gcd ((if p < (-p) then (-p) else p)).toNat (q).toNat : Nat) : Int) = 1)))))) by first | (simp only [c2, c4, c6, Bool.true_and, Bool.false_and, Bool.and_true, Bool.and_false, Bool.true_or, Bool.or_true, Bool.false_or, Bool.or_false, Bool.not_true, Bool.not_false]; done) | simp [c2, c4, c6]⟩, trivial⟩) (fun _ h => h.re [0] [])
      ·
        have p12 := of_decide_eq_false c4
        refine s_skip ?_
        refine s_skip ?_
        refine s_skip ?_
        refine s_lt (t_pure (.bool false)) ?_
        refine s_lt (t_pure (.bool false)) ?_
        refine s_skip ?_
        refine s_skip ?_
        refine s_skip ?_
        refine s_lt (t_pure (.bool false)) ?_
        refine s_lt (t_pure (.bool false)) ?_
        refine s_skip ?_
        refine s_skip ?_
        refine s_skip ?_
        refine s_skip ?_
        refine s_skip ?_
        refine s_skip ?_
        refine s_skip ?_
        refine s_skip ?_
        refine s_skip ?_
        refine s_skip ?_
        refine s_lt (t_pure (.bool false)) ?_
        refine s_lt (t_pure (.bool false)) ?_
        refine s_nil ?_
        exact xs_cut () trivial (sub_of rfl ⟨⟨rfl, show Value.bool false = Value.bool ((decide ((1 : Int) ≤ q)) && ((decide (q ≤ 2147483647)) && ((decide ((-2147483647) ≤ p)) && ((decide (p ≤ 2147483647)) && (decide (((Nat.gcd ((if p < (-p) then (-p) else p)).toNat (q).toNat : Nat) : Int) = 1)))))) by first | (simp only [c2, c4, Bool.true_and, Bool.false_and, Bool.and_true, Bool.and_false, Bool.true_or, Bool.or_true, Bool.false_or, Bool.or_false, Bool.not_true, Bool.not_false]; done) | simp [c2, c4]⟩, trivial⟩) (fun _ h => h.re [0] [])
    ·
      have p13 := of_decide_eq_false c2
      refine s_skip ?_
      refine s_skip ?_
      refine s_skip ?_
      refine s_lt (t_pure (.bool false)) ?_
      refine s_lt (t_pure (.bool false)) ?_
      refine s_skip ?_
      refine s_skip ?_
      refine s_skip ?_
      refine s_lt (t_pure (.bool false)) ?_
      refine s_lt (t_pure (.bool false)) ?_
      refine s_skip ?_
      refine s_skip ?_
      refine s_skip ?_
      refine s_lt (t_pure (.bool false)) ?_
      refine s_lt (t_pure (.bool false)) ?_
      refine s_skip ?_
      refine s_skip ?_
      refine s_skip ?_
      refine s_skip ?_
      refine s_skip ?_
      refine s_skip ?_
      refine s_skip ?_
      refine s_skip ?_
      refine s_skip ?_
      refine s_skip ?_
      refine s_lt (t_pure (.bool false)) ?_
      refine s_lt (t_pure (.bool false)) ?_
      refine s_nil ?_
      exact xs_cut () trivial (sub_of rfl ⟨⟨rfl, show Value.bool false = Value.bool ((decide ((1 : Int) ≤ q)) && ((decide (q ≤ 2147483647)) && ((decide ((-2147483647) ≤ p)) && ((decide (p ≤ 2147483647)) && (decide (((Nat.gcd ((if p < (-p) then (-p) else p)).toNat (q).toNat : Nat) : Int) = 1)))))) by first | (simp only [c2, Bool.true_and, Bool.false_and, Bool.and_true, Bool.and_false, Bool.true_or, Bool.or_true, Bool.false_or, Bool.or_false, Bool.not_true, Bool.not_false]; done) | simp [c2]⟩, trivial⟩) (fun _ h => h.re [0] [])
  ·
    refine k_ret ?_
    refine xs_fin [.bool ((decide ((1 : Int) ≤ q)) && ((decide (q ≤ 2147483647)) && ((decide ((-2147483647) ≤ p)) && ((decide (p ≤ 2147483647)) && (decide (((Nat.gcd ((if p < (-p) then (-p) else p)).toNat (q).toNat : Nat) : Int) = 1))))))] [] (SI.tmp 2 SI.nil) (fun _ h => h.re [] [0]) ⟨?_, rfl⟩
    exact congrArg Value.bool (validN_eq p q)
theorem valid_s {Z : Zone} (v : Vl) : SF Tryz.prog 141 #[v.v] Z [] fun r Bs => r = .bool (validB v) ∧ Bs = [] := by
 refine sf_enter Tryz.func141 74 [(0, .agg #[.int .i64 v.kind, .int .i64 v.p, .int .i64 v.q, .string v.str, .int .i64 v.ref])] (fun w0 => ?_)
 refine k_sr ?_
 refine s_box #[.int .i64 v.kind, .int .i64 v.p, .int .i64 v.q, .string v.str, .int .i64 v.ref] (fun g1 => ?_)
 refine sp (.bool false) ?_
 refine s_nr ?_
 refine sp (pB g1 0) ?_
 refine s_lt (t_load 0 (.int .i64 v.kind)) ?_
 refine s_lt (t_kern (.agg #[.int .i64 v.kind, .int .i64 0, .int .i64 0, .string ByteArray.empty, .int .i64 0])) ?_
 refine s_alloc (.agg #[.int .i64 0, .int .i64 0, .int .i64 0, .string ByteArray.empty, .int .i64 0]) #[.int .i64 0, .int .i64 0, .int .i64 0, .string ByteArray.empty, .int .i64 0] (fun g2 => ?_)
 refine s_store 0 #[.int .i64 v.kind, .int .i64 0, .int .i64 0, .string ByteArray.empty, .int .i64 0] ?_
 refine s_nr ?_
 refine sp (.bool true) ?_
 refine s_nt ?_
 refine k_seq ?_
 refine k_sr ?_
 refine sp (pB g1 0) ?_
 refine s_lt (t_load 1 (.int .i64 v.kind)) ?_
 refine s_nt ?_
 refine k_block ?_
 refine k_sr ?_
 refine s_lt t_cmp ?_
 refine sp (.bool (decide (v.kind = 0))) ?_
 refine s_nt ?_
 refine k_cond (decide (v.kind = 0)) (fun c3 => ?_) (fun c3 => ?_)
 ·
  have p4 := of_decide_eq_true c3
  refine k_skip ?_
  refine xs_block ?_
  refine xs_then ?_
  refine k_sr ?_
  refine sp (.bool true) ?_
  refine sp (.bool true) ?_
  refine s_lt (t_loadA 1 #[.int .i64 v.kind, .int .i64 v.p, .int .i64 v.q, .string v.str, .int .i64 v.ref]) ?_
  refine s_lt (t_loadA 0 #[.int .i64 v.kind, .int .i64 0, .int .i64 0, .string ByteArray.empty, .int .i64 0]) ?_
  refine s_lt (t_eqS (fun w => (eqVlT v (⟨v.kind, 0, 0, ByteArray.empty, 0⟩ : Vl) w).1)) ?_
  refine sp (.bool (decide (v = (⟨v.kind, 0, 0, ByteArray.empty, 0⟩ : Vl)))) ?_
  refine sp (.bool (decide (v = (⟨v.kind, 0, 0, ByteArray.empty, 0⟩ : Vl)))) ?_
  refine s_nt ?_
  refine k_ret ?_
  refine xs_fin [.bool (decide (v = (⟨v.kind, 0, 0, ByteArray.empty, 0⟩ : Vl)))] [] (SI.tmp 2 SI.nil) (fun _ h => h.re [] [0, 0]) ⟨?_, rfl⟩
  refine congrArg Value.bool ?_
  first | (simp [validB, p4]; done) | (rw [Bool.and_comm]; simp [validB, p4]; done) | (rw [Bool.eq_iff_iff]; simp [validB, p4, and_comm, and_left_comm, and_assoc]; done)
 ·
  have p5 := of_decide_eq_false c3
  refine k_sr ?_
  refine s_lt t_cmp ?_
  refine sp (.bool (decide (v.kind = 1))) ?_
  refine s_nt ?_
  refine k_cond (decide (v.kind = 1)) (fun c6 => ?_) (fun c6 => ?_)
  ·
   have p7 := of_decide_eq_true c6
   refine k_sr ?_
   refine sp (pB g1 4) ?_
   refine s_lt (t_load 1 (.int .i64 v.ref)) ?_
   refine sp (pB g2 4) ?_
   refine s_store 0 #[.int .i64 v.kind, .int .i64 0, .int .i64 0, .string ByteArray.empty, .int .i64 v.ref] ?_
   refine s_nt ?_
   refine k_reg ?_
   refine sp (pB g1 4) ?_
   refine s_lt (t_load 1 (.int .i64 v.ref)) ?_
   refine s_lt t_cmp ?_
   refine sp (.bool (decide (v.ref = 0))) ?_
   refine s_fork 20 (decide (v.ref = 0)) (fun c8 => ?_) (fun c8 => ?_)
   ·
    have p9 := of_decide_eq_true c8
    refine s_skip ?_
    refine s_skip ?_
    refine s_skip ?_
    refine sp (.bool true) ?_
    refine sp (.bool true) ?_
    refine s_nil ?_
    refine xs_block ?_
    refine xs_then ?_
    refine k_sr ?_
    refine sp (.bool true) ?_
    refine sp (.bool true) ?_
    refine s_lt (t_loadA 1 #[.int .i64 v.kind, .int .i64 v.p, .int .i64 v.q, .string v.str, .int .i64 v.ref]) ?_
    refine s_lt (t_loadA 0 #[.int .i64 v.kind, .int .i64 0, .int .i64 0, .string ByteArray.empty, .int .i64 v.ref]) ?_
    refine s_lt (t_eqS (fun w => (eqVlT v (⟨v.kind, 0, 0, ByteArray.empty, v.ref⟩ : Vl) w).1)) ?_
    refine sp (.bool (decide (v = (⟨v.kind, 0, 0, ByteArray.empty, v.ref⟩ : Vl)))) ?_
    refine sp (.bool (decide (v = (⟨v.kind, 0, 0, ByteArray.empty, v.ref⟩ : Vl)))) ?_
    refine s_nt ?_
    refine k_ret ?_
    refine xs_fin [.bool (decide (v = (⟨v.kind, 0, 0, ByteArray.empty, v.ref⟩ : Vl)))] [] (SI.tmp 2 SI.nil) (fun _ h => h.re [] [0, 0]) ⟨?_, rfl⟩
    refine congrArg Value.bool ?_
    first | (simp [validB, p5, p7, p9]; done) | (rw [Bool.and_comm]; simp [validB, p5, p7, p9]; done) | (rw [Bool.eq_iff_iff]; simp [validB, p5, p7, p9, and_comm, and_left_comm, and_assoc]; done)
   ·
    have p10 := of_decide_eq_false c8
    refine sp (pB g1 4) ?_
    refine s_lt (t_load 1 (.int .i64 v.ref)) ?_
    refine s_lt t_cmp ?_
    refine sp (.bool (decide (v.ref = 1))) ?_
    refine sp (.bool (decide (v.ref = 1))) ?_
    refine s_nil ?_
    refine xs_block ?_
    refine xs_then ?_
    refine k_cut (ι := Unit) (fun _ => True) (fun _ => [(2, .bool ((decide (v.ref = 1)) && (decide (v = (⟨v.kind, 0, 0, ByteArray.empty, v.ref⟩ : Vl)))))]) (fun _ => [blkA g2 #[.int .i64 v.kind, .int .i64 0, .int .i64 0, .string ByteArray.empty, .int .i64 v.ref] 71, blkA g1 #[.int .i64 v.kind, .int .i64 v.p, .int .i64 v.q, .string v.str, .int .i64 v.ref] 71]) ?_ (fun _ _ => ?_)
    ·
     refine k_reg ?_
     refine sp (.bool (decide (v.ref = 1))) ?_
     refine sp (.bool (decide (v.ref = 1))) ?_
     refine s_fork 69 (decide (v.ref = 1)) (fun c11 => ?_) (fun c11 => ?_)
     ·
      have p12 := of_decide_eq_true c11
      refine s_lt (t_loadA 1 #[.int .i64 v.kind, .int .i64 v.p, .int .i64 v.q, .string v.str, .int .i64 v.ref]) ?_
      refine s_lt (t_loadA 0 #[.int .i64 v.kind, .int .i64 0, .int .i64 0, .string ByteArray.empty, .int .i64 v.ref]) ?_
      refine s_lt (t_eqS (fun w => (eqVlT v (⟨v.kind, 0, 0, ByteArray.empty, v.ref⟩ : Vl) w).1)) ?_
      refine sp (.bool (decide (v = (⟨v.kind, 0, 0, ByteArray.empty, v.ref⟩ : Vl)))) ?_
      refine sp (.bool (decide (v = (⟨v.kind, 0, 0, ByteArray.empty, v.ref⟩ : Vl)))) ?_
      refine s_nil ?_
      exact xs_cut () trivial (sub_of rfl ⟨⟨rfl, show Value.bool (decide (v = (⟨v.kind, 0, 0, ByteArray.empty, v.ref⟩ : Vl))) = Value.bool ((decide (v.ref = 1)) && (decide (v = (⟨v.kind, 0, 0, ByteArray.empty, v.ref⟩ : Vl)))) by first | (simp only [c11, bls]; done) | simp [c11]⟩, trivial⟩) (fun _ h => h.re [0, 0] [])
     ·
      have p13 := of_decide_eq_false c11
      refine s_skip ?_
      refine s_skip ?_
      refine s_skip ?_
      refine sp (.bool false) ?_
      refine sp (.bool false) ?_
      refine s_nil ?_
      exact xs_cut () trivial (sub_of rfl ⟨⟨rfl, show Value.bool false = Value.bool ((decide (v.ref = 1)) && (decide (v = (⟨v.kind, 0, 0, ByteArray.empty, v.ref⟩ : Vl)))) by first | (simp only [c11, bls]; done) | simp [c11]⟩, trivial⟩) (fun _ h => h.re [0, 0] [])
    ·
     refine k_ret ?_
     refine xs_fin [.bool ((decide (v.ref = 1)) && (decide (v = (⟨v.kind, 0, 0, ByteArray.empty, v.ref⟩ : Vl))))] [] (SI.tmp 2 SI.nil) (fun _ h => h.re [] [0, 0]) ⟨?_, rfl⟩
     refine congrArg Value.bool ?_
     first | (simp [validB, p5, p7, p10]; done) | (rw [Bool.and_comm]; simp [validB, p5, p7, p10]; done) | (rw [Bool.eq_iff_iff]; simp [validB, p5, p7, p10, and_comm, and_left_comm, and_assoc]; done)
  ·
   have p14 := of_decide_eq_false c6
   refine k_sr ?_
   refine s_lt t_cmp ?_
   refine sp (.bool (decide (v.kind = 2))) ?_
   refine s_nt ?_
   refine k_cond (decide (v.kind = 2)) (fun c15 => ?_) (fun c15 => ?_)
   ·
    have p16 := of_decide_eq_true c15
    refine k_sr ?_
    refine sp (pB g1 1) ?_
    refine s_lt (t_loadA 1 #[.int .i64 v.p, .int .i64 v.q]) ?_
    refine sp (pB g2 1) ?_
    refine s_store 0 #[.int .i64 v.kind, .int .i64 v.p, .int .i64 v.q, .string ByteArray.empty, .int .i64 0] ?_
    refine s_nt ?_
    refine k_reg ?_
    refine sp (pB g1 1) ?_
    refine s_lt (t_loadA 1 #[.int .i64 v.p, .int .i64 v.q]) ?_
    refine s_vcall (fun _ h => vnum_s v.p v.q) ?_
    rintro _ rfl
    refine sp (.bool (validN v.p v.q)) ?_
    refine s_nil ?_
    refine xs_block ?_
    refine xs_then ?_
    refine k_cut (ι := Unit) (fun _ => True) (fun _ => [(2, .bool ((validN v.p v.q) && (decide (v = (⟨v.kind, v.p, v.q, ByteArray.empty, 0⟩ : Vl)))))]) (fun _ => [blkA g2 #[.int .i64 v.kind, .int .i64 v.p, .int .i64 v.q, .string ByteArray.empty, .int .i64 0] 71, blkA g1 #[.int .i64 v.kind, .int .i64 v.p, .int .i64 v.q, .string v.str, .int .i64 v.ref] 71]) ?_ (fun _ _ => ?_)
    ·
     refine k_reg ?_
     refine sp (.bool (validN v.p v.q)) ?_
     refine sp (.bool (validN v.p v.q)) ?_
     refine s_fork 69 (validN v.p v.q) (fun c17 => ?_) (fun c17 => ?_)
     ·
      refine s_lt (t_loadA 1 #[.int .i64 v.kind, .int .i64 v.p, .int .i64 v.q, .string v.str, .int .i64 v.ref]) ?_
      refine s_lt (t_loadA 0 #[.int .i64 v.kind, .int .i64 v.p, .int .i64 v.q, .string ByteArray.empty, .int .i64 0]) ?_
      refine s_lt (t_eqS (fun w => (eqVlT v (⟨v.kind, v.p, v.q, ByteArray.empty, 0⟩ : Vl) w).1)) ?_
      refine sp (.bool (decide (v = (⟨v.kind, v.p, v.q, ByteArray.empty, 0⟩ : Vl)))) ?_
      refine sp (.bool (decide (v = (⟨v.kind, v.p, v.q, ByteArray.empty, 0⟩ : Vl)))) ?_
      refine s_nil ?_
      exact xs_cut () trivial (sub_of rfl ⟨⟨rfl, show Value.bool (decide (v = (⟨v.kind, v.p, v.q, ByteArray.empty, 0⟩ : Vl))) = Value.bool ((validN v.p v.q) && (decide (v = (⟨v.kind, v.p, v.q, ByteArray.empty, 0⟩ : Vl)))) by first | (simp only [c17, bls]; done) | simp [c17]⟩, trivial⟩) (fun _ h => h.re [0, 0] [])
     ·
      refine s_skip ?_
      refine s_skip ?_
      refine s_skip ?_
      refine sp (.bool false) ?_
      refine sp (.bool false) ?_
      refine s_nil ?_
      exact xs_cut () trivial (sub_of rfl ⟨⟨rfl, show Value.bool false = Value.bool ((validN v.p v.q) && (decide (v = (⟨v.kind, v.p, v.q, ByteArray.empty, 0⟩ : Vl)))) by first | (simp only [c17, bls]; done) | simp [c17]⟩, trivial⟩) (fun _ h => h.re [0, 0] [])
    ·
     refine k_ret ?_
     refine xs_fin [.bool ((validN v.p v.q) && (decide (v = (⟨v.kind, v.p, v.q, ByteArray.empty, 0⟩ : Vl))))] [] (SI.tmp 2 SI.nil) (fun _ h => h.re [] [0, 0]) ⟨?_, rfl⟩
     refine congrArg Value.bool ?_
     first | (simp [validB, p5, p14, p16]; done) | (rw [Bool.and_comm]; simp [validB, p5, p14, p16]; done) | (rw [Bool.eq_iff_iff]; simp [validB, p5, p14, p16, and_comm, and_left_comm, and_assoc]; done)
   ·
    have p18 := of_decide_eq_false c15
    refine k_sr ?_
    refine s_lt t_cmp ?_
    refine sp (.bool (decide (v.kind = 3))) ?_
    refine s_nt ?_
    refine k_cond (decide (v.kind = 3)) (fun c19 => ?_) (fun c19 => ?_)
    ·
     have p20 := of_decide_eq_true c19
     refine k_sr ?_
     refine sp (pB g1 3) ?_
     refine s_lt (t_load 1 (.string v.str)) ?_
     refine sp (pB g2 3) ?_
     refine s_store 0 #[.int .i64 v.kind, .int .i64 0, .int .i64 0, .string v.str, .int .i64 0] ?_
     refine s_nt ?_
     refine k_reg ?_
     refine sp (pB g1 3) ?_
     refine s_lt (t_load 1 (.string v.str)) ?_
     refine s_lt (t_kern (.int .i64 (v.str.size : Int))) ?_
     refine s_lt t_cmp ?_
     refine sp (.bool (decide ((v.str.size : Int) ≤ 4096))) ?_
     refine s_nil ?_
     refine xs_block ?_
     refine xs_then ?_
     refine k_cut (ι := Unit) (fun _ => True) (fun _ => [(2, .bool ((decide ((v.str.size : Int) ≤ 4096)) && (decide (v = (⟨v.kind, 0, 0, v.str, 0⟩ : Vl)))))]) (fun _ => [blkA g2 #[.int .i64 v.kind, .int .i64 0, .int .i64 0, .string v.str, .int .i64 0] 71, blkA g1 #[.int .i64 v.kind, .int .i64 v.p, .int .i64 v.q, .string v.str, .int .i64 v.ref] 71]) ?_ (fun _ _ => ?_)
     ·
      refine k_reg ?_
      refine sp (.bool (decide ((v.str.size : Int) ≤ 4096))) ?_
      refine sp (.bool (decide ((v.str.size : Int) ≤ 4096))) ?_
      refine s_fork 69 (decide ((v.str.size : Int) ≤ 4096)) (fun c21 => ?_) (fun c21 => ?_)
      ·
       have p22 := of_decide_eq_true c21
       refine s_lt (t_loadA 1 #[.int .i64 v.kind, .int .i64 v.p, .int .i64 v.q, .string v.str, .int .i64 v.ref]) ?_
       refine s_lt (t_loadA 0 #[.int .i64 v.kind, .int .i64 0, .int .i64 0, .string v.str, .int .i64 0]) ?_
       refine s_lt (t_eqS (fun w => (eqVlT v (⟨v.kind, 0, 0, v.str, 0⟩ : Vl) w).1)) ?_
       refine sp (.bool (decide (v = (⟨v.kind, 0, 0, v.str, 0⟩ : Vl)))) ?_
       refine sp (.bool (decide (v = (⟨v.kind, 0, 0, v.str, 0⟩ : Vl)))) ?_
       refine s_nil ?_
       exact xs_cut () trivial (sub_of rfl ⟨⟨rfl, show Value.bool (decide (v = (⟨v.kind, 0, 0, v.str, 0⟩ : Vl))) = Value.bool ((decide ((v.str.size : Int) ≤ 4096)) && (decide (v = (⟨v.kind, 0, 0, v.str, 0⟩ : Vl)))) by first | (simp only [c21, bls]; done) | simp [c21]⟩, trivial⟩) (fun _ h => h.re [0, 0] [])
      ·
       have p23 := of_decide_eq_false c21
       refine s_skip ?_
       refine s_skip ?_
       refine s_skip ?_
       refine sp (.bool false) ?_
       refine sp (.bool false) ?_
       refine s_nil ?_
       exact xs_cut () trivial (sub_of rfl ⟨⟨rfl, show Value.bool false = Value.bool ((decide ((v.str.size : Int) ≤ 4096)) && (decide (v = (⟨v.kind, 0, 0, v.str, 0⟩ : Vl)))) by first | (simp only [c21, bls]; done) | simp [c21]⟩, trivial⟩) (fun _ h => h.re [0, 0] [])
     ·
      refine k_ret ?_
      refine xs_fin [.bool ((decide ((v.str.size : Int) ≤ 4096)) && (decide (v = (⟨v.kind, 0, 0, v.str, 0⟩ : Vl))))] [] (SI.tmp 2 SI.nil) (fun _ h => h.re [] [0, 0]) ⟨?_, rfl⟩
      refine congrArg Value.bool ?_
      first | (simp [validB, p5, p14, p18, p20]; done) | (rw [Bool.and_comm]; simp [validB, p5, p14, p18, p20]; done) | (rw [Bool.eq_iff_iff]; simp [validB, p5, p14, p18, p20, and_comm, and_left_comm, and_assoc]; done)
    ·
     have p24 := of_decide_eq_false c19
     refine k_seq ?_
     refine k_sr ?_
     refine s_lt t_cmp ?_
     refine sp (.bool (decide (v.kind = 4))) ?_
     refine s_nt ?_
     refine k_cond (decide (v.kind = 4)) (fun c25 => ?_) (fun c25 => ?_)
     ·
      have p26 := of_decide_eq_true c25
      refine k_st ?_
      refine k_true (hv := congrArg Value.bool c25) ?_
      refine k_sr ?_
      refine sp (pB g1 4) ?_
      refine s_lt (t_load 1 (.int .i64 v.ref)) ?_
      refine sp (pB g2 4) ?_
      refine s_store 0 #[.int .i64 v.kind, .int .i64 0, .int .i64 0, .string ByteArray.empty, .int .i64 v.ref] ?_
      refine s_nt ?_
      refine k_reg ?_
      refine sp (pB g1 4) ?_
      refine s_lt (t_load 1 (.int .i64 v.ref)) ?_
      refine s_lt t_cmp ?_
      refine sp (.bool (decide ((1 : Int) ≤ v.ref))) ?_
      refine s_nil ?_
      refine xs_block ?_
      refine xs_then ?_
      refine k_cut (ι := Unit) (fun _ => True) (fun _ => [(2, .bool ((decide ((1 : Int) ≤ v.ref)) && (decide (v = (⟨v.kind, 0, 0, ByteArray.empty, v.ref⟩ : Vl)))))]) (fun _ => [blkA g2 #[.int .i64 v.kind, .int .i64 0, .int .i64 0, .string ByteArray.empty, .int .i64 v.ref] 71, blkA g1 #[.int .i64 v.kind, .int .i64 v.p, .int .i64 v.q, .string v.str, .int .i64 v.ref] 71]) ?_ (fun _ _ => ?_)
      ·
       refine k_reg ?_
       refine sp (.bool (decide ((1 : Int) ≤ v.ref))) ?_
       refine sp (.bool (decide ((1 : Int) ≤ v.ref))) ?_
       refine s_fork 69 (decide ((1 : Int) ≤ v.ref)) (fun c27 => ?_) (fun c27 => ?_)
       ·
        have p28 := of_decide_eq_true c27
        refine s_lt (t_loadA 1 #[.int .i64 v.kind, .int .i64 v.p, .int .i64 v.q, .string v.str, .int .i64 v.ref]) ?_
        refine s_lt (t_loadA 0 #[.int .i64 v.kind, .int .i64 0, .int .i64 0, .string ByteArray.empty, .int .i64 v.ref]) ?_
        refine s_lt (t_eqS (fun w => (eqVlT v (⟨v.kind, 0, 0, ByteArray.empty, v.ref⟩ : Vl) w).1)) ?_
        refine sp (.bool (decide (v = (⟨v.kind, 0, 0, ByteArray.empty, v.ref⟩ : Vl)))) ?_
        refine sp (.bool (decide (v = (⟨v.kind, 0, 0, ByteArray.empty, v.ref⟩ : Vl)))) ?_
        refine s_nil ?_
        exact xs_cut () trivial (sub_of rfl ⟨⟨rfl, show Value.bool (decide (v = (⟨v.kind, 0, 0, ByteArray.empty, v.ref⟩ : Vl))) = Value.bool ((decide ((1 : Int) ≤ v.ref)) && (decide (v = (⟨v.kind, 0, 0, ByteArray.empty, v.ref⟩ : Vl)))) by first | (simp only [c27, bls]; done) | simp [c27]⟩, trivial⟩) (fun _ h => h.re [0, 0] [])
       ·
        have p29 := of_decide_eq_false c27
        refine s_skip ?_
        refine s_skip ?_
        refine s_skip ?_
        refine sp (.bool false) ?_
        refine sp (.bool false) ?_
        refine s_nil ?_
        exact xs_cut () trivial (sub_of rfl ⟨⟨rfl, show Value.bool false = Value.bool ((decide ((1 : Int) ≤ v.ref)) && (decide (v = (⟨v.kind, 0, 0, ByteArray.empty, v.ref⟩ : Vl)))) by first | (simp only [c27, bls]; done) | simp [c27]⟩, trivial⟩) (fun _ h => h.re [0, 0] [])
      ·
       refine k_ret ?_
       refine xs_fin [.bool ((decide ((1 : Int) ≤ v.ref)) && (decide (v = (⟨v.kind, 0, 0, ByteArray.empty, v.ref⟩ : Vl))))] [] (SI.tmp 2 SI.nil) (fun _ h => h.re [] [0, 0]) ⟨?_, rfl⟩
       refine congrArg Value.bool ?_
       first | (simp [validB, p5, p14, p18, p24, p26]; done) | (rw [Bool.and_comm]; simp [validB, p5, p14, p18, p24, p26]; done) | (rw [Bool.eq_iff_iff]; simp [validB, p5, p14, p18, p24, p26, and_comm, and_left_comm, and_assoc]; done)
     ·
      have p30 := of_decide_eq_false c25
      refine k_sr ?_
      refine s_lt t_cmp ?_
      refine sp (.bool (decide (v.kind = 5))) ?_
      refine s_nt ?_
      refine k_cond (decide (v.kind = 5)) (fun c31 => ?_) (fun c31 => ?_)
      ·
       have p32 := of_decide_eq_true c31
       refine k_st ?_
       refine k_true (hv := congrArg Value.bool c31) ?_
       refine k_sr ?_
       refine sp (pB g1 4) ?_
       refine s_lt (t_load 1 (.int .i64 v.ref)) ?_
       refine sp (pB g2 4) ?_
       refine s_store 0 #[.int .i64 v.kind, .int .i64 0, .int .i64 0, .string ByteArray.empty, .int .i64 v.ref] ?_
       refine s_nt ?_
       refine k_reg ?_
       refine sp (pB g1 4) ?_
       refine s_lt (t_load 1 (.int .i64 v.ref)) ?_
       refine s_lt t_cmp ?_
       refine sp (.bool (decide ((1 : Int) ≤ v.ref))) ?_
       refine s_nil ?_
       refine xs_block ?_
       refine xs_then ?_
       refine k_cut (ι := Unit) (fun _ => True) (fun _ => [(2, .bool ((decide ((1 : Int) ≤ v.ref)) && (decide (v = (⟨v.kind, 0, 0, ByteArray.empty, v.ref⟩ : Vl)))))]) (fun _ => [blkA g2 #[.int .i64 v.kind, .int .i64 0, .int .i64 0, .string ByteArray.empty, .int .i64 v.ref] 71, blkA g1 #[.int .i64 v.kind, .int .i64 v.p, .int .i64 v.q, .string v.str, .int .i64 v.ref] 71]) ?_ (fun _ _ => ?_)
       ·
        refine k_reg ?_
        refine sp (.bool (decide ((1 : Int) ≤ v.ref))) ?_
        refine sp (.bool (decide ((1 : Int) ≤ v.ref))) ?_
        refine s_fork 69 (decide ((1 : Int) ≤ v.ref)) (fun c33 => ?_) (fun c33 => ?_)
        ·
         have p34 := of_decide_eq_true c33
         refine s_lt (t_loadA 1 #[.int .i64 v.kind, .int .i64 v.p, .int .i64 v.q, .string v.str, .int .i64 v.ref]) ?_
         refine s_lt (t_loadA 0 #[.int .i64 v.kind, .int .i64 0, .int .i64 0, .string ByteArray.empty, .int .i64 v.ref]) ?_
         refine s_lt (t_eqS (fun w => (eqVlT v (⟨v.kind, 0, 0, ByteArray.empty, v.ref⟩ : Vl) w).1)) ?_
         refine sp (.bool (decide (v = (⟨v.kind, 0, 0, ByteArray.empty, v.ref⟩ : Vl)))) ?_
         refine sp (.bool (decide (v = (⟨v.kind, 0, 0, ByteArray.empty, v.ref⟩ : Vl)))) ?_
         refine s_nil ?_
         exact xs_cut () trivial (sub_of rfl ⟨⟨rfl, show Value.bool (decide (v = (⟨v.kind, 0, 0, ByteArray.empty, v.ref⟩ : Vl))) = Value.bool ((decide ((1 : Int) ≤ v.ref)) && (decide (v = (⟨v.kind, 0, 0, ByteArray.empty, v.ref⟩ : Vl)))) by first | (simp only [c33, bls]; done) | simp [c33]⟩, trivial⟩) (fun _ h => h.re [0, 0] [])
        ·
         have p35 := of_decide_eq_false c33
         refine s_skip ?_
         refine s_skip ?_
         refine s_skip ?_
         refine sp (.bool false) ?_
         refine sp (.bool false) ?_
         refine s_nil ?_
         exact xs_cut () trivial (sub_of rfl ⟨⟨rfl, show Value.bool false = Value.bool ((decide ((1 : Int) ≤ v.ref)) && (decide (v = (⟨v.kind, 0, 0, ByteArray.empty, v.ref⟩ : Vl)))) by first | (simp only [c33, bls]; done) | simp [c33]⟩, trivial⟩) (fun _ h => h.re [0, 0] [])
       ·
        refine k_ret ?_
        refine xs_fin [.bool ((decide ((1 : Int) ≤ v.ref)) && (decide (v = (⟨v.kind, 0, 0, ByteArray.empty, v.ref⟩ : Vl))))] [] (SI.tmp 2 SI.nil) (fun _ h => h.re [] [0, 0]) ⟨?_, rfl⟩
        refine congrArg Value.bool ?_
        first | (simp [validB, p5, p14, p18, p24, p30, p32]; done) | (rw [Bool.and_comm]; simp [validB, p5, p14, p18, p24, p30, p32]; done) | (rw [Bool.eq_iff_iff]; simp [validB, p5, p14, p18, p24, p30, p32, and_comm, and_left_comm, and_assoc]; done)
      ·
       have p36 := of_decide_eq_false c31
       refine k_sr ?_
       refine s_lt t_cmp ?_
       refine sp (.bool (decide (v.kind = 7))) ?_
       refine s_nt ?_
       refine k_cond (decide (v.kind = 7)) (fun c37 => ?_) (fun c37 => ?_)
       ·
        have p38 := of_decide_eq_true c37
        refine k_st ?_
        refine k_true (hv := congrArg Value.bool c37) ?_
        refine k_sr ?_
        refine sp (pB g1 4) ?_
        refine s_lt (t_load 1 (.int .i64 v.ref)) ?_
        refine sp (pB g2 4) ?_
        refine s_store 0 #[.int .i64 v.kind, .int .i64 0, .int .i64 0, .string ByteArray.empty, .int .i64 v.ref] ?_
        refine s_nt ?_
        refine k_reg ?_
        refine sp (pB g1 4) ?_
        refine s_lt (t_load 1 (.int .i64 v.ref)) ?_
        refine s_lt t_cmp ?_
        refine sp (.bool (decide ((1 : Int) ≤ v.ref))) ?_
        refine s_nil ?_
        refine xs_block ?_
        refine xs_then ?_
        refine k_cut (ι := Unit) (fun _ => True) (fun _ => [(2, .bool ((decide ((1 : Int) ≤ v.ref)) && (decide (v = (⟨v.kind, 0, 0, ByteArray.empty, v.ref⟩ : Vl)))))]) (fun _ => [blkA g2 #[.int .i64 v.kind, .int .i64 0, .int .i64 0, .string ByteArray.empty, .int .i64 v.ref] 71, blkA g1 #[.int .i64 v.kind, .int .i64 v.p, .int .i64 v.q, .string v.str, .int .i64 v.ref] 71]) ?_ (fun _ _ => ?_)
        ·
         refine k_reg ?_
         refine sp (.bool (decide ((1 : Int) ≤ v.ref))) ?_
         refine sp (.bool (decide ((1 : Int) ≤ v.ref))) ?_
         refine s_fork 69 (decide ((1 : Int) ≤ v.ref)) (fun c39 => ?_) (fun c39 => ?_)
         ·
          have p40 := of_decide_eq_true c39
          refine s_lt (t_loadA 1 #[.int .i64 v.kind, .int .i64 v.p, .int .i64 v.q, .string v.str, .int .i64 v.ref]) ?_
          refine s_lt (t_loadA 0 #[.int .i64 v.kind, .int .i64 0, .int .i64 0, .string ByteArray.empty, .int .i64 v.ref]) ?_
          refine s_lt (t_eqS (fun w => (eqVlT v (⟨v.kind, 0, 0, ByteArray.empty, v.ref⟩ : Vl) w).1)) ?_
          refine sp (.bool (decide (v = (⟨v.kind, 0, 0, ByteArray.empty, v.ref⟩ : Vl)))) ?_
          refine sp (.bool (decide (v = (⟨v.kind, 0, 0, ByteArray.empty, v.ref⟩ : Vl)))) ?_
          refine s_nil ?_
          exact xs_cut () trivial (sub_of rfl ⟨⟨rfl, show Value.bool (decide (v = (⟨v.kind, 0, 0, ByteArray.empty, v.ref⟩ : Vl))) = Value.bool ((decide ((1 : Int) ≤ v.ref)) && (decide (v = (⟨v.kind, 0, 0, ByteArray.empty, v.ref⟩ : Vl)))) by first | (simp only [c39, bls]; done) | simp [c39]⟩, trivial⟩) (fun _ h => h.re [0, 0] [])
         ·
          have p41 := of_decide_eq_false c39
          refine s_skip ?_
          refine s_skip ?_
          refine s_skip ?_
          refine sp (.bool false) ?_
          refine sp (.bool false) ?_
          refine s_nil ?_
          exact xs_cut () trivial (sub_of rfl ⟨⟨rfl, show Value.bool false = Value.bool ((decide ((1 : Int) ≤ v.ref)) && (decide (v = (⟨v.kind, 0, 0, ByteArray.empty, v.ref⟩ : Vl)))) by first | (simp only [c39, bls]; done) | simp [c39]⟩, trivial⟩) (fun _ h => h.re [0, 0] [])
        ·
         refine k_ret ?_
         refine xs_fin [.bool ((decide ((1 : Int) ≤ v.ref)) && (decide (v = (⟨v.kind, 0, 0, ByteArray.empty, v.ref⟩ : Vl))))] [] (SI.tmp 2 SI.nil) (fun _ h => h.re [] [0, 0]) ⟨?_, rfl⟩
         refine congrArg Value.bool ?_
         first | (simp [validB, p5, p14, p18, p24, p30, p36, p38]; done) | (rw [Bool.and_comm]; simp [validB, p5, p14, p18, p24, p30, p36, p38]; done) | (rw [Bool.eq_iff_iff]; simp [validB, p5, p14, p18, p24, p30, p36, p38, and_comm, and_left_comm, and_assoc]; done)
       ·
        have p42 := of_decide_eq_false c37
        refine k_reg ?_
        refine s_lt t_cmp ?_
        refine sp (.bool (decide (v.kind = 8))) ?_
        refine s_nt ?_
        refine k_cond (decide (v.kind = 8)) (fun c43 => ?_) (fun c43 => ?_)
        ·
         have p44 := of_decide_eq_true c43
         refine k_sr ?_
         refine sp (pB g1 4) ?_
         refine s_lt (t_load 1 (.int .i64 v.ref)) ?_
         refine sp (pB g2 4) ?_
         refine s_store 0 #[.int .i64 v.kind, .int .i64 0, .int .i64 0, .string ByteArray.empty, .int .i64 v.ref] ?_
         refine s_nt ?_
         refine k_reg ?_
         refine sp (pB g1 4) ?_
         refine s_lt (t_load 1 (.int .i64 v.ref)) ?_
         refine s_lt t_cmp ?_
         refine sp (.bool (decide ((1 : Int) ≤ v.ref))) ?_
         refine s_nil ?_
         refine xs_block ?_
         refine xs_then ?_
         refine k_cut (ι := Unit) (fun _ => True) (fun _ => [(2, .bool ((decide ((1 : Int) ≤ v.ref)) && (decide (v = (⟨v.kind, 0, 0, ByteArray.empty, v.ref⟩ : Vl)))))]) (fun _ => [blkA g2 #[.int .i64 v.kind, .int .i64 0, .int .i64 0, .string ByteArray.empty, .int .i64 v.ref] 71, blkA g1 #[.int .i64 v.kind, .int .i64 v.p, .int .i64 v.q, .string v.str, .int .i64 v.ref] 71]) ?_ (fun _ _ => ?_)
         ·
          refine k_reg ?_
          refine sp (.bool (decide ((1 : Int) ≤ v.ref))) ?_
          refine sp (.bool (decide ((1 : Int) ≤ v.ref))) ?_
          refine s_fork 69 (decide ((1 : Int) ≤ v.ref)) (fun c45 => ?_) (fun c45 => ?_)
          ·
           have p46 := of_decide_eq_true c45
           refine s_lt (t_loadA 1 #[.int .i64 v.kind, .int .i64 v.p, .int .i64 v.q, .string v.str, .int .i64 v.ref]) ?_
           refine s_lt (t_loadA 0 #[.int .i64 v.kind, .int .i64 0, .int .i64 0, .string ByteArray.empty, .int .i64 v.ref]) ?_
           refine s_lt (t_eqS (fun w => (eqVlT v (⟨v.kind, 0, 0, ByteArray.empty, v.ref⟩ : Vl) w).1)) ?_
           refine sp (.bool (decide (v = (⟨v.kind, 0, 0, ByteArray.empty, v.ref⟩ : Vl)))) ?_
           refine sp (.bool (decide (v = (⟨v.kind, 0, 0, ByteArray.empty, v.ref⟩ : Vl)))) ?_
           refine s_nil ?_
           exact xs_cut () trivial (sub_of rfl ⟨⟨rfl, show Value.bool (decide (v = (⟨v.kind, 0, 0, ByteArray.empty, v.ref⟩ : Vl))) = Value.bool ((decide ((1 : Int) ≤ v.ref)) && (decide (v = (⟨v.kind, 0, 0, ByteArray.empty, v.ref⟩ : Vl)))) by first | (simp only [c45, bls]; done) | simp [c45]⟩, trivial⟩) (fun _ h => h.re [0, 0] [])
          ·
           have p47 := of_decide_eq_false c45
           refine s_skip ?_
           refine s_skip ?_
           refine s_skip ?_
           refine sp (.bool false) ?_
           refine sp (.bool false) ?_
           refine s_nil ?_
           exact xs_cut () trivial (sub_of rfl ⟨⟨rfl, show Value.bool false = Value.bool ((decide ((1 : Int) ≤ v.ref)) && (decide (v = (⟨v.kind, 0, 0, ByteArray.empty, v.ref⟩ : Vl)))) by first | (simp only [c45, bls]; done) | simp [c45]⟩, trivial⟩) (fun _ h => h.re [0, 0] [])
         ·
          refine k_ret ?_
          refine xs_fin [.bool ((decide ((1 : Int) ≤ v.ref)) && (decide (v = (⟨v.kind, 0, 0, ByteArray.empty, v.ref⟩ : Vl))))] [] (SI.tmp 2 SI.nil) (fun _ h => h.re [] [0, 0]) ⟨?_, rfl⟩
          refine congrArg Value.bool ?_
          first | (simp [validB, p5, p14, p18, p24, p30, p36, p42, p44]; done) | (rw [Bool.and_comm]; simp [validB, p5, p14, p18, p24, p30, p36, p42, p44]; done) | (rw [Bool.eq_iff_iff]; simp [validB, p5, p14, p18, p24, p30, p36, p42, p44, and_comm, and_left_comm, and_assoc]; done)
        ·
         have p48 := of_decide_eq_false c43
         refine k_sr ?_
         refine s_lt t_cmp ?_
         refine sp (.bool (decide (v.kind = 6))) ?_
         refine s_nt ?_
         refine k_cond (decide (v.kind = 6)) (fun c49 => ?_) (fun c49 => ?_)
         ·
          have p50 := of_decide_eq_true c49
          refine k_sr ?_
          refine sp (pB g1 3) ?_
          refine s_lt (t_load 1 (.string v.str)) ?_
          refine sp (pB g2 3) ?_
          refine s_store 0 #[.int .i64 v.kind, .int .i64 0, .int .i64 0, .string v.str, .int .i64 0] ?_
          refine s_nt ?_
          refine k_reg ?_
          refine sp (pB g1 3) ?_
          refine s_lt (t_load 1 (.string v.str)) ?_
          refine s_lt (t_kern (.int .i64 (v.str.size : Int))) ?_
          refine s_lt t_cmp ?_
          refine sp (.bool (decide ((1 : Int) ≤ (v.str.size : Int)))) ?_
          refine s_fork 62 (decide ((1 : Int) ≤ (v.str.size : Int))) (fun c51 => ?_) (fun c51 => ?_)
          ·
           have p52 := of_decide_eq_true c51
           refine sp (pB g1 3) ?_
           refine s_lt (t_load 1 (.string v.str)) ?_
           refine s_lt (t_kern (.int .i64 (v.str.size : Int))) ?_
           refine s_lt t_cmp ?_
           refine sp (.bool (decide ((v.str.size : Int) ≤ 4096))) ?_
           refine sp (.bool (decide ((v.str.size : Int) ≤ 4096))) ?_
           refine s_nil ?_
           refine xs_block ?_
           refine xs_then ?_
           refine k_cut (ι := Unit) (fun _ => True) (fun _ => [(2, .bool ((decide ((v.str.size : Int) ≤ 4096)) && (decide (v = (⟨v.kind, 0, 0, v.str, 0⟩ : Vl)))))]) (fun _ => [blkA g2 #[.int .i64 v.kind, .int .i64 0, .int .i64 0, .string v.str, .int .i64 0] 71, blkA g1 #[.int .i64 v.kind, .int .i64 v.p, .int .i64 v.q, .string v.str, .int .i64 v.ref] 71]) ?_ (fun _ _ => ?_)
           ·
            refine k_reg ?_
            refine sp (.bool (decide ((v.str.size : Int) ≤ 4096))) ?_
            refine sp (.bool (decide ((v.str.size : Int) ≤ 4096))) ?_
            refine s_fork 69 (decide ((v.str.size : Int) ≤ 4096)) (fun c53 => ?_) (fun c53 => ?_)
            ·
             have p54 := of_decide_eq_true c53
             refine s_lt (t_loadA 1 #[.int .i64 v.kind, .int .i64 v.p, .int .i64 v.q, .string v.str, .int .i64 v.ref]) ?_
             refine s_lt (t_loadA 0 #[.int .i64 v.kind, .int .i64 0, .int .i64 0, .string v.str, .int .i64 0]) ?_
             refine s_lt (t_eqS (fun w => (eqVlT v (⟨v.kind, 0, 0, v.str, 0⟩ : Vl) w).1)) ?_
             refine sp (.bool (decide (v = (⟨v.kind, 0, 0, v.str, 0⟩ : Vl)))) ?_
             refine sp (.bool (decide (v = (⟨v.kind, 0, 0, v.str, 0⟩ : Vl)))) ?_
             refine s_nil ?_
             exact xs_cut () trivial (sub_of rfl ⟨⟨rfl, show Value.bool (decide (v = (⟨v.kind, 0, 0, v.str, 0⟩ : Vl))) = Value.bool ((decide ((v.str.size : Int) ≤ 4096)) && (decide (v = (⟨v.kind, 0, 0, v.str, 0⟩ : Vl)))) by first | (simp only [c53, bls]; done) | simp [c53]⟩, trivial⟩) (fun _ h => h.re [0, 0] [])
            ·
             have p55 := of_decide_eq_false c53
             refine s_skip ?_
             refine s_skip ?_
             refine s_skip ?_
             refine sp (.bool false) ?_
             refine sp (.bool false) ?_
             refine s_nil ?_
             exact xs_cut () trivial (sub_of rfl ⟨⟨rfl, show Value.bool false = Value.bool ((decide ((v.str.size : Int) ≤ 4096)) && (decide (v = (⟨v.kind, 0, 0, v.str, 0⟩ : Vl)))) by first | (simp only [c53, bls]; done) | simp [c53]⟩, trivial⟩) (fun _ h => h.re [0, 0] [])
           ·
            refine k_ret ?_
            refine xs_fin [.bool ((decide ((v.str.size : Int) ≤ 4096)) && (decide (v = (⟨v.kind, 0, 0, v.str, 0⟩ : Vl))))] [] (SI.tmp 2 SI.nil) (fun _ h => h.re [] [0, 0]) ⟨?_, rfl⟩
            refine congrArg Value.bool ?_
            first | (simp [validB, p5, p14, p18, p24, p30, p36, p42, p48, p50, p52]; done) | (rw [Bool.and_comm]; simp [validB, p5, p14, p18, p24, p30, p36, p42, p48, p50, p52]; done) | (rw [Bool.eq_iff_iff]; simp [validB, p5, p14, p18, p24, p30, p36, p42, p48, p50, p52, and_comm, and_left_comm, and_assoc]; done)
          ·
           have p56 := of_decide_eq_false c51
           refine s_skip ?_
           refine s_skip ?_
           refine s_skip ?_
           refine s_skip ?_
           refine sp (.bool false) ?_
           refine sp (.bool false) ?_
           refine s_nil ?_
           refine xs_block ?_
           refine xs_then ?_
           refine k_sr ?_
           refine sp (.bool false) ?_
           refine sp (.bool false) ?_
           refine s_skip ?_
           refine s_skip ?_
           refine s_skip ?_
           refine sp (.bool false) ?_
           refine sp (.bool false) ?_
           refine s_nt ?_
           refine k_ret ?_
           refine xs_fin [.bool false] [] (SI.tmp 2 SI.nil) (fun _ h => h.re [] [0, 0]) ⟨?_, rfl⟩
           refine congrArg Value.bool ?_
           first | (simp [validB, p5, p14, p18, p24, p30, p36, p42, p48, p50, p56]; done) | (rw [Bool.and_comm]; simp [validB, p5, p14, p18, p24, p30, p36, p42, p48, p50, p56]; done) | (rw [Bool.eq_iff_iff]; simp [validB, p5, p14, p18, p24, p30, p36, p42, p48, p50, p56, and_comm, and_left_comm, and_assoc]; done)
         ·
          have p57 := of_decide_eq_false c49
          refine k_reg ?_
          refine sp (.bool false) ?_
          refine s_nil ?_
          refine xs_block ?_
          refine xs_then ?_
          refine k_sr ?_
          refine sp (.bool false) ?_
          refine sp (.bool false) ?_
          refine s_skip ?_
          refine s_skip ?_
          refine s_skip ?_
          refine sp (.bool false) ?_
          refine sp (.bool false) ?_
          refine s_nt ?_
          refine k_ret ?_
          refine xs_fin [.bool false] [] (SI.tmp 2 SI.nil) (fun _ h => h.re [] [0, 0]) ⟨?_, rfl⟩
          refine congrArg Value.bool ?_
          first | (simp [validB, p5, p14, p18, p24, p30, p36, p42, p48, p57]; done) | (rw [Bool.and_comm]; simp [validB, p5, p14, p18, p24, p30, p36, p42, p48, p57]; done) | (rw [Bool.eq_iff_iff]; simp [validB, p5, p14, p18, p24, p30, p36, p42, p48, p57, and_comm, and_left_comm, and_assoc]; done)
/-- An ordered map in memory. -/
def omA (b : Nat) (S : List Slt) : Asr := exA fun sv => exA fun mb => exA fun m => stA (OInv S ∧ Agr m S) [blkA b #[sv, .map (some mb), .int .i64 (cnt S : Int)] 225, own SltT sv S, mpA vK nV mb m]
theorem om_open {b : Nat} {S : List Slt} {Z : Zone} {F : List Asr} {H : Heap} (h : Holds Z (omA b S :: F) H) : ∃ (sv : Value) (mb : Nat) (m : List (Vl × Nat)), (OInv S ∧ Agr m S) ∧ Holds Z (blkA b #[sv, .map (some mb), .int .i64 (cnt S : Int)] 225 :: own SltT sv S :: mpA vK nV mb m :: F) H := by
  obtain ⟨sv, h⟩ := h.open_ex
  obtain ⟨mb, h⟩ := h.open_ex
  obtain ⟨m, h⟩ := h.open_ex
  exact ⟨sv, mb, m, h.open_st⟩
theorem om_shut {b : Nat} {S : List Slt} {Z : Zone} {F : List Asr} {H : Heap} {sv : Value} {mb : Nat} {m : List (Vl × Nat)} {n : Int} (hp : (OInv S ∧ Agr m S) ∧ n = (cnt S : Int)) (h : Holds Z (blkA b #[sv, .map (some mb), .int .i64 n] 225 :: own SltT sv S :: mpA vK nV mb m :: F) H) : Holds Z (omA b S :: F) H := by
  obtain ⟨h1, rfl⟩ := hp
  exact Holds.shut_ex sv (Holds.shut_ex mb (Holds.shut_ex m (Holds.shut_st h1 h)))
theorem om_inv {b : Nat} {S : List Slt} {Z : Zone} {F : List Asr} {H : Heap} (h : Holds Z (omA b S :: F) H) : OInv S := by
  obtain ⟨_, _, _, h, _⟩ := om_open h; exact h.1
theorem omnew_s {Z : Zone} : SF Tryz.prog 136 #[] Z [] fun r Bs => ∃ b, r = .pointer (some ⟨b, 0, none⟩) ∧ Bs = [omA b []] := by
 refine sf_enter Tryz.func136 4 [] (fun w0 => ?_)
 refine k_sr ?_
 refine sp (.pointer none) ?_
 refine s_nr ?_
 refine s_makeMap vK nV (fun b1 => ?_)
 refine s_lt (t_kern (.agg #[(.slice none 0 0), .map (some b1), .int .i64 0])) ?_
 refine s_box #[(.slice none 0 0), .map (some b1), .int .i64 0] (fun g2 => ?_)
 refine sp (pB g2 0) ?_
 refine s_nt ?_
 refine k_ret ?_
 refine xs_fin [pB g2 0] [omA g2 []] (SI.tmp 0 SI.nil) (fun _ h => om_shut (b := g2) (sv := .slice none 0 0) ⟨⟨OInv.nil, agr_nil⟩, rfl⟩ ((Holds.nilS (T := SltT) h).re [1, 0] [])) ⟨g2, rfl, rfl⟩
theorem omget_s {Z : Zone} {F : List Asr} {b : Nat} {S : List Slt} (k : Vl) : SF Tryz.prog 234 #[.pointer (some ⟨b, 0, none⟩), k.v] Z (omA b S :: F) fun r Bs => r = (oget S k).v ∧ Bs = omA b S :: F := by
 refine sf_enter Tryz.func234 30 [(0, pB b 0), (1, .agg #[.int .i64 k.kind, .int .i64 k.p, .int .i64 k.q, .string k.str, .int .i64 k.ref])] (fun w0 => ?_)
 refine k_sr ?_
 refine s_box #[.int .i64 k.kind, .int .i64 k.p, .int .i64 k.q, .string k.str, .int .i64 k.ref] (fun g1 => ?_)
 refine s_alloc (.agg #[.int .i64 0, .int .i64 0, .int .i64 0, .string ByteArray.empty, .int .i64 0]) #[.int .i64 0, .int .i64 0, .int .i64 0, .string ByteArray.empty, .int .i64 0] (fun g2 => ?_)
 refine s_nt ?_
 refine k_seq ?_
 refine k_sr ?_
 refine sp (pB b 0) ?_
 refine sp (.bool false) ?_
 refine s_nt ?_
 refine k_false ?_
 refine k_st ?_
 refine k_seq ?_
 refine k_draw ?_
 refine sp (pB b 0) ?_
 refine sp (pB b 0) ?_
 refine sp (pB b 1) ?_
 refine s_mem3 (fun H h => om_open (h.re [2] [])) (fun sv3 mb4 m5 hw => ?_)
 obtain ⟨hinv6, hag7⟩ := hw
 refine s_lt (t_load 0 (.map (some mb4))) ?_
 refine s_lt (t_loadA 4 #[.int .i64 k.kind, .int .i64 k.p, .int .i64 k.q, .string k.str, .int .i64 k.ref]) ?_
 rcases last_cases hag7 hinv6 k with ⟨hl8, hm9, ht10, hg11⟩ | ⟨i12, s13, hl14, hm15, hs16, hk17, hg18, ht19⟩
 ·
  refine s_lt (Lt.to (v' := .tuple #[.int .i64 0, .bool false]) (t_lookupOk 2 vK_ok Tryz.underlying222 (.int .i64 0) k) (by rw [hm9]; rfl)) ?_
  refine sp (.tuple #[.int .i64 0, .bool false]) ?_
  refine sp (.int .i64 0) ?_
  refine sp (.bool false) ?_
  refine sp (.int .i64 0) ?_
  refine sp (.bool false) ?_
  refine s_nil ?_
  refine x_dynS (fun _ h => by kernel_rfl) ?_
  refine xs_then ?_
  refine k_seq ?_
  refine k_sr ?_
  refine sp (.bool false) ?_
  refine sp (.bool true) ?_
  refine s_nt ?_
  refine k_true ?_
  refine k_sr ?_
  refine s_lt (t_kern (.agg #[.int .i64 0, .int .i64 0, .int .i64 0, .string ByteArray.empty, .int .i64 0])) ?_
  refine s_store 3 #[.int .i64 0, .int .i64 0, .int .i64 0, .string ByteArray.empty, .int .i64 0] ?_
  refine s_nt ?_
  refine k_ret ?_
  refine xs_ret ?_
  refine xs_mem (fun _ h => om_shut (S := S) (n := (cnt S : Int)) ⟨⟨hinv6, hag7⟩, rfl⟩ (h.re [0, 0, 0] [])) ?_
  refine xs_fin [.agg #[.int .i64 0, .int .i64 0, .int .i64 0, .string ByteArray.empty, .int .i64 0]] (omA b S :: F) (SI.agg 4 71 1 SI.nil) (fun _ h => h.re [0] [1, 1]) ⟨?_, rfl⟩
  exact (congrArg Vl.v hg11).symm
 ·
  have hlt20 : i12 < S.length := (List.getElem?_eq_some_iff.1 hs16).1
  refine s_lt (Lt.to (v' := .tuple #[.int .i64 (i12 : Int), .bool true]) (t_lookupOk 2 vK_ok Tryz.underlying222 (.int .i64 0) k) (by rw [hm15]; rfl)) ?_
  refine sp (.tuple #[.int .i64 (i12 : Int), .bool true]) ?_
  refine sp (.int .i64 (i12 : Int)) ?_
  refine sp (.bool true) ?_
  refine sp (.int .i64 (i12 : Int)) ?_
  refine sp (.bool true) ?_
  refine s_nil ?_
  refine x_dynS (fun _ h => by kernel_rfl) ?_
  refine xs_then ?_
  refine k_seq ?_
  refine k_sr ?_
  refine sp (.bool true) ?_
  refine sp (.bool false) ?_
  refine s_nt ?_
  refine k_false ?_
  refine k_st ?_
  refine k_sr ?_
  refine sp (pB b 0) ?_
  refine sp (pB b 0) ?_
  refine sp (pB b 0) ?_
  refine s_lt (t_load 0 sv3) ?_
  refine sp (.int .i64 (i12 : Int)) ?_
  refine s_lt (t_index SltT_ok Tryz.underlying223 (.own 1) (i12 : Int) i12 (by omega) (by (try simp only [lnm]); omega) (by omega)) ?_
  refine sp (.pointer (some ((elemAt SltT.size sv3 i12).add 5))) ?_
  refine s_lt (t_loadG 5 #[.int .i64 s13.val.kind, .int .i64 s13.val.p, .int .i64 s13.val.q, .string s13.val.str, .int .i64 s13.val.ref] SltT_ok (.own 1) hs16) ?_
  refine s_store 3 #[.int .i64 s13.val.kind, .int .i64 s13.val.p, .int .i64 s13.val.q, .string s13.val.str, .int .i64 s13.val.ref] ?_
  refine s_nt ?_
  refine k_ret ?_
  refine xs_mem (fun _ h => om_shut (S := S) (n := (cnt S : Int)) ⟨⟨hinv6, hag7⟩, rfl⟩ (h.re [0, 0, 0] [])) ?_
  refine xs_fin [.agg #[.int .i64 s13.val.kind, .int .i64 s13.val.p, .int .i64 s13.val.q, .string s13.val.str, .int .i64 s13.val.ref]] (omA b S :: F) (SI.agg 4 71 1 SI.nil) (fun _ h => h.re [0] [1, 1]) ⟨?_, rfl⟩
  exact (congrArg Vl.v hg18).symm
theorem omdrop_s {Z : Zone} {F : List Asr} {b : Nat} {S : List Slt} (hs : S.length ≤ 1000000) : SF Tryz.prog 236 #[.pointer (some ⟨b, 0, none⟩)] Z (omA b S :: F) fun r Bs => r = .tuple #[] ∧ Bs = omA b (live S) :: F := by
 refine sf_enter Tryz.func236 49 [(0, pB b 0)] (fun w0 => ?_)
 refine k_sr ?_
 refine sp (.slice none 0 0) ?_
 refine s_nt ?_
 refine k_seq ?_
 refine k_sr ?_
 refine sp (pB b 0) ?_
 refine sp (pB b 0) ?_
 refine sp (pB b 0) ?_
 refine s_mem3 (fun H h => om_open (h.re [0] [])) (fun sv1 mb2 m3 hw => ?_)
 obtain ⟨hinv4, hag5⟩ := hw
 refine s_lt (t_load 0 sv1) ?_
 refine s_lt (t_len SltT_ok Tryz.underlying223 (.own 1)) ?_
 refine sp (.int .i64 0) ?_
 refine s_nt ?_
 refine k_block ?_
 refine k_mem (fun _ h => Holds.nilS (T := SltT) h) ?_
 refine k_mem (Bs := own SltT (.slice none 0 0) (live (S.take 0)) :: blkA b #[sv1, .map (some mb2), .int .i64 (cnt S : Int)] 225 :: own SltT sv1 S :: mpA vK nV mb2 m3 :: F) (fun _ h => h) ?_
 have hinv0 := hinv4
 have hag0 := hag5
 refine k_loop (ι := Value × List (Vl × Nat) × Nat) (fun (lx, md, i) => i ≤ S.length ∧ DropI S i md) (fun (lx, md, i) => [(0, pB b 0), (2, lx), (8, sv1), (9, .int .i64 (S.length : Int)), (10, .int .i64 (i : Int))]) (fun (lx, md, i) => own SltT lx (live (S.take i)) :: blkA b #[sv1, .map (some mb2), .int .i64 (cnt S : Int)] 225 :: own SltT sv1 S :: mpA vK nV mb2 md :: F) (fun (lx, md, i) => S.length - i) ((.slice none 0 0), m3, 0) ⟨Nat.zero_le _, drop0 hag0⟩ (sub_of rfl ⟨⟨rfl, rfl⟩, ⟨⟨rfl, rfl⟩, ⟨⟨rfl, rfl⟩, ⟨⟨rfl, rfl⟩, ⟨⟨rfl, rfl⟩, trivial⟩⟩⟩⟩⟩) (fun _ h => h.re [0, 0, 0, 0] []) ?_
 rintro ⟨lx, md, i⟩ hi6
 replace hi6 : i ≤ S.length ∧ DropI S i md := hi6
 show SK _ _ _ _ _ [(0, .pointer (some ⟨b, 0, none⟩)), (2, lx), (8, sv1), (9, .int .i64 (S.length : Int)), (10, .int .i64 (i : Int))] _ (own SltT lx (live (S.take i)) :: blkA b #[sv1, .map (some mb2), .int .i64 (cnt S : Int)] 225 :: own SltT sv1 S :: mpA vK nV mb2 md :: F)
 refine k_fact (fun H h => (h.mp (i := 3) rfl).nodup) (fun hnd => ?_)
 have hli : (live (S.take i)).length ≤ i := Nat.le_trans (cnt_le _) (by rw [List.length_take]; omega)
 refine k_sr ?_
 refine s_lt t_cmp ?_
 refine s_nt ?_
 refine k_seq ?_
 refine k_cond (decide ((i : Int) < (S.length : Int))) (fun c7 => ?_) (fun c7 => ?_)
 ·
  have p8 := of_decide_eq_true c7
  refine k_st ?_
  refine k_seq ?_
  refine k_block ?_
  refine k_sr ?_
  refine sp (.int .i64 (i : Int)) ?_
  refine s_lt (t_index SltT_ok Tryz.underlying223 (.own 2) (i : Int) i (by omega) (by (try simp only [lnm]); omega) (by omega)) ?_
  obtain ⟨y9, hy10⟩ : ∃ y, S[i]? = some y := ⟨_, List.getElem?_eq_getElem (by (try simp only [lnm]); omega)⟩
  refine s_lt (t_loadE SltT_ok (.own 2) hy10) ?_
  refine s_alloc (.agg #[.int .i64 0, .int .i64 0, .int .i64 0, .string ByteArray.empty, .int .i64 0, .int .i64 0, .int .i64 0, .int .i64 0, .string ByteArray.empty, .int .i64 0, .bool false]) #[.int .i64 0, .int .i64 0, .int .i64 0, .string ByteArray.empty, .int .i64 0, .int .i64 0, .int .i64 0, .int .i64 0, .string ByteArray.empty, .int .i64 0, .bool false] (fun g11 => ?_)
  refine sp (.int .i64 (i : Int)) ?_
  refine s_store 0 #[.int .i64 y9.key.kind, .int .i64 y9.key.p, .int .i64 y9.key.q, .string y9.key.str, .int .i64 y9.key.ref, .int .i64 y9.val.kind, .int .i64 y9.val.p, .int .i64 y9.val.q, .string y9.val.str, .int .i64 y9.val.ref, .bool y9.gone] ?_
  refine s_nt ?_
  refine k_seq ?_
  refine k_sr ?_
  refine sp (pB g11 10) ?_
  refine s_lt (t_load 0 (.bool y9.gone)) ?_
  refine s_nt ?_
  refine k_cond y9.gone (fun c12 => ?_) (fun c12 => ?_)
  ·
   refine k_seq ?_
   refine k_seq ?_
   refine k_draw ?_
   refine sp (pB b 0) ?_
   refine sp (pB b 0) ?_
   refine sp (pB b 1) ?_
   refine s_lt (t_load 2 (.map (some mb2))) ?_
   refine sp (pB g11 0) ?_
   refine s_lt (t_loadA 0 #[.int .i64 y9.key.kind, .int .i64 y9.key.p, .int .i64 y9.key.q, .string y9.key.str, .int .i64 y9.key.ref]) ?_
   obtain ⟨j13, hj14, hd15⟩ := drop_gone hinv0 hi6.2 hy10 c12
   refine s_lt (Lt.to (v' := .int .i64 (j13 : Int)) (t_lookup 4 vK_ok Tryz.underlying222 (.int .i64 0) y9.key) (by rw [hj14]; rfl)) ?_
   refine sp (.int .i64 (i : Int)) ?_
   refine s_lt t_cmp ?_
   refine s_nil ?_
   refine x_dynS (fun _ h => by kernel_rfl) ?_
   refine xs_then ?_
   refine k_cond (decide ((j13 : Int) = (i : Int))) (fun c16 => ?_) (fun c16 => ?_)
   ·
    have p17 := of_decide_eq_true c16
    refine k_draw ?_
    refine sp (pB b 0) ?_
    refine sp (pB b 0) ?_
    refine sp (pB b 1) ?_
    refine s_lt (t_load 2 (.map (some mb2))) ?_
    refine sp (pB g11 0) ?_
    refine s_lt (t_loadA 0 #[.int .i64 y9.key.kind, .int .i64 y9.key.p, .int .i64 y9.key.q, .string y9.key.str, .int .i64 y9.key.ref]) ?_
    refine s_delete0 4 vK_ok Tryz.underlying222 y9.key ?_
    refine s_nil ?_
    refine x_dynS (fun _ h => by kernel_rfl) ?_
    refine xs_then ?_
    refine k_exit ?_
    refine xs_exit ?_
    refine xs_here ?_
    refine xs_then ?_
    refine k_reg ?_
    refine s_lt (t_add (i : Int) 1 (by (try simp only [lnm]); omega)) ?_
    refine sp (.int .i64 ((i : Int) + 1)) ?_
    refine s_nil ?_
    have hlv := live_take hy10
    rw [if_pos c12] at hlv
    rw [← hlv]
    exact xs_round (lx, (adel md y9.key), i + 1) (by show S.length - (i + 1) < S.length - i; omega) ⟨by show i + 1 ≤ S.length; omega, by first | exact hd15.2.2 (Int.ofNat_inj.1 p17) hnd | (obtain ⟨_, hd1, hd2⟩ := (⟨trivial, hd15⟩ : True ∧ _ ∧ _); first | exact hd1 (fun e => p17 (by rw [e])) | exact hd2 (Int.ofNat_inj.1 p17) hnd)⟩ (sub_of rfl ⟨⟨rfl, rfl⟩, ⟨⟨rfl, rfl⟩, ⟨⟨rfl, rfl⟩, ⟨⟨rfl, rfl⟩, ⟨⟨rfl, rfl⟩, trivial⟩⟩⟩⟩⟩) (fun _ h => h.re [1, 1, 1, 1] [4])
   ·
    have p18 := of_decide_eq_false c16
    refine k_st ?_
    refine k_exit ?_
    refine xs_exit ?_
    refine xs_here ?_
    refine xs_then ?_
    refine k_reg ?_
    refine s_lt (t_add (i : Int) 1 (by (try simp only [lnm]); omega)) ?_
    refine sp (.int .i64 ((i : Int) + 1)) ?_
    refine s_nil ?_
    have hlv := live_take hy10
    rw [if_pos c12] at hlv
    rw [← hlv]
    exact xs_round (lx, md, i + 1) (by show S.length - (i + 1) < S.length - i; omega) ⟨by show i + 1 ≤ S.length; omega, by first | exact hd15.2.1 (by intro e; exact p18 (congrArg _ e)) | (obtain ⟨_, hd1, hd2⟩ := (⟨trivial, hd15⟩ : True ∧ _ ∧ _); first | exact hd1 (fun e => p18 (by rw [e])) | exact hd2 (Int.ofNat_inj.1 p18) hnd)⟩ (sub_of rfl ⟨⟨rfl, rfl⟩, ⟨⟨rfl, rfl⟩, ⟨⟨rfl, rfl⟩, ⟨⟨rfl, rfl⟩, ⟨⟨rfl, rfl⟩, trivial⟩⟩⟩⟩⟩) (fun _ h => h.re [1, 1, 1, 1] [4])
  ·
   refine k_st ?_
   refine k_seq ?_
   refine k_draw ?_
   refine sp (pB b 0) ?_
   refine sp (pB b 0) ?_
   refine sp (pB b 1) ?_
   refine s_lt (t_load 2 (.map (some mb2))) ?_
   refine sp (pB g11 0) ?_
   refine s_lt (t_loadA 0 #[.int .i64 y9.key.kind, .int .i64 y9.key.p, .int .i64 y9.key.q, .string y9.key.str, .int .i64 y9.key.ref]) ?_
   refine sp lx ?_
   refine s_fact (fun H h => ((Acc.own (T := SltT) (L := (live (S.take i))) 1 rfl) H h).form) (fun hf19 => ?_)
   refine s_lt (t_len SltT_ok Tryz.underlying223 (.own 1)) ?_
   refine s_update 4 vK_ok Tryz.underlying222 y9.key ((live (S.take i)).length) ?_
   refine s_nil ?_
   refine x_dynS (fun _ h => by obtain ⟨_, _, e⟩ := hf19; subst e; kernel_rfl) ?_
   refine xs_then ?_
   refine k_reg ?_
   refine sp lx ?_
   refine s_lt (t_loadA 0 #[.int .i64 y9.key.kind, .int .i64 y9.key.p, .int .i64 y9.key.q, .string y9.key.str, .int .i64 y9.key.ref, .int .i64 y9.val.kind, .int .i64 y9.val.p, .int .i64 y9.val.q, .string y9.val.str, .int .i64 y9.val.ref, .bool y9.gone]) ?_
   refine s_buildSlice (e := 261) [(0, .agg #[.int .i64 y9.key.kind, .int .i64 y9.key.p, .int .i64 y9.key.q, .string y9.key.str, .int .i64 y9.key.ref, .int .i64 y9.val.kind, .int .i64 y9.val.p, .int .i64 y9.val.q, .string y9.val.str, .int .i64 y9.val.ref, .bool y9.gone])] #[.int .i64 y9.key.kind, .int .i64 y9.key.p, .int .i64 y9.key.q, .string y9.key.str, .int .i64 y9.key.ref, .int .i64 y9.val.kind, .int .i64 y9.val.p, .int .i64 y9.val.q, .string y9.val.str, .int .i64 y9.val.ref, .bool y9.gone] (fun g20 => ?_) (hb := by kernel_rfl)
   refine s_append (L := (live (S.take i))) 2 SltT_ok Tryz.underlying223 (.lit 0 SltT_ok [y9]) (by show _ * 104 ≤ _; (try simp only [lnm]); omega) (by (try simp only [lnm]); omega) (fun v21 => ?_)
   refine sp v21 ?_
   refine s_nil ?_
   refine xs_block ?_
   refine xs_then ?_
   refine k_reg ?_
   refine s_lt (t_add (i : Int) 1 (by (try simp only [lnm]); omega)) ?_
   refine sp (.int .i64 ((i : Int) + 1)) ?_
   refine s_nil ?_
   have hlv := live_take hy10
   rw [if_neg (by rw [c12]; decide)] at hlv
   rw [← hlv]
   exact xs_round (v21, (aset md y9.key ((live (S.take i)).length)), i + 1) (by show S.length - (i + 1) < S.length - i; omega) ⟨by show i + 1 ≤ S.length; omega, by first | exact drop_live hinv0 hi6.2 hy10 c12 | (obtain ⟨_, hd1, hd2⟩ := hlv; first | exact hd1 (fun e => c12 (by rw [e])) | exact hd2 (Int.ofNat_inj.1 c12) hnd)⟩ (sub_of rfl ⟨⟨rfl, rfl⟩, ⟨⟨rfl, rfl⟩, ⟨⟨rfl, rfl⟩, ⟨⟨rfl, rfl⟩, ⟨⟨rfl, rfl⟩, trivial⟩⟩⟩⟩⟩) (fun _ h => h.re [2, 2, 2, 2] [4, 4])
 ·
  have p22 := of_decide_eq_false c7
  refine k_exit ?_
  refine xs_exit ?_
  refine xs_exit ?_
  refine xs_here ?_
  refine xs_then ?_
  refine k_reg ?_
  refine sp (pB b 0) ?_
  refine sp lx ?_
  refine sp (pB b 0) ?_
  refine sp (pB b 0) ?_
  refine s_fact (fun H h => ((Acc.own (T := SltT) (L := (live (S.take i))) 0 rfl) H h).form) (fun hf23 => ?_)
  refine s_store (u := lx) (m := 1) 1 #[lx, .map (some mb2), .int .i64 (cnt S : Int)] ?_ (hm := by (obtain ⟨_, _, e⟩ := hf23; rw [e]; rfl)) (h1 := by (obtain ⟨_, _, e⟩ := hf23; rw [e]; rfl)) (ha' := by (obtain ⟨_, _, e⟩ := hf23; rw [e]; rfl))
  refine s_nil ?_
  have hend : live (S.take i) = live S := by rw [List.take_of_length_le (by omega)]
  rw [hend]
  exact xs_finN [] (omA b (live S) :: F) SI.nil (fun _ h => om_shut ⟨⟨live_inv hinv0, drop_end hi6.2 (by omega)⟩, by rw [cnt_live]⟩ (h.re [1, 0, 1] [3])) ⟨rfl, rfl⟩
abbrev nextV (x : Vl × Vl × Bool × Int) : Value := .tuple #[x.1.v, x.2.1.v, .bool x.2.2.1, .int .i64 x.2.2.2]
theorem next_found {S : List Slt} {a j : Nat} {s : Slt} (h : live ((S.drop a).take j) = []) (hs : (S.drop a)[j]? = some s) (hg : s.gone = false) : slotV (live (S.drop a)).head? = (s.key, s.val, true) := by rw [head_live h hs hg]; rfl
theorem next_end {S : List Slt} {a j : Nat} (h : live ((S.drop a).take j) = []) (hj : (S.drop a).length ≤ j) : slotV (live (S.drop a)).head? = (zVl, zVl, false) := by rw [head_none h hj]; rfl
theorem okeys_step {S : List Slt} {i : Nat} {s : Slt} (h : S[i]? = some s) : okeys (S.take (i + 1)) = if s.gone then okeys (S.take i) else okeys (S.take i) ++ [s.key] := by
  unfold okeys; rw [live_take h]; split <;> simp
theorem okeys_len (S : List Slt) : (okeys S).length ≤ S.length := by unfold okeys; rw [List.length_map]; exact cnt_le S
theorem set_same {α : Type} {L : List α} {i : Nat} {x : α} (h : L[i]? = some x) : L.set i x = L := by
  obtain ⟨hi, e⟩ := List.getElem?_eq_some_iff.1 h
  rw [← e]; simp
theorem okKey_bad {k : Vl} (h : k.kind = 0 ∨ validB k = false) : okKey k = false := by unfold okKey; rcases h with h | h <;> simp [h]
theorem okKey_good {k : Vl} (h0 : decide (k.kind = 0) = false) (h : validB k = true) : okKey k = true := by unfold okKey; rw [h0, h]; rfl
theorem osetE_bad {k v : Vl} (h : okKey k = false) : osetE k v = 13 := by unfold osetE; rw [if_pos h]
theorem osetE_val {k v : Vl} (h : okKey k = true) (hv : validB v = false) : osetE k v = 2 := by unfold osetE; rw [if_neg (by rw [h]; decide), if_pos hv]
theorem osetE_ok {k v : Vl} (h : okKey k = true) (hv : validB v = true) : osetE k v = 0 := by unfold osetE; rw [if_neg (by rw [h]; decide), if_neg (by rw [hv]; decide)]
theorem nil_val {v : Vl} (h : validB v = true) (h0 : v.kind = 0) : v = zVl := by
  unfold validB at h; rw [if_pos h0, decide_eq_true_eq] at h; exact h
theorem omset_s {Z : Zone} {F : List Asr} {b : Nat} {S : List Slt} (hs : S.length ≤ 1000000) (k v : Vl) : SF Tryz.prog 195 #[.pointer (some ⟨b, 0, none⟩), k.v, v.v] Z (omA b S :: F) fun r Bs => r = .int .i64 (osetE k v) ∧ Bs = omA b (osetL S k v) :: F := by
 refine sf_enter Tryz.func195 130 [(0, pB b 0), (1, .agg #[.int .i64 k.kind, .int .i64 k.p, .int .i64 k.q, .string k.str, .int .i64 k.ref]), (2, .agg #[.int .i64 v.kind, .int .i64 v.p, .int .i64 v.q, .string v.str, .int .i64 v.ref])] (fun w0 => ?_)
 refine k_fact (fun H h => om_inv (h.re [0] [])) (fun hinv0 => ?_)
 have hcl0 := cnt_le S
 refine k_sr ?_
 refine s_box #[.int .i64 k.kind, .int .i64 k.p, .int .i64 k.q, .string k.str, .int .i64 k.ref] (fun g1 => ?_)
 refine s_box #[.int .i64 v.kind, .int .i64 v.p, .int .i64 v.q, .string v.str, .int .i64 v.ref] (fun g2 => ?_)
 refine sp (.int .i64 0) ?_
 refine s_nt ?_
 refine k_seq ?_
 refine k_block ?_
 refine k_sr ?_
 refine sp (pB b 0) ?_
 refine sp (.bool false) ?_
 refine sp (.bool false) ?_
 refine s_nt ?_
 refine k_false ?_
 refine k_cut (ι := Unit) (fun _ => True) (fun _ => [(0, pB b 0), (4, pB g1 0), (5, pB g2 0), (13, .bool ((decide (k.kind = 0)) || (!(validB k))))]) (fun _ => blkA g2 #[.int .i64 v.kind, .int .i64 v.p, .int .i64 v.q, .string v.str, .int .i64 v.ref] 71 :: blkA g1 #[.int .i64 k.kind, .int .i64 k.p, .int .i64 k.q, .string k.str, .int .i64 k.ref] 71 :: omA b S :: F) ?_ (fun _ _ => ?_)
 ·
  refine k_reg ?_
  refine sp (pB g1 0) ?_
  refine s_lt (t_load 1 (.int .i64 k.kind)) ?_
  refine s_lt t_cmp ?_
  refine sp (.bool (decide (k.kind = 0))) ?_
  refine s_fork 17 (decide (k.kind = 0)) (fun c3 => ?_) (fun c3 => ?_)
  ·
   have p4 := of_decide_eq_true c3
   refine s_skip ?_
   refine s_skip ?_
   refine s_skip ?_
   refine sp (.bool true) ?_
   refine sp (.bool true) ?_
   refine s_nil ?_
   exact xs_cut () trivial (sub_of rfl ⟨⟨rfl, rfl⟩, ⟨⟨rfl, rfl⟩, ⟨⟨rfl, rfl⟩, ⟨⟨rfl, show Value.bool true = Value.bool ((decide (k.kind = 0)) || (!(validB k))) by first | (simp only [c3, bls]; done) | simp [c3]⟩, trivial⟩⟩⟩⟩) (fun _ h => h.re [0, 0, 0] [])
  ·
   have p5 := of_decide_eq_false c3
   refine s_lt (t_loadA 1 #[.int .i64 k.kind, .int .i64 k.p, .int .i64 k.q, .string k.str, .int .i64 k.ref]) ?_
   refine s_vcall (fun _ h => valid_s k) ?_
   rintro _ rfl
   refine sp (.bool (!(validB k))) ?_
   refine sp (.bool (!(validB k))) ?_
   refine sp (.bool (!(validB k))) ?_
   refine s_nil ?_
   exact xs_cut () trivial (sub_of rfl ⟨⟨rfl, rfl⟩, ⟨⟨rfl, rfl⟩, ⟨⟨rfl, rfl⟩, ⟨⟨rfl, show Value.bool (!(validB k)) = Value.bool ((decide (k.kind = 0)) || (!(validB k))) by first | (simp only [c3, bls]; done) | simp [c3]⟩, trivial⟩⟩⟩⟩) (fun _ h => h.re [0, 0, 0] [])
 ·
  refine k_cond ((decide (k.kind = 0)) || (!(validB k))) (fun c6 => ?_) (fun c6 => ?_)
  ·
   have p7 := c6
   simp only [Bool.and_eq_true, Bool.or_eq_true, Bool.and_eq_false_iff, Bool.or_eq_false_iff, Bool.not_eq_true', Bool.not_eq_false', decide_eq_true_eq, decide_eq_false_iff_not] at p7
   refine k_sr ?_
   refine sp (.int .i64 13) ?_
   refine s_nt ?_
   refine k_ret ?_
   refine xs_retBlock ?_
   refine xs_ret ?_
   have hk := okKey_bad p7
   refine xs_fin [.int .i64 13] (omA b S :: F) (SI.tmp 6 SI.nil) (fun _ h => h.re [2] [1, 1]) ⟨congrArg (Value.int .i64) (osetE_bad hk).symm, ?_⟩
   rw [osetL_bad (v := v) (.inl hk)]
  ·
   obtain ⟨c8, c9⟩ := or_f c6
   have p10 := of_decide_eq_false c8
   have c11 := not_f c9
   refine k_sr ?_
   refine s_lt (t_loadA 0 #[.int .i64 v.kind, .int .i64 v.p, .int .i64 v.q, .string v.str, .int .i64 v.ref]) ?_
   refine s_vcall (fun _ h => valid_s v) ?_
   rintro _ rfl
   refine sp (.bool (!(validB v))) ?_
   refine sp (.bool (!(validB v))) ?_
   refine s_nt ?_
   refine k_cond (!(validB v)) (fun c12 => ?_) (fun c12 => ?_)
   ·
    have c13 := not_t c12
    refine k_sr ?_
    refine sp (.int .i64 2) ?_
    refine s_nt ?_
    refine k_ret ?_
    refine xs_retBlock ?_
    refine xs_ret ?_
    have hk := okKey_good c8 c11
    refine xs_fin [.int .i64 2] (omA b S :: F) (SI.tmp 6 SI.nil) (fun _ h => h.re [2] [1, 1]) ⟨congrArg (Value.int .i64) (osetE_val hk c13).symm, ?_⟩
    rw [osetL_bad (v := v) (.inr c13)]
   ·
    have c14 := not_f c12
    refine k_skip ?_
    refine xs_block ?_
    refine xs_then ?_
    refine k_seq ?_
    refine k_draw ?_
    refine sp (pB b 0) ?_
    refine sp (pB b 0) ?_
    refine sp (pB b 1) ?_
    refine s_mem3 (fun H h => om_open (h.re [2] [])) (fun sv15 mb16 m17 hw => ?_)
    obtain ⟨hinv18, hag19⟩ := hw
    refine s_lt (t_load 0 (.map (some mb16))) ?_
    refine s_lt (t_loadA 4 #[.int .i64 k.kind, .int .i64 k.p, .int .i64 k.q, .string k.str, .int .i64 k.ref]) ?_
    rcases last_cases hag19 hinv18 k with ⟨hl20, hm21, ht22, hg23⟩ | ⟨i24, s25, hl26, hm27, hs28, hk29, hg30, ht31⟩
    ·
     refine s_lt (Lt.to (v' := .tuple #[.int .i64 0, .bool false]) (t_lookupOk 2 vK_ok Tryz.underlying222 (.int .i64 0) k) (by rw [hm21]; rfl)) ?_
     refine sp (.tuple #[.int .i64 0, .bool false]) ?_
     refine sp (.int .i64 0) ?_
     refine sp (.bool false) ?_
     refine sp (.int .i64 0) ?_
     refine sp (.bool false) ?_
     refine s_nil ?_
     refine x_dynS (fun _ h => by kernel_rfl) ?_
     refine xs_then ?_
     refine k_sr ?_
     refine sp (.bool false) ?_
     refine sp (.bool false) ?_
     refine s_skip ?_
     refine s_skip ?_
     refine s_skip ?_
     refine s_skip ?_
     refine s_skip ?_
     refine s_skip ?_
     refine s_skip ?_
     refine s_skip ?_
     refine s_skip ?_
     refine sp (.bool false) ?_
     refine sp (.bool false) ?_
     refine s_nt ?_
     refine k_seq ?_
     refine k_block ?_
     refine k_cut (ι := Unit) (fun _ => True) (fun _ => [(0, pB b 0), (4, pB g1 0), (5, pB g2 0), (7, .int .i64 0), (9, .bool false), (94, .bool false)]) (fun _ => blkA b #[sv15, .map (some mb16), .int .i64 (cnt S : Int)] 225 :: own SltT sv15 S :: mpA vK nV mb16 m17 :: blkA g2 #[.int .i64 v.kind, .int .i64 v.p, .int .i64 v.q, .string v.str, .int .i64 v.ref] 71 :: blkA g1 #[.int .i64 k.kind, .int .i64 k.p, .int .i64 k.q, .string k.str, .int .i64 k.ref] 71 :: F) ?_ (fun _ _ => ?_)
     ·
      refine k_reg ?_
      refine sp (pB g2 0) ?_
      refine s_lt (t_load 3 (.int .i64 v.kind)) ?_
      refine s_lt t_cmp ?_
      refine sp (.bool (decide (v.kind = 0))) ?_
      refine s_fork 98 (decide (v.kind = 0)) (fun c32 => ?_) (fun c32 => ?_)
      ·
       have p33 := of_decide_eq_true c32
       refine sp (.bool false) ?_
       refine sp (.bool false) ?_
       refine sp (.bool false) ?_
       refine s_nil ?_
       exact xcut () (fun _ h => h.re [0, 0, 0, 0, 0] [])
      ·
       have p34 := of_decide_eq_false c32
       refine s_skip ?_
       refine sp (.bool false) ?_
       refine sp (.bool false) ?_
       refine s_nil ?_
       exact xcut () (fun _ h => h.re [0, 0, 0, 0, 0] [])
     ·
      refine k_false ?_
      refine k_sr ?_
      refine sp (pB g2 0) ?_
      refine s_lt (t_load 3 (.int .i64 v.kind)) ?_
      refine s_lt t_cmp ?_
      refine sp (.bool (decide (v.kind = 0))) ?_
      refine s_nt ?_
      refine k_cond (decide (v.kind = 0)) (fun c35 => ?_) (fun c35 => ?_)
      ·
       have p36 := of_decide_eq_true c35
       refine k_skip ?_
       refine xs_block ?_
       refine xs_then ?_
       refine k_sr ?_
       refine sp (.int .i64 0) ?_
       refine s_nt ?_
       refine k_ret ?_
       have hk := okKey_good c8 c11
       have hS : osetL S k v = S := by rw [osetL_rem hk c14 (of_decide_eq_true c35), ht22]
       have hinv1 : OInv S := by rw [← hS]; exact osetL_inv hinv0 k v
       refine xs_mem (fun _ h => om_shut (S := S) (n := (cnt S : Int)) ⟨⟨hinv1, hag19⟩, rfl⟩ (h.re [0, 0, 0] [])) ?_
       refine xs_fin [.int .i64 0] (omA b S :: F) (SI.tmp 6 SI.nil) (fun _ h => h.re [0] [1, 1]) ⟨congrArg (Value.int .i64) (osetE_ok hk c14).symm, ?_⟩
       rw [hS]
      ·
       have p37 := of_decide_eq_false c35
       refine k_sr ?_
       refine sp (.bool false) ?_
       refine sp (.bool false) ?_
       refine s_nt ?_
       refine k_false ?_
       refine k_seq ?_
       refine k_seq ?_
       refine k_draw ?_
       refine sp (pB b 0) ?_
       refine sp (pB b 0) ?_
       refine sp (pB b 0) ?_
       refine s_lt (t_load 0 sv15) ?_
       refine s_fact (fun H h => ((Acc.own (T := SltT) (L := S) 1 rfl) H h).form) (fun hf38 => ?_)
       refine s_lt (t_len SltT_ok Tryz.underlying223 (.own 1)) ?_
       refine sp (pB b 0) ?_
       refine sp (pB b 0) ?_
       refine sp (pB b 2) ?_
       refine s_lt (t_load 0 (.int .i64 (cnt S : Int))) ?_
       refine s_lt (t_sub (S.length : Int) (cnt S : Int) (by (try simp only [lnm]); omega)) ?_
       refine sp (pB b 0) ?_
       refine sp (pB b 0) ?_
       refine sp (pB b 2) ?_
       refine s_lt (t_load 0 (.int .i64 (cnt S : Int))) ?_
       refine s_lt (t_add (cnt S : Int) 8 (by (try simp only [lnm]); omega)) ?_
       refine s_lt t_cmp ?_
       refine s_nil ?_
       refine x_dynS (fun _ h => by obtain ⟨_, _, e⟩ := hf38; subst e; kernel_rfl) ?_
       refine xs_then ?_
       refine k_cond (decide (((cnt S : Int) + 8) < ((S.length : Int) - (cnt S : Int)))) (fun c39 => ?_) (fun c39 => ?_)
       ·
        have p40 := of_decide_eq_true c39
        refine k_reg ?_
        refine sp (pB b 0) ?_
        refine s_mem (fun _ h => om_shut (S := S) (n := (cnt S : Int)) ⟨⟨hinv18, hag19⟩, rfl⟩ (h.re [0, 0, 0] [])) ?_
        refine s_call [0] (omdrop_s (S := S) (by omega)) ?_
        rintro _ _ ⟨rfl, rfl⟩
        have hll41 := cnt_le S
        have hll42 := cnt_live S
        have hll43 : (live S).length = cnt S := rfl
        refine s_nt ?_
        refine k_seq ?_
        refine k_draw ?_
        refine sp (pB b 0) ?_
        refine sp (pB b 0) ?_
        refine sp (pB b 1) ?_
        refine s_mem3 (fun H h => om_open (h.re [0] [])) (fun sv44 mb45 m46 hw => ?_)
        obtain ⟨hinv47, hag48⟩ := hw
        refine s_lt (t_load 0 (.map (some mb45))) ?_
        refine s_lt (t_loadA 4 #[.int .i64 k.kind, .int .i64 k.p, .int .i64 k.q, .string k.str, .int .i64 k.ref]) ?_
        refine sp (pB b 0) ?_
        refine sp (pB b 0) ?_
        refine sp (pB b 0) ?_
        refine s_lt (t_load 0 sv44) ?_
        refine s_fact (fun H h => ((Acc.own (T := SltT) (L := (live S)) 1 rfl) H h).form) (fun hf49 => ?_)
        refine s_lt (t_len SltT_ok Tryz.underlying223 (.own 1)) ?_
        refine s_update 2 vK_ok Tryz.underlying222 k ((live S).length) ?_
        refine s_nil ?_
        refine x_dynS (fun _ h => by obtain ⟨_, _, e⟩ := hf49; subst e; kernel_rfl) ?_
        refine xs_then ?_
        refine k_seq ?_
        refine k_draw ?_
        refine sp (pB b 0) ?_
        refine sp (pB b 0) ?_
        refine sp (pB b 0) ?_
        refine sp (pB b 0) ?_
        refine s_lt (t_load 0 sv44) ?_
        refine s_lt (t_loadA 4 #[.int .i64 k.kind, .int .i64 k.p, .int .i64 k.q, .string k.str, .int .i64 k.ref]) ?_
        refine s_lt (t_loadA 3 #[.int .i64 v.kind, .int .i64 v.p, .int .i64 v.q, .string v.str, .int .i64 v.ref]) ?_
        refine s_lt (t_kern (.agg #[.int .i64 k.kind, .int .i64 k.p, .int .i64 k.q, .string k.str, .int .i64 k.ref, .int .i64 v.kind, .int .i64 v.p, .int .i64 v.q, .string v.str, .int .i64 v.ref, .bool false])) ?_
        refine s_buildSlice (e := 261) [(0, .agg #[.int .i64 k.kind, .int .i64 k.p, .int .i64 k.q, .string k.str, .int .i64 k.ref, .int .i64 v.kind, .int .i64 v.p, .int .i64 v.q, .string v.str, .int .i64 v.ref, .bool false])] #[.int .i64 k.kind, .int .i64 k.p, .int .i64 k.q, .string k.str, .int .i64 k.ref, .int .i64 v.kind, .int .i64 v.p, .int .i64 v.q, .string v.str, .int .i64 v.ref, .bool false] (fun g50 => ?_) (hb := by kernel_rfl)
        refine s_append (L := (live S)) 2 SltT_ok Tryz.underlying223 (.lit 0 SltT_ok [(⟨k, v, false⟩ : Slt)]) (by show _ * 104 ≤ _; (try simp only [lnm]); omega) (by (try simp only [lnm]); omega) (fun v51 => ?_)
        refine sp (pB b 0) ?_
        refine sp (pB b 0) ?_
        refine s_fact (fun H h => ((Acc.own (T := SltT) (L := ((live S) ++ [(⟨k, v, false⟩ : Slt)])) 2 rfl) H h).form) (fun hf52 => ?_)
        refine s_store (u := v51) (m := 1) 1 #[v51, .map (some mb45), .int .i64 (cnt (live S) : Int)] ?_ (hm := by (obtain ⟨_, _, e⟩ := hf52; rw [e]; rfl)) (h1 := by (obtain ⟨_, _, e⟩ := hf52; rw [e]; rfl)) (ha' := by (obtain ⟨_, _, e⟩ := hf52; rw [e]; rfl))
        refine s_nil ?_
        refine x_dynS (fun _ h => by kernel_rfl) ?_
        refine xs_then ?_
        refine k_reg ?_
        refine sp (pB b 0) ?_
        refine sp (pB b 0) ?_
        refine sp (pB b 2) ?_
        refine s_lt (t_load 1 (.int .i64 (cnt (live S) : Int))) ?_
        refine s_lt (t_add (cnt (live S) : Int) 1 (by (try simp only [lnm]); omega)) ?_
        refine sp (pB b 0) ?_
        refine sp (pB b 2) ?_
        refine s_store 1 #[v51, .map (some mb45), .int .i64 ((cnt (live S) : Int) + 1)] ?_
        refine s_nil ?_
        refine xs_block ?_
        refine xs_then ?_
        refine k_sr ?_
        refine sp (.int .i64 0) ?_
        refine s_nt ?_
        refine k_ret ?_
        have hk := okKey_good c8 c11
        have hcl := cnt_le S
        have hS : osetL S k v = ((live S) ++ [(⟨k, v, false⟩ : Slt)]) := by rw [osetL_put hk c14 (of_decide_eq_false c35), ht22]; show (if _ then _ else _) ++ _ = _; rw [if_pos (by have hx := of_decide_eq_true c39; omega)]
        have hinv1 : OInv ((live S) ++ [(⟨k, v, false⟩ : Slt)]) := by rw [← hS]; exact osetL_inv hinv0 k v
        refine xs_mem (fun _ h => om_shut (S := ((live S) ++ [(⟨k, v, false⟩ : Slt)])) (n := ((cnt (live S) : Int) + 1)) ⟨⟨hinv1, agr_snoc hag48 k v⟩, by rw [cnt_snoc]; try rfl⟩ (h.re [1, 1, 1] [])) ?_
        refine xs_fin [.int .i64 0] (omA b ((live S) ++ [(⟨k, v, false⟩ : Slt)]) :: F) (SI.tmp 6 SI.nil) (fun _ h => h.re [0] [1, 1, 1]) ⟨congrArg (Value.int .i64) (osetE_ok hk c14).symm, ?_⟩
        rw [hS]
       ·
        have p53 := of_decide_eq_false c39
        refine k_st ?_
        refine k_seq ?_
        refine k_draw ?_
        refine sp (pB b 0) ?_
        refine sp (pB b 0) ?_
        refine sp (pB b 1) ?_
        refine s_lt (t_load 0 (.map (some mb16))) ?_
        refine s_lt (t_loadA 4 #[.int .i64 k.kind, .int .i64 k.p, .int .i64 k.q, .string k.str, .int .i64 k.ref]) ?_
        refine sp (pB b 0) ?_
        refine sp (pB b 0) ?_
        refine sp (pB b 0) ?_
        refine s_lt (t_load 0 sv15) ?_
        refine s_lt (t_len SltT_ok Tryz.underlying223 (.own 1)) ?_
        refine s_update 2 vK_ok Tryz.underlying222 k S.length ?_
        refine s_nil ?_
        refine x_dynS (fun _ h => by obtain ⟨_, _, e⟩ := hf38; subst e; kernel_rfl) ?_
        refine xs_then ?_
        refine k_seq ?_
        refine k_draw ?_
        refine sp (pB b 0) ?_
        refine sp (pB b 0) ?_
        refine sp (pB b 0) ?_
        refine sp (pB b 0) ?_
        refine s_lt (t_load 0 sv15) ?_
        refine s_lt (t_loadA 4 #[.int .i64 k.kind, .int .i64 k.p, .int .i64 k.q, .string k.str, .int .i64 k.ref]) ?_
        refine s_lt (t_loadA 3 #[.int .i64 v.kind, .int .i64 v.p, .int .i64 v.q, .string v.str, .int .i64 v.ref]) ?_
        refine s_lt (t_kern (.agg #[.int .i64 k.kind, .int .i64 k.p, .int .i64 k.q, .string k.str, .int .i64 k.ref, .int .i64 v.kind, .int .i64 v.p, .int .i64 v.q, .string v.str, .int .i64 v.ref, .bool false])) ?_
        refine s_buildSlice (e := 261) [(0, .agg #[.int .i64 k.kind, .int .i64 k.p, .int .i64 k.q, .string k.str, .int .i64 k.ref, .int .i64 v.kind, .int .i64 v.p, .int .i64 v.q, .string v.str, .int .i64 v.ref, .bool false])] #[.int .i64 k.kind, .int .i64 k.p, .int .i64 k.q, .string k.str, .int .i64 k.ref, .int .i64 v.kind, .int .i64 v.p, .int .i64 v.q, .string v.str, .int .i64 v.ref, .bool false] (fun g54 => ?_) (hb := by kernel_rfl)
        refine s_append (L := S) 2 SltT_ok Tryz.underlying223 (.lit 0 SltT_ok [(⟨k, v, false⟩ : Slt)]) (by show _ * 104 ≤ _; (try simp only [lnm]); omega) (by (try simp only [lnm]); omega) (fun v55 => ?_)
        refine sp (pB b 0) ?_
        refine sp (pB b 0) ?_
        refine s_fact (fun H h => ((Acc.own (T := SltT) (L := (S ++ [(⟨k, v, false⟩ : Slt)])) 2 rfl) H h).form) (fun hf56 => ?_)
        refine s_store (u := v55) (m := 1) 1 #[v55, .map (some mb16), .int .i64 (cnt S : Int)] ?_ (hm := by (obtain ⟨_, _, e⟩ := hf56; rw [e]; rfl)) (h1 := by (obtain ⟨_, _, e⟩ := hf56; rw [e]; rfl)) (ha' := by (obtain ⟨_, _, e⟩ := hf56; rw [e]; rfl))
        refine s_nil ?_
        refine x_dynS (fun _ h => by kernel_rfl) ?_
        refine xs_then ?_
        refine k_reg ?_
        refine sp (pB b 0) ?_
        refine sp (pB b 0) ?_
        refine sp (pB b 2) ?_
        refine s_lt (t_load 1 (.int .i64 (cnt S : Int))) ?_
        refine s_lt (t_add (cnt S : Int) 1 (by (try simp only [lnm]); omega)) ?_
        refine sp (pB b 0) ?_
        refine sp (pB b 2) ?_
        refine s_store 1 #[v55, .map (some mb16), .int .i64 ((cnt S : Int) + 1)] ?_
        refine s_nil ?_
        refine xs_block ?_
        refine xs_then ?_
        refine k_sr ?_
        refine sp (.int .i64 0) ?_
        refine s_nt ?_
        refine k_ret ?_
        have hk := okKey_good c8 c11
        have hcl := cnt_le S
        have hS : osetL S k v = (S ++ [(⟨k, v, false⟩ : Slt)]) := by rw [osetL_put hk c14 (of_decide_eq_false c35), ht22]; show (if _ then _ else _) ++ _ = _; rw [if_neg (by have hx := of_decide_eq_false c39; omega)]
        have hinv1 : OInv (S ++ [(⟨k, v, false⟩ : Slt)]) := by rw [← hS]; exact osetL_inv hinv0 k v
        refine xs_mem (fun _ h => om_shut (S := (S ++ [(⟨k, v, false⟩ : Slt)])) (n := ((cnt S : Int) + 1)) ⟨⟨hinv1, agr_snoc hag19 k v⟩, by rw [cnt_snoc]; try rfl⟩ (h.re [1, 1, 1] [])) ?_
        refine xs_fin [.int .i64 0] (omA b (S ++ [(⟨k, v, false⟩ : Slt)]) :: F) (SI.tmp 6 SI.nil) (fun _ h => h.re [0] [1, 1, 1]) ⟨congrArg (Value.int .i64) (osetE_ok hk c14).symm, ?_⟩
        rw [hS]
    ·
     have hlt57 : i24 < S.length := (List.getElem?_eq_some_iff.1 hs28).1
     refine s_lt (Lt.to (v' := .tuple #[.int .i64 (i24 : Int), .bool true]) (t_lookupOk 2 vK_ok Tryz.underlying222 (.int .i64 0) k) (by rw [hm27]; rfl)) ?_
     refine sp (.tuple #[.int .i64 (i24 : Int), .bool true]) ?_
     refine sp (.int .i64 (i24 : Int)) ?_
     refine sp (.bool true) ?_
     refine sp (.int .i64 (i24 : Int)) ?_
     refine sp (.bool true) ?_
     refine s_nil ?_
     refine x_dynS (fun _ h => by kernel_rfl) ?_
     refine xs_then ?_
     refine k_sr ?_
     refine sp (.bool true) ?_
     refine sp (.bool true) ?_
     refine sp (pB b 0) ?_
     refine sp (pB b 0) ?_
     refine sp (pB b 0) ?_
     refine s_lt (t_load 0 sv15) ?_
     refine sp (.int .i64 (i24 : Int)) ?_
     refine s_lt (t_index SltT_ok Tryz.underlying223 (.own 1) (i24 : Int) i24 (by omega) (by (try simp only [lnm]); omega) (by omega)) ?_
     refine sp (.pointer (some ((elemAt SltT.size sv15 i24).add 10))) ?_
     refine s_lt (t_loadF 10 SltT_ok (.own 1) hs28) ?_
     refine sp (.bool (!s25.gone)) ?_
     refine sp (.bool (!s25.gone)) ?_
     refine sp (.bool (!s25.gone)) ?_
     refine s_nt ?_
     refine k_seq ?_
     refine k_block ?_
     refine k_cut (ι := Unit) (fun _ => True) (fun _ => [(0, pB b 0), (4, pB g1 0), (5, pB g2 0), (7, .int .i64 (i24 : Int)), (9, .bool (!s25.gone)), (94, .bool ((decide (v.kind = 0)) && (!s25.gone)))]) (fun _ => blkA b #[sv15, .map (some mb16), .int .i64 (cnt S : Int)] 225 :: own SltT sv15 S :: mpA vK nV mb16 m17 :: blkA g2 #[.int .i64 v.kind, .int .i64 v.p, .int .i64 v.q, .string v.str, .int .i64 v.ref] 71 :: blkA g1 #[.int .i64 k.kind, .int .i64 k.p, .int .i64 k.q, .string k.str, .int .i64 k.ref] 71 :: F) ?_ (fun _ _ => ?_)
     ·
      refine k_reg ?_
      refine sp (pB g2 0) ?_
      refine s_lt (t_load 3 (.int .i64 v.kind)) ?_
      refine s_lt t_cmp ?_
      refine sp (.bool (decide (v.kind = 0))) ?_
      refine s_fork 98 (decide (v.kind = 0)) (fun c58 => ?_) (fun c58 => ?_)
      ·
       have p59 := of_decide_eq_true c58
       refine sp (.bool (!s25.gone)) ?_
       refine sp (.bool (!s25.gone)) ?_
       refine sp (.bool (!s25.gone)) ?_
       refine s_nil ?_
       exact xs_cut () trivial (sub_of rfl ⟨⟨rfl, rfl⟩, ⟨⟨rfl, rfl⟩, ⟨⟨rfl, rfl⟩, ⟨⟨rfl, rfl⟩, ⟨⟨rfl, rfl⟩, ⟨⟨rfl, show Value.bool (!s25.gone) = Value.bool ((decide (v.kind = 0)) && (!s25.gone)) by first | (simp only [c58, bls]; done) | simp [c58]⟩, trivial⟩⟩⟩⟩⟩⟩) (fun _ h => h.re [0, 0, 0, 0, 0] [])
      ·
       have p60 := of_decide_eq_false c58
       refine s_skip ?_
       refine sp (.bool false) ?_
       refine sp (.bool false) ?_
       refine s_nil ?_
       exact xs_cut () trivial (sub_of rfl ⟨⟨rfl, rfl⟩, ⟨⟨rfl, rfl⟩, ⟨⟨rfl, rfl⟩, ⟨⟨rfl, rfl⟩, ⟨⟨rfl, rfl⟩, ⟨⟨rfl, show Value.bool false = Value.bool ((decide (v.kind = 0)) && (!s25.gone)) by first | (simp only [c58, bls]; done) | simp [c58]⟩, trivial⟩⟩⟩⟩⟩⟩) (fun _ h => h.re [0, 0, 0, 0, 0] [])
     ·
      refine k_cond ((decide (v.kind = 0)) && (!s25.gone)) (fun c61 => ?_) (fun c61 => ?_)
      ·
       obtain ⟨c62, c63⟩ := and_t c61
       have p64 := of_decide_eq_true c62
       have c65 := not_t c63
       refine k_seq ?_
       refine k_draw ?_
       refine sp (pB b 0) ?_
       refine sp (pB b 0) ?_
       refine sp (pB b 0) ?_
       refine s_lt (t_load 0 sv15) ?_
       refine sp (.int .i64 (i24 : Int)) ?_
       refine s_lt (t_loadA 4 #[.int .i64 k.kind, .int .i64 k.p, .int .i64 k.q, .string k.str, .int .i64 k.ref]) ?_
       refine s_lt (t_kern (.agg #[.int .i64 k.kind, .int .i64 k.p, .int .i64 k.q, .string k.str, .int .i64 k.ref, .int .i64 0, .int .i64 0, .int .i64 0, .string ByteArray.empty, .int .i64 0, .bool true])) ?_
       refine s_lt (t_index SltT_ok Tryz.underlying223 (.own 1) (i24 : Int) i24 (by omega) (by (try simp only [lnm]); omega) (by omega)) ?_
       refine s_storeE 1 0 (⟨k, zVl, true⟩ : Slt) SltT_ok hs28 ?_
       refine s_nil ?_
       refine x_dynS (fun _ h => by kernel_rfl) ?_
       refine xs_then ?_
       refine k_reg ?_
       refine sp (pB b 0) ?_
       refine sp (pB b 0) ?_
       refine sp (pB b 2) ?_
       refine s_lt (t_load 0 (.int .i64 (cnt S : Int))) ?_
       refine s_lt (t_sub (cnt S : Int) 1 (by (try simp only [lnm]); omega)) ?_
       refine sp (pB b 0) ?_
       refine sp (pB b 2) ?_
       refine s_store 0 #[sv15, .map (some mb16), .int .i64 ((cnt S : Int) - 1)] ?_
       refine s_nil ?_
       refine xs_block ?_
       refine xs_then ?_
       refine k_sr ?_
       refine sp (.int .i64 0) ?_
       refine s_nt ?_
       refine k_ret ?_
       have hk := okKey_good c8 c11
       have hS : osetL S k v = (S.set i24 (⟨k, zVl, true⟩ : Slt)) := by rw [osetL_rem hk c14 (of_decide_eq_true c62), ht31, if_neg (by rw [c65]; decide)]
       have hinv1 : OInv (S.set i24 (⟨k, zVl, true⟩ : Slt)) := by rw [← hS]; exact osetL_inv hinv0 k v
       refine xs_mem (fun _ h => om_shut (S := (S.set i24 (⟨k, zVl, true⟩ : Slt))) (n := ((cnt S : Int) - 1)) ⟨⟨hinv1, agr_set hag19 hl26 rfl⟩, (cnt_gone hs28 c65 k).symm⟩ (h.re [0, 0, 0] [])) ?_
       refine xs_fin [.int .i64 0] (omA b (S.set i24 (⟨k, zVl, true⟩ : Slt)) :: F) (SI.tmp 6 SI.nil) (fun _ h => h.re [0] [1, 1]) ⟨congrArg (Value.int .i64) (osetE_ok hk c14).symm, ?_⟩
       rw [hS]
      ·
       have p66 := c61
       simp only [Bool.and_eq_true, Bool.or_eq_true, Bool.and_eq_false_iff, Bool.or_eq_false_iff, Bool.not_eq_true', Bool.not_eq_false', decide_eq_true_eq, decide_eq_false_iff_not] at p66
       refine k_sr ?_
       refine sp (pB g2 0) ?_
       refine s_lt (t_load 3 (.int .i64 v.kind)) ?_
       refine s_lt t_cmp ?_
       refine sp (.bool (decide (v.kind = 0))) ?_
       refine s_nt ?_
       refine k_cond (decide (v.kind = 0)) (fun c67 => ?_) (fun c67 => ?_)
       ·
        have p68 := of_decide_eq_true c67
        refine k_skip ?_
        refine xs_block ?_
        refine xs_then ?_
        refine k_sr ?_
        refine sp (.int .i64 0) ?_
        refine s_nt ?_
        refine k_ret ?_
        have hk := okKey_good c8 c11
        have hgg : s25.gone = true := by have hx := p66; have hy := of_decide_eq_true c67; simpa [hy] using hx
        have hS : osetL S k v = S := by rw [osetL_rem hk c14 (of_decide_eq_true c67), ht31, if_pos hgg]
        have hinv1 : OInv S := by rw [← hS]; exact osetL_inv hinv0 k v
        refine xs_mem (fun _ h => om_shut (S := S) (n := (cnt S : Int)) ⟨⟨hinv1, hag19⟩, rfl⟩ (h.re [0, 0, 0] [])) ?_
        refine xs_fin [.int .i64 0] (omA b S :: F) (SI.tmp 6 SI.nil) (fun _ h => h.re [0] [1, 1]) ⟨congrArg (Value.int .i64) (osetE_ok hk c14).symm, ?_⟩
        rw [hS]
       ·
        have p69 := of_decide_eq_false c67
        refine k_sr ?_
        refine sp (.bool (!s25.gone)) ?_
        refine sp (.bool (!s25.gone)) ?_
        refine s_nt ?_
        refine k_cond (!s25.gone) (fun c70 => ?_) (fun c70 => ?_)
        ·
         have c71 := not_t c70
         refine k_draw ?_
         refine sp (pB b 0) ?_
         refine sp (pB b 0) ?_
         refine sp (pB b 0) ?_
         refine s_lt (t_load 0 sv15) ?_
         refine sp (.int .i64 (i24 : Int)) ?_
         refine s_lt (t_loadA 3 #[.int .i64 v.kind, .int .i64 v.p, .int .i64 v.q, .string v.str, .int .i64 v.ref]) ?_
         refine s_lt (t_index SltT_ok Tryz.underlying223 (.own 1) (i24 : Int) i24 (by omega) (by (try simp only [lnm]); omega) (by omega)) ?_
         refine sp (.pointer (some ((elemAt SltT.size sv15 i24).add 5))) ?_
         refine s_storeE 1 5 (⟨s25.key, v, s25.gone⟩ : Slt) SltT_ok hs28 ?_
         refine s_nil ?_
         refine x_dynS (fun _ h => by kernel_rfl) ?_
         refine xs_block ?_
         refine xs_then ?_
         refine k_sr ?_
         refine sp (.int .i64 0) ?_
         refine s_nt ?_
         refine k_ret ?_
         have hk := okKey_good c8 c11
         have hS : osetL S k v = (S.set i24 (⟨s25.key, v, s25.gone⟩ : Slt)) := by rw [osetL_put hk c14 (of_decide_eq_false c67), ht31, if_neg (by rw [c71]; decide), hk29, c71]
         have hinv1 : OInv (S.set i24 (⟨s25.key, v, s25.gone⟩ : Slt)) := by rw [← hS]; exact osetL_inv hinv0 k v
         refine xs_mem (fun _ h => om_shut (S := (S.set i24 (⟨s25.key, v, s25.gone⟩ : Slt))) (n := (cnt S : Int)) ⟨⟨hinv1, agr_set hag19 hl26 hk29⟩, by rw [c71]; exact congrArg (fun n : Nat => (n : Int)) (cnt_val hs28 c71 _ _).symm⟩ (h.re [0, 0, 0] [])) ?_
         refine xs_fin [.int .i64 0] (omA b (S.set i24 (⟨s25.key, v, s25.gone⟩ : Slt)) :: F) (SI.tmp 6 SI.nil) (fun _ h => h.re [0] [1, 1]) ⟨congrArg (Value.int .i64) (osetE_ok hk c14).symm, ?_⟩
         rw [hS]
        ·
         have c72 := not_f c70
         refine k_seq ?_
         refine k_seq ?_
         refine k_draw ?_
         refine sp (pB b 0) ?_
         refine sp (pB b 0) ?_
         refine sp (pB b 0) ?_
         refine s_lt (t_load 0 sv15) ?_
         refine s_fact (fun H h => ((Acc.own (T := SltT) (L := S) 1 rfl) H h).form) (fun hf73 => ?_)
         refine s_lt (t_len SltT_ok Tryz.underlying223 (.own 1)) ?_
         refine sp (pB b 0) ?_
         refine sp (pB b 0) ?_
         refine sp (pB b 2) ?_
         refine s_lt (t_load 0 (.int .i64 (cnt S : Int))) ?_
         refine s_lt (t_sub (S.length : Int) (cnt S : Int) (by (try simp only [lnm]); omega)) ?_
         refine sp (pB b 0) ?_
         refine sp (pB b 0) ?_
         refine sp (pB b 2) ?_
         refine s_lt (t_load 0 (.int .i64 (cnt S : Int))) ?_
         refine s_lt (t_add (cnt S : Int) 8 (by (try simp only [lnm]); omega)) ?_
         refine s_lt t_cmp ?_
         refine s_nil ?_
         refine x_dynS (fun _ h => by obtain ⟨_, _, e⟩ := hf73; subst e; kernel_rfl) ?_
         refine xs_then ?_
         refine k_cond (decide (((cnt S : Int) + 8) < ((S.length : Int) - (cnt S : Int)))) (fun c74 => ?_) (fun c74 => ?_)
         ·
          have p75 := of_decide_eq_true c74
          refine k_reg ?_
          refine sp (pB b 0) ?_
          refine s_mem (fun _ h => om_shut (S := S) (n := (cnt S : Int)) ⟨⟨hinv18, hag19⟩, rfl⟩ (h.re [0, 0, 0] [])) ?_
          refine s_call [0] (omdrop_s (S := S) (by omega)) ?_
          rintro _ _ ⟨rfl, rfl⟩
          have hll76 := cnt_le S
          have hll77 := cnt_live S
          have hll78 : (live S).length = cnt S := rfl
          refine s_nt ?_
          refine k_seq ?_
          refine k_draw ?_
          refine sp (pB b 0) ?_
          refine sp (pB b 0) ?_
          refine sp (pB b 1) ?_
          refine s_mem3 (fun H h => om_open (h.re [0] [])) (fun sv79 mb80 m81 hw => ?_)
          obtain ⟨hinv82, hag83⟩ := hw
          refine s_lt (t_load 0 (.map (some mb80))) ?_
          refine s_lt (t_loadA 4 #[.int .i64 k.kind, .int .i64 k.p, .int .i64 k.q, .string k.str, .int .i64 k.ref]) ?_
          refine sp (pB b 0) ?_
          refine sp (pB b 0) ?_
          refine sp (pB b 0) ?_
          refine s_lt (t_load 0 sv79) ?_
          refine s_fact (fun H h => ((Acc.own (T := SltT) (L := (live S)) 1 rfl) H h).form) (fun hf84 => ?_)
          refine s_lt (t_len SltT_ok Tryz.underlying223 (.own 1)) ?_
          refine s_update 2 vK_ok Tryz.underlying222 k ((live S).length) ?_
          refine s_nil ?_
          refine x_dynS (fun _ h => by obtain ⟨_, _, e⟩ := hf84; subst e; kernel_rfl) ?_
          refine xs_then ?_
          refine k_seq ?_
          refine k_draw ?_
          refine sp (pB b 0) ?_
          refine sp (pB b 0) ?_
          refine sp (pB b 0) ?_
          refine sp (pB b 0) ?_
          refine s_lt (t_load 0 sv79) ?_
          refine s_lt (t_loadA 4 #[.int .i64 k.kind, .int .i64 k.p, .int .i64 k.q, .string k.str, .int .i64 k.ref]) ?_
          refine s_lt (t_loadA 3 #[.int .i64 v.kind, .int .i64 v.p, .int .i64 v.q, .string v.str, .int .i64 v.ref]) ?_
          refine s_lt (t_kern (.agg #[.int .i64 k.kind, .int .i64 k.p, .int .i64 k.q, .string k.str, .int .i64 k.ref, .int .i64 v.kind, .int .i64 v.p, .int .i64 v.q, .string v.str, .int .i64 v.ref, .bool false])) ?_
          refine s_buildSlice (e := 261) [(0, .agg #[.int .i64 k.kind, .int .i64 k.p, .int .i64 k.q, .string k.str, .int .i64 k.ref, .int .i64 v.kind, .int .i64 v.p, .int .i64 v.q, .string v.str, .int .i64 v.ref, .bool false])] #[.int .i64 k.kind, .int .i64 k.p, .int .i64 k.q, .string k.str, .int .i64 k.ref, .int .i64 v.kind, .int .i64 v.p, .int .i64 v.q, .string v.str, .int .i64 v.ref, .bool false] (fun g85 => ?_) (hb := by kernel_rfl)
          refine s_append (L := (live S)) 2 SltT_ok Tryz.underlying223 (.lit 0 SltT_ok [(⟨k, v, false⟩ : Slt)]) (by show _ * 104 ≤ _; (try simp only [lnm]); omega) (by (try simp only [lnm]); omega) (fun v86 => ?_)
          refine sp (pB b 0) ?_
          refine sp (pB b 0) ?_
          refine s_fact (fun H h => ((Acc.own (T := SltT) (L := ((live S) ++ [(⟨k, v, false⟩ : Slt)])) 2 rfl) H h).form) (fun hf87 => ?_)
          refine s_store (u := v86) (m := 1) 1 #[v86, .map (some mb80), .int .i64 (cnt (live S) : Int)] ?_ (hm := by (obtain ⟨_, _, e⟩ := hf87; rw [e]; rfl)) (h1 := by (obtain ⟨_, _, e⟩ := hf87; rw [e]; rfl)) (ha' := by (obtain ⟨_, _, e⟩ := hf87; rw [e]; rfl))
          refine s_nil ?_
          refine x_dynS (fun _ h => by kernel_rfl) ?_
          refine xs_then ?_
          refine k_reg ?_
          refine sp (pB b 0) ?_
          refine sp (pB b 0) ?_
          refine sp (pB b 2) ?_
          refine s_lt (t_load 1 (.int .i64 (cnt (live S) : Int))) ?_
          refine s_lt (t_add (cnt (live S) : Int) 1 (by (try simp only [lnm]); omega)) ?_
          refine sp (pB b 0) ?_
          refine sp (pB b 2) ?_
          refine s_store 1 #[v86, .map (some mb80), .int .i64 ((cnt (live S) : Int) + 1)] ?_
          refine s_nil ?_
          refine xs_block ?_
          refine xs_then ?_
          refine k_sr ?_
          refine sp (.int .i64 0) ?_
          refine s_nt ?_
          refine k_ret ?_
          have hk := okKey_good c8 c11
          have hcl := cnt_le S
          have hS : osetL S k v = ((live S) ++ [(⟨k, v, false⟩ : Slt)]) := by rw [osetL_put hk c14 (of_decide_eq_false c67), ht31, if_pos c72]; show (if _ then _ else _) ++ _ = _; rw [if_pos (by have hx := of_decide_eq_true c74; omega)]
          have hinv1 : OInv ((live S) ++ [(⟨k, v, false⟩ : Slt)]) := by rw [← hS]; exact osetL_inv hinv0 k v
          refine xs_mem (fun _ h => om_shut (S := ((live S) ++ [(⟨k, v, false⟩ : Slt)])) (n := ((cnt (live S) : Int) + 1)) ⟨⟨hinv1, agr_snoc hag83 k v⟩, by rw [cnt_snoc]; try rfl⟩ (h.re [1, 1, 1] [])) ?_
          refine xs_fin [.int .i64 0] (omA b ((live S) ++ [(⟨k, v, false⟩ : Slt)]) :: F) (SI.tmp 6 SI.nil) (fun _ h => h.re [0] [1, 1, 1]) ⟨congrArg (Value.int .i64) (osetE_ok hk c14).symm, ?_⟩
          rw [hS]
         ·
          have p88 := of_decide_eq_false c74
          refine k_st ?_
          refine k_seq ?_
          refine k_draw ?_
          refine sp (pB b 0) ?_
          refine sp (pB b 0) ?_
          refine sp (pB b 1) ?_
          refine s_lt (t_load 0 (.map (some mb16))) ?_
          refine s_lt (t_loadA 4 #[.int .i64 k.kind, .int .i64 k.p, .int .i64 k.q, .string k.str, .int .i64 k.ref]) ?_
          refine sp (pB b 0) ?_
          refine sp (pB b 0) ?_
          refine sp (pB b 0) ?_
          refine s_lt (t_load 0 sv15) ?_
          refine s_lt (t_len SltT_ok Tryz.underlying223 (.own 1)) ?_
          refine s_update 2 vK_ok Tryz.underlying222 k S.length ?_
          refine s_nil ?_
          refine x_dynS (fun _ h => by obtain ⟨_, _, e⟩ := hf73; subst e; kernel_rfl) ?_
          refine xs_then ?_
          refine k_seq ?_
          refine k_draw ?_
          refine sp (pB b 0) ?_
          refine sp (pB b 0) ?_
          refine sp (pB b 0) ?_
          refine sp (pB b 0) ?_
          refine s_lt (t_load 0 sv15) ?_
          refine s_lt (t_loadA 4 #[.int .i64 k.kind, .int .i64 k.p, .int .i64 k.q, .string k.str, .int .i64 k.ref]) ?_
          refine s_lt (t_loadA 3 #[.int .i64 v.kind, .int .i64 v.p, .int .i64 v.q, .string v.str, .int .i64 v.ref]) ?_
          refine s_lt (t_kern (.agg #[.int .i64 k.kind, .int .i64 k.p, .int .i64 k.q, .string k.str, .int .i64 k.ref, .int .i64 v.kind, .int .i64 v.p, .int .i64 v.q, .string v.str, .int .i64 v.ref, .bool false])) ?_
          refine s_buildSlice (e := 261) [(0, .agg #[.int .i64 k.kind, .int .i64 k.p, .int .i64 k.q, .string k.str, .int .i64 k.ref, .int .i64 v.kind, .int .i64 v.p, .int .i64 v.q, .string v.str, .int .i64 v.ref, .bool false])] #[.int .i64 k.kind, .int .i64 k.p, .int .i64 k.q, .string k.str, .int .i64 k.ref, .int .i64 v.kind, .int .i64 v.p, .int .i64 v.q, .string v.str, .int .i64 v.ref, .bool false] (fun g89 => ?_) (hb := by kernel_rfl)
          refine s_append (L := S) 2 SltT_ok Tryz.underlying223 (.lit 0 SltT_ok [(⟨k, v, false⟩ : Slt)]) (by show _ * 104 ≤ _; (try simp only [lnm]); omega) (by (try simp only [lnm]); omega) (fun v90 => ?_)
          refine sp (pB b 0) ?_
          refine sp (pB b 0) ?_
          refine s_fact (fun H h => ((Acc.own (T := SltT) (L := (S ++ [(⟨k, v, false⟩ : Slt)])) 2 rfl) H h).form) (fun hf91 => ?_)
          refine s_store (u := v90) (m := 1) 1 #[v90, .map (some mb16), .int .i64 (cnt S : Int)] ?_ (hm := by (obtain ⟨_, _, e⟩ := hf91; rw [e]; rfl)) (h1 := by (obtain ⟨_, _, e⟩ := hf91; rw [e]; rfl)) (ha' := by (obtain ⟨_, _, e⟩ := hf91; rw [e]; rfl))
          refine s_nil ?_
          refine x_dynS (fun _ h => by kernel_rfl) ?_
          refine xs_then ?_
          refine k_reg ?_
          refine sp (pB b 0) ?_
          refine sp (pB b 0) ?_
          refine sp (pB b 2) ?_
          refine s_lt (t_load 1 (.int .i64 (cnt S : Int))) ?_
          refine s_lt (t_add (cnt S : Int) 1 (by (try simp only [lnm]); omega)) ?_
          refine sp (pB b 0) ?_
          refine sp (pB b 2) ?_
          refine s_store 1 #[v90, .map (some mb16), .int .i64 ((cnt S : Int) + 1)] ?_
          refine s_nil ?_
          refine xs_block ?_
          refine xs_then ?_
          refine k_sr ?_
          refine sp (.int .i64 0) ?_
          refine s_nt ?_
          refine k_ret ?_
          have hk := okKey_good c8 c11
          have hcl := cnt_le S
          have hS : osetL S k v = (S ++ [(⟨k, v, false⟩ : Slt)]) := by rw [osetL_put hk c14 (of_decide_eq_false c67), ht31, if_pos c72]; show (if _ then _ else _) ++ _ = _; rw [if_neg (by have hx := of_decide_eq_false c74; omega)]
          have hinv1 : OInv (S ++ [(⟨k, v, false⟩ : Slt)]) := by rw [← hS]; exact osetL_inv hinv0 k v
          refine xs_mem (fun _ h => om_shut (S := (S ++ [(⟨k, v, false⟩ : Slt)])) (n := ((cnt S : Int) + 1)) ⟨⟨hinv1, agr_snoc hag19 k v⟩, by rw [cnt_snoc]; try rfl⟩ (h.re [1, 1, 1] [])) ?_
          refine xs_fin [.int .i64 0] (omA b (S ++ [(⟨k, v, false⟩ : Slt)]) :: F) (SI.tmp 6 SI.nil) (fun _ h => h.re [0] [1, 1, 1]) ⟨congrArg (Value.int .i64) (osetE_ok hk c14).symm, ?_⟩
          rw [hS]
theorem omnext_s {Z : Zone} {F : List Asr} {b : Nat} {S : List Slt} (hs : S.length ≤ 1000000) (k : Vl) : SF Tryz.prog 210 #[.pointer (some ⟨b, 0, none⟩), k.v] Z (omA b S :: F) fun r Bs => r = nextV (onext S k) ∧ Bs = omA b S :: F := by
 refine sf_enter Tryz.func210 56 [(0, pB b 0), (1, .agg #[.int .i64 k.kind, .int .i64 k.p, .int .i64 k.q, .string k.str, .int .i64 k.ref])] (fun w0 => ?_)
 refine k_sr ?_
 refine s_box #[.int .i64 k.kind, .int .i64 k.p, .int .i64 k.q, .string k.str, .int .i64 k.ref] (fun g1 => ?_)
 refine s_alloc (.agg #[.int .i64 0, .int .i64 0, .int .i64 0, .string ByteArray.empty, .int .i64 0]) #[.int .i64 0, .int .i64 0, .int .i64 0, .string ByteArray.empty, .int .i64 0] (fun g2 => ?_)
 refine s_alloc (.agg #[.int .i64 0, .int .i64 0, .int .i64 0, .string ByteArray.empty, .int .i64 0]) #[.int .i64 0, .int .i64 0, .int .i64 0, .string ByteArray.empty, .int .i64 0] (fun g3 => ?_)
 refine sp (.bool false) ?_
 refine sp (.int .i64 0) ?_
 refine s_nt ?_
 refine k_seq ?_
 refine k_sr ?_
 refine sp (pB b 0) ?_
 refine sp (.bool false) ?_
 refine s_nt ?_
 refine k_false ?_
 refine k_st ?_
 refine k_sr ?_
 refine sp (.int .i64 0) ?_
 refine s_nt ?_
 refine k_seq ?_
 refine k_sr ?_
 refine s_lt (t_loadA 2 #[.int .i64 k.kind, .int .i64 k.p, .int .i64 k.q, .string k.str, .int .i64 k.ref]) ?_
 refine s_lt (t_kern (.agg #[.int .i64 0, .int .i64 0, .int .i64 0, .string ByteArray.empty, .int .i64 0])) ?_
 refine s_lt (t_eqS (fun w => (eqVlT k zVl w).2)) ?_
 refine s_nt ?_
 refine k_cond (!(decide (k = zVl))) (fun c4 => ?_) (fun c4 => ?_)
 ·
  have c5 := not_t c4
  have p6 := of_decide_eq_false c5
  refine k_seq ?_
  refine k_draw ?_
  refine sp (pB b 0) ?_
  refine sp (pB b 0) ?_
  refine sp (pB b 1) ?_
  refine s_mem3 (fun H h => om_open (h.re [3] [])) (fun sv7 mb8 m9 hw => ?_)
  obtain ⟨hinv10, hag11⟩ := hw
  refine s_lt (t_load 0 (.map (some mb8))) ?_
  refine s_lt (t_loadA 5 #[.int .i64 k.kind, .int .i64 k.p, .int .i64 k.q, .string k.str, .int .i64 k.ref]) ?_
  rcases last_cases hag11 hinv10 k with ⟨hl12, hm13, ht14, hg15⟩ | ⟨i16, s17, hl18, hm19, hs20, hk21, hg22, ht23⟩
  ·
   refine s_lt (Lt.to (v' := .tuple #[.int .i64 0, .bool false]) (t_lookupOk 2 vK_ok Tryz.underlying222 (.int .i64 0) k) (by rw [hm13]; rfl)) ?_
   refine sp (.tuple #[.int .i64 0, .bool false]) ?_
   refine sp (.int .i64 0) ?_
   refine sp (.bool false) ?_
   refine sp (.int .i64 0) ?_
   refine sp (.bool false) ?_
   refine s_nil ?_
   refine x_dynS (fun _ h => by kernel_rfl) ?_
   refine xs_then ?_
   refine k_seq ?_
   refine k_sr ?_
   refine sp (.bool false) ?_
   refine sp (.bool true) ?_
   refine s_nt ?_
   refine k_true ?_
   refine k_sr ?_
   refine s_lt (t_kern (.agg #[.int .i64 0, .int .i64 0, .int .i64 0, .string ByteArray.empty, .int .i64 0])) ?_
   refine s_lt (t_kern (.agg #[.int .i64 0, .int .i64 0, .int .i64 0, .string ByteArray.empty, .int .i64 0])) ?_
   refine s_store 4 #[.int .i64 0, .int .i64 0, .int .i64 0, .string ByteArray.empty, .int .i64 0] ?_
   refine s_store 3 #[.int .i64 0, .int .i64 0, .int .i64 0, .string ByteArray.empty, .int .i64 0] ?_
   refine sp (.bool false) ?_
   refine sp (.int .i64 13) ?_
   refine s_nt ?_
   refine k_ret ?_
   refine xs_ret ?_
   refine xs_ret ?_
   refine xs_mem (fun _ h => om_shut (S := S) (n := (cnt S : Int)) ⟨⟨hinv10, hag11⟩, rfl⟩ (h.re [0, 0, 0] [])) ?_
   have hp : onext S k = (zVl, zVl, false, 13) := (onext_none (of_decide_eq_false c5) hl12)
   refine xs_fin [.agg #[.int .i64 0, .int .i64 0, .int .i64 0, .string ByteArray.empty, .int .i64 0], .agg #[.int .i64 0, .int .i64 0, .int .i64 0, .string ByteArray.empty, .int .i64 0], .bool false, .int .i64 13] (omA b S :: F) (SI.agg 4 71 2 (SI.agg 5 71 1 (SI.tmp 6 (SI.tmp 7 SI.nil)))) (fun _ h => h.re [0] [1, 1, 1]) ⟨?_, rfl⟩
   rw [hp]; rfl
  ·
   have hlt24 : i16 < S.length := (List.getElem?_eq_some_iff.1 hs20).1
   refine s_lt (Lt.to (v' := .tuple #[.int .i64 (i16 : Int), .bool true]) (t_lookupOk 2 vK_ok Tryz.underlying222 (.int .i64 0) k) (by rw [hm19]; rfl)) ?_
   refine sp (.tuple #[.int .i64 (i16 : Int), .bool true]) ?_
   refine sp (.int .i64 (i16 : Int)) ?_
   refine sp (.bool true) ?_
   refine sp (.int .i64 (i16 : Int)) ?_
   refine sp (.bool true) ?_
   refine s_nil ?_
   refine x_dynS (fun _ h => by kernel_rfl) ?_
   refine xs_then ?_
   refine k_seq ?_
   refine k_sr ?_
   refine sp (.bool true) ?_
   refine sp (.bool false) ?_
   refine s_nt ?_
   refine k_false ?_
   refine k_st ?_
   refine k_reg ?_
   refine sp (.int .i64 (i16 : Int)) ?_
   refine s_lt (t_add (i16 : Int) 1 (by (try simp only [lnm]); omega)) ?_
   refine sp (.int .i64 ((i16 : Int) + 1)) ?_
   refine s_nt ?_
   refine k_seq ?_
   refine k_sr ?_
   refine sp (pB b 0) ?_
   refine sp (pB b 0) ?_
   refine sp (pB b 0) ?_
   refine s_lt (t_load 0 sv7) ?_
   refine sp (.int .i64 ((i16 : Int) + 1)) ?_
   refine s_lt (t_suf SltT_ok Tryz.underlying223 (.own 1) ((i16 : Int) + 1) (i16 + 1) (by omega) (by (try simp only [lnm]); omega) (by omega)) ?_
   refine s_lt (t_len SltT_ok Tryz.underlying223 (Acc.suf (.own 1) SltT_ok (i16 + 1) (by (try simp only [lnm]); omega))) ?_
   refine sp (.int .i64 0) ?_
   refine s_nt ?_
   refine k_block ?_
   have hdl : (S.drop (i16 + 1)).length = S.length - (i16 + 1) := List.length_drop
   refine k_loop (ι := Nat) (fun j => j ≤ (S.drop (i16 + 1)).length ∧ live ((S.drop (i16 + 1)).take j) = []) (fun j => [(4, pB g2 0), (5, pB g3 0), (40, (suf SltT.size sv7 (i16 + 1))), (41, .int .i64 ((S.drop (i16 + 1)).length : Int)), (42, .int .i64 (j : Int))]) (fun j => blkA b #[sv7, .map (some mb8), .int .i64 (cnt S : Int)] 225 :: own SltT sv7 S :: mpA vK nV mb8 m9 :: blkA g3 #[.int .i64 0, .int .i64 0, .int .i64 0, .string ByteArray.empty, .int .i64 0] 71 :: blkA g2 #[.int .i64 0, .int .i64 0, .int .i64 0, .string ByteArray.empty, .int .i64 0] 71 :: blkA g1 #[.int .i64 k.kind, .int .i64 k.p, .int .i64 k.q, .string k.str, .int .i64 k.ref] 71 :: F) (fun j => (S.drop (i16 + 1)).length - j) 0 ⟨Nat.zero_le _, rfl⟩ (sub_of rfl ⟨⟨rfl, rfl⟩, ⟨⟨rfl, rfl⟩, ⟨⟨rfl, rfl⟩, ⟨⟨rfl, rfl⟩, ⟨⟨rfl, rfl⟩, trivial⟩⟩⟩⟩⟩) (fun _ h => h.re [0, 0, 0, 0, 0, 0] []) ?_
   rintro j hi25
   show SK _ _ _ _ _ [(4, .pointer (some ⟨g2, 0, none⟩)), (5, .pointer (some ⟨g3, 0, none⟩)), (40, (suf SltT.size sv7 (i16 + 1))), (41, .int .i64 ((S.drop (i16 + 1)).length : Int)), (42, .int .i64 (j : Int))] _ (blkA b #[sv7, .map (some mb8), .int .i64 (cnt S : Int)] 225 :: own SltT sv7 S :: mpA vK nV mb8 m9 :: blkA g3 #[.int .i64 0, .int .i64 0, .int .i64 0, .string ByteArray.empty, .int .i64 0] 71 :: blkA g2 #[.int .i64 0, .int .i64 0, .int .i64 0, .string ByteArray.empty, .int .i64 0] 71 :: blkA g1 #[.int .i64 k.kind, .int .i64 k.p, .int .i64 k.q, .string k.str, .int .i64 k.ref] 71 :: F)
   refine k_sr ?_
   refine s_lt t_cmp ?_
   refine s_nt ?_
   refine k_seq ?_
   refine k_cond (decide ((j : Int) < ((S.drop (i16 + 1)).length : Int))) (fun c26 => ?_) (fun c26 => ?_)
   ·
    have p27 := of_decide_eq_true c26
    refine k_st ?_
    refine k_seq ?_
    refine k_block ?_
    refine k_sr ?_
    refine s_lt (t_index SltT_ok Tryz.underlying223 (Acc.suf (.own 1) SltT_ok (i16 + 1) (by (try simp only [lnm]); omega)) (j : Int) j (by omega) (by (try simp only [lnm]); omega) (by omega)) ?_
    obtain ⟨y28, hy29⟩ : ∃ y, (S.drop (i16 + 1))[j]? = some y := ⟨_, List.getElem?_eq_getElem (by (try simp only [lnm]); omega)⟩
    refine s_lt (t_loadE SltT_ok (Acc.suf (.own 1) SltT_ok (i16 + 1) (by (try simp only [lnm]); omega)) hy29) ?_
    refine s_alloc (.agg #[.int .i64 0, .int .i64 0, .int .i64 0, .string ByteArray.empty, .int .i64 0, .int .i64 0, .int .i64 0, .int .i64 0, .string ByteArray.empty, .int .i64 0, .bool false]) #[.int .i64 0, .int .i64 0, .int .i64 0, .string ByteArray.empty, .int .i64 0, .int .i64 0, .int .i64 0, .int .i64 0, .string ByteArray.empty, .int .i64 0, .bool false] (fun g30 => ?_)
    refine s_store 0 #[.int .i64 y28.key.kind, .int .i64 y28.key.p, .int .i64 y28.key.q, .string y28.key.str, .int .i64 y28.key.ref, .int .i64 y28.val.kind, .int .i64 y28.val.p, .int .i64 y28.val.q, .string y28.val.str, .int .i64 y28.val.ref, .bool y28.gone] ?_
    refine s_nr ?_
    refine sp (pB g30 10) ?_
    refine s_lt (t_load 0 (.bool y28.gone)) ?_
    refine sp (.bool (!y28.gone)) ?_
    refine s_nt ?_
    refine k_cond (!y28.gone) (fun c31 => ?_) (fun c31 => ?_)
    ·
     have c32 := not_t c31
     refine k_seq ?_
     refine k_held [blkA g30 #[.int .i64 y28.key.kind, .int .i64 y28.key.p, .int .i64 y28.key.q, .string y28.key.str, .int .i64 y28.key.ref, .int .i64 y28.val.kind, .int .i64 y28.val.p, .int .i64 y28.val.q, .string y28.val.str, .int .i64 y28.val.ref, .bool y28.gone] 261, blkA b #[sv7, .map (some mb8), .int .i64 (cnt S : Int)] 225, own SltT sv7 S, mpA vK nV mb8 m9, blkA g1 #[.int .i64 k.kind, .int .i64 k.p, .int .i64 k.q, .string k.str, .int .i64 k.ref] 71] ?_
     refine hp_ 0 [0, 0, 0, 0, 2] (pB g30 0) ?_
     refine h_l 1 rfl [0, 0, 0, 0, 2] (fun _ => (t_loadA 0 #[.int .i64 y28.key.kind, .int .i64 y28.key.p, .int .i64 y28.key.q, .string y28.key.str, .int .i64 y28.key.ref])) ?_
     refine hp_ 2 [0, 0, 0, 0, 2] (pB g30 5) ?_
     refine h_l 3 rfl [0, 0, 0, 0, 2] (fun _ => (t_loadA 0 #[.int .i64 y28.val.kind, .int .i64 y28.val.p, .int .i64 y28.val.q, .string y28.val.str, .int .i64 y28.val.ref])) ?_
     refine h_stepS 4 ?_
     refine s_store 5 #[.int .i64 y28.key.kind, .int .i64 y28.key.p, .int .i64 y28.key.q, .string y28.key.str, .int .i64 y28.key.ref] ?_
     refine s_nil (xs_held [0, 0, 0, 0, 2] ?_)
     refine h_stepS 5 ?_
     refine s_store 4 #[.int .i64 y28.val.kind, .int .i64 y28.val.p, .int .i64 y28.val.q, .string y28.val.str, .int .i64 y28.val.ref] ?_
     refine s_nil (xs_held [0, 0, 0, 0, 2] ?_)
     refine hp_ 6 [0, 0, 0, 0, 2] (.bool true) ?_
     refine hp_ 7 [0, 0, 0, 0, 2] (.int .i64 0) ?_
     refine h_doneS ?_
     refine xs_then ?_
     refine k_ret ?_
     refine xs_retBlock ?_
     refine xs_ret ?_
     refine xs_ret ?_
     refine xs_retBlock ?_
     refine xs_ret ?_
     refine xs_mem (fun _ h => om_shut (S := S) (n := (cnt S : Int)) ⟨⟨hinv10, hag11⟩, rfl⟩ (h.re [1, 1, 1] [])) ?_
     have hr := next_found (a := (i16 + 1)) hi25.2 hy29 c32
     have hp : onext S k = (y28.key, y28.val, true, 0) := by rw [(onext_some (of_decide_eq_false c5) hl18)]; first | (rw [hr]; done) | (have hr0 : slotV (live S).head? = _ := hr; rw [hr0])
     refine xs_fin [.agg #[.int .i64 y28.key.kind, .int .i64 y28.key.p, .int .i64 y28.key.q, .string y28.key.str, .int .i64 y28.key.ref], .agg #[.int .i64 y28.val.kind, .int .i64 y28.val.p, .int .i64 y28.val.q, .string y28.val.str, .int .i64 y28.val.ref], .bool true, .int .i64 0] (omA b S :: F) (SI.agg 4 71 3 (SI.agg 5 71 2 (SI.tmp 6 (SI.tmp 7 SI.nil)))) (fun _ h => h.re [0] [1, 1, 1, 1]) ⟨?_, rfl⟩
     rw [hp]; rfl
    ·
     have c33 := not_f c31
     refine k_skip ?_
     refine xs_block ?_
     refine xs_then ?_
     refine k_reg ?_
     refine s_lt (t_add (j : Int) 1 (by (try simp only [lnm]); omega)) ?_
     refine sp (.int .i64 ((j : Int) + 1)) ?_
     refine s_nil ?_
     exact xs_round (j + 1) (by omega) ⟨by omega, live_gone_step hi25.2 hy29 c33⟩ (sub_of rfl ⟨⟨rfl, rfl⟩, ⟨⟨rfl, rfl⟩, ⟨⟨rfl, rfl⟩, ⟨⟨rfl, rfl⟩, ⟨⟨rfl, rfl⟩, trivial⟩⟩⟩⟩⟩) (fun _ h => h.re [1, 1, 1, 1, 1, 1] [6])
   ·
    have p34 := of_decide_eq_false c26
    refine k_exit ?_
    refine xs_exit ?_
    refine xs_exit ?_
    refine xs_here ?_
    refine xs_then ?_
    refine k_sr ?_
    refine s_lt (t_kern (.agg #[.int .i64 0, .int .i64 0, .int .i64 0, .string ByteArray.empty, .int .i64 0])) ?_
    refine s_lt (t_kern (.agg #[.int .i64 0, .int .i64 0, .int .i64 0, .string ByteArray.empty, .int .i64 0])) ?_
    refine s_store 4 #[.int .i64 0, .int .i64 0, .int .i64 0, .string ByteArray.empty, .int .i64 0] ?_
    refine s_store 3 #[.int .i64 0, .int .i64 0, .int .i64 0, .string ByteArray.empty, .int .i64 0] ?_
    refine sp (.bool false) ?_
    refine sp (.int .i64 0) ?_
    refine s_nt ?_
    refine k_ret ?_
    refine xs_mem (fun _ h => om_shut (S := S) (n := (cnt S : Int)) ⟨⟨hinv10, hag11⟩, rfl⟩ (h.re [0, 0, 0] [])) ?_
    have hr := next_end (a := (i16 + 1)) hi25.2 (by (try simp only [lnm]); omega)
    have hp : onext S k = (zVl, zVl, false, 0) := by rw [(onext_some (of_decide_eq_false c5) hl18)]; first | (rw [hr]; done) | (have hr0 : slotV (live S).head? = _ := hr; rw [hr0])
    refine xs_fin [.agg #[.int .i64 0, .int .i64 0, .int .i64 0, .string ByteArray.empty, .int .i64 0], .agg #[.int .i64 0, .int .i64 0, .int .i64 0, .string ByteArray.empty, .int .i64 0], .bool false, .int .i64 0] (omA b S :: F) (SI.agg 4 71 2 (SI.agg 5 71 1 (SI.tmp 6 (SI.tmp 7 SI.nil)))) (fun _ h => h.re [0] [1, 1, 1]) ⟨?_, rfl⟩
    rw [hp]; rfl
 ·
  have c35 := not_f c4
  have p36 := of_decide_eq_true c35
  refine k_st ?_
  refine k_seq ?_
  refine k_sr ?_
  refine sp (pB b 0) ?_
  refine sp (pB b 0) ?_
  refine sp (pB b 0) ?_
  refine s_mem3 (fun H h => om_open (h.re [3] [])) (fun sv37 mb38 m39 hw => ?_)
  obtain ⟨hinv40, hag41⟩ := hw
  refine s_lt (t_load 0 sv37) ?_
  refine sp (.int .i64 0) ?_
  refine s_lt (t_suf SltT_ok Tryz.underlying223 (.own 1) 0 0 (by omega) (by (try simp only [lnm]); omega) (by omega)) ?_
  refine s_lt (t_len SltT_ok Tryz.underlying223 (Acc.suf (.own 1) SltT_ok 0 (by (try simp only [lnm]); omega))) ?_
  refine sp (.int .i64 0) ?_
  refine s_nt ?_
  refine k_block ?_
  have hdl : (S.drop 0).length = S.length - 0 := List.length_drop
  refine k_loop (ι := Nat) (fun j => j ≤ (S.drop 0).length ∧ live ((S.drop 0).take j) = []) (fun j => [(4, pB g2 0), (5, pB g3 0), (40, (suf SltT.size sv37 0)), (41, .int .i64 ((S.drop 0).length : Int)), (42, .int .i64 (j : Int))]) (fun j => blkA b #[sv37, .map (some mb38), .int .i64 (cnt S : Int)] 225 :: own SltT sv37 S :: mpA vK nV mb38 m39 :: blkA g3 #[.int .i64 0, .int .i64 0, .int .i64 0, .string ByteArray.empty, .int .i64 0] 71 :: blkA g2 #[.int .i64 0, .int .i64 0, .int .i64 0, .string ByteArray.empty, .int .i64 0] 71 :: blkA g1 #[.int .i64 k.kind, .int .i64 k.p, .int .i64 k.q, .string k.str, .int .i64 k.ref] 71 :: F) (fun j => (S.drop 0).length - j) 0 ⟨Nat.zero_le _, rfl⟩ (sub_of rfl ⟨⟨rfl, rfl⟩, ⟨⟨rfl, rfl⟩, ⟨⟨rfl, rfl⟩, ⟨⟨rfl, rfl⟩, ⟨⟨rfl, rfl⟩, trivial⟩⟩⟩⟩⟩) (fun _ h => h.re [0, 0, 0, 0, 0, 0] []) ?_
  rintro j hi42
  show SK _ _ _ _ _ [(4, .pointer (some ⟨g2, 0, none⟩)), (5, .pointer (some ⟨g3, 0, none⟩)), (40, (suf SltT.size sv37 0)), (41, .int .i64 ((S.drop 0).length : Int)), (42, .int .i64 (j : Int))] _ (blkA b #[sv37, .map (some mb38), .int .i64 (cnt S : Int)] 225 :: own SltT sv37 S :: mpA vK nV mb38 m39 :: blkA g3 #[.int .i64 0, .int .i64 0, .int .i64 0, .string ByteArray.empty, .int .i64 0] 71 :: blkA g2 #[.int .i64 0, .int .i64 0, .int .i64 0, .string ByteArray.empty, .int .i64 0] 71 :: blkA g1 #[.int .i64 k.kind, .int .i64 k.p, .int .i64 k.q, .string k.str, .int .i64 k.ref] 71 :: F)
  refine k_sr ?_
  refine s_lt t_cmp ?_
  refine s_nt ?_
  refine k_seq ?_
  refine k_cond (decide ((j : Int) < ((S.drop 0).length : Int))) (fun c43 => ?_) (fun c43 => ?_)
  ·
   have p44 := of_decide_eq_true c43
   refine k_st ?_
   refine k_seq ?_
   refine k_block ?_
   refine k_sr ?_
   refine s_lt (t_index SltT_ok Tryz.underlying223 (Acc.suf (.own 1) SltT_ok 0 (by (try simp only [lnm]); omega)) (j : Int) j (by omega) (by (try simp only [lnm]); omega) (by omega)) ?_
   obtain ⟨y45, hy46⟩ : ∃ y, (S.drop 0)[j]? = some y := ⟨_, List.getElem?_eq_getElem (by (try simp only [lnm]); omega)⟩
   refine s_lt (t_loadE SltT_ok (Acc.suf (.own 1) SltT_ok 0 (by (try simp only [lnm]); omega)) hy46) ?_
   refine s_alloc (.agg #[.int .i64 0, .int .i64 0, .int .i64 0, .string ByteArray.empty, .int .i64 0, .int .i64 0, .int .i64 0, .int .i64 0, .string ByteArray.empty, .int .i64 0, .bool false]) #[.int .i64 0, .int .i64 0, .int .i64 0, .string ByteArray.empty, .int .i64 0, .int .i64 0, .int .i64 0, .int .i64 0, .string ByteArray.empty, .int .i64 0, .bool false] (fun g47 => ?_)
   refine s_store 0 #[.int .i64 y45.key.kind, .int .i64 y45.key.p, .int .i64 y45.key.q, .string y45.key.str, .int .i64 y45.key.ref, .int .i64 y45.val.kind, .int .i64 y45.val.p, .int .i64 y45.val.q, .string y45.val.str, .int .i64 y45.val.ref, .bool y45.gone] ?_
   refine s_nr ?_
   refine sp (pB g47 10) ?_
   refine s_lt (t_load 0 (.bool y45.gone)) ?_
   refine sp (.bool (!y45.gone)) ?_
   refine s_nt ?_
   refine k_cond (!y45.gone) (fun c48 => ?_) (fun c48 => ?_)
   ·
    have c49 := not_t c48
    refine k_seq ?_
    refine k_held [blkA g47 #[.int .i64 y45.key.kind, .int .i64 y45.key.p, .int .i64 y45.key.q, .string y45.key.str, .int .i64 y45.key.ref, .int .i64 y45.val.kind, .int .i64 y45.val.p, .int .i64 y45.val.q, .string y45.val.str, .int .i64 y45.val.ref, .bool y45.gone] 261, blkA b #[sv37, .map (some mb38), .int .i64 (cnt S : Int)] 225, own SltT sv37 S, mpA vK nV mb38 m39, blkA g1 #[.int .i64 k.kind, .int .i64 k.p, .int .i64 k.q, .string k.str, .int .i64 k.ref] 71] ?_
    refine hp_ 0 [0, 0, 0, 0, 2] (pB g47 0) ?_
    refine h_l 1 rfl [0, 0, 0, 0, 2] (fun _ => (t_loadA 0 #[.int .i64 y45.key.kind, .int .i64 y45.key.p, .int .i64 y45.key.q, .string y45.key.str, .int .i64 y45.key.ref])) ?_
    refine hp_ 2 [0, 0, 0, 0, 2] (pB g47 5) ?_
    refine h_l 3 rfl [0, 0, 0, 0, 2] (fun _ => (t_loadA 0 #[.int .i64 y45.val.kind, .int .i64 y45.val.p, .int .i64 y45.val.q, .string y45.val.str, .int .i64 y45.val.ref])) ?_
    refine h_stepS 4 ?_
    refine s_store 5 #[.int .i64 y45.key.kind, .int .i64 y45.key.p, .int .i64 y45.key.q, .string y45.key.str, .int .i64 y45.key.ref] ?_
    refine s_nil (xs_held [0, 0, 0, 0, 2] ?_)
    refine h_stepS 5 ?_
    refine s_store 4 #[.int .i64 y45.val.kind, .int .i64 y45.val.p, .int .i64 y45.val.q, .string y45.val.str, .int .i64 y45.val.ref] ?_
    refine s_nil (xs_held [0, 0, 0, 0, 2] ?_)
    refine hp_ 6 [0, 0, 0, 0, 2] (.bool true) ?_
    refine hp_ 7 [0, 0, 0, 0, 2] (.int .i64 0) ?_
    refine h_doneS ?_
    refine xs_then ?_
    refine k_ret ?_
    refine xs_retBlock ?_
    refine xs_ret ?_
    refine xs_ret ?_
    refine xs_retBlock ?_
    refine xs_ret ?_
    refine xs_mem (fun _ h => om_shut (S := S) (n := (cnt S : Int)) ⟨⟨hinv40, hag41⟩, rfl⟩ (h.re [1, 1, 1] [])) ?_
    have hz : k = zVl := (of_decide_eq_true c35)
    subst hz
    have hr := next_found (a := 0) hi42.2 hy46 c49
    have hp : onext S zVl = (y45.key, y45.val, true, 0) := by rw [(onext_nil S)]; first | (rw [hr]; done) | (have hr0 : slotV (live S).head? = _ := hr; rw [hr0])
    refine xs_fin [.agg #[.int .i64 y45.key.kind, .int .i64 y45.key.p, .int .i64 y45.key.q, .string y45.key.str, .int .i64 y45.key.ref], .agg #[.int .i64 y45.val.kind, .int .i64 y45.val.p, .int .i64 y45.val.q, .string y45.val.str, .int .i64 y45.val.ref], .bool true, .int .i64 0] (omA b S :: F) (SI.agg 4 71 3 (SI.agg 5 71 2 (SI.tmp 6 (SI.tmp 7 SI.nil)))) (fun _ h => h.re [0] [1, 1, 1, 1]) ⟨?_, rfl⟩
    rw [hp]; rfl
   ·
    have c50 := not_f c48
    refine k_skip ?_
    refine xs_block ?_
    refine xs_then ?_
    refine k_reg ?_
    refine s_lt (t_add (j : Int) 1 (by (try simp only [lnm]); omega)) ?_
    refine sp (.int .i64 ((j : Int) + 1)) ?_
    refine s_nil ?_
    exact xs_round (j + 1) (by omega) ⟨by omega, live_gone_step hi42.2 hy46 c50⟩ (sub_of rfl ⟨⟨rfl, rfl⟩, ⟨⟨rfl, rfl⟩, ⟨⟨rfl, rfl⟩, ⟨⟨rfl, rfl⟩, ⟨⟨rfl, rfl⟩, trivial⟩⟩⟩⟩⟩) (fun _ h => h.re [1, 1, 1, 1, 1, 1] [6])
  ·
   have p51 := of_decide_eq_false c43
   refine k_exit ?_
   refine xs_exit ?_
   refine xs_exit ?_
   refine xs_here ?_
   refine xs_then ?_
   refine k_sr ?_
   refine s_lt (t_kern (.agg #[.int .i64 0, .int .i64 0, .int .i64 0, .string ByteArray.empty, .int .i64 0])) ?_
   refine s_lt (t_kern (.agg #[.int .i64 0, .int .i64 0, .int .i64 0, .string ByteArray.empty, .int .i64 0])) ?_
   refine s_store 4 #[.int .i64 0, .int .i64 0, .int .i64 0, .string ByteArray.empty, .int .i64 0] ?_
   refine s_store 3 #[.int .i64 0, .int .i64 0, .int .i64 0, .string ByteArray.empty, .int .i64 0] ?_
   refine sp (.bool false) ?_
   refine sp (.int .i64 0) ?_
   refine s_nt ?_
   refine k_ret ?_
   refine xs_mem (fun _ h => om_shut (S := S) (n := (cnt S : Int)) ⟨⟨hinv40, hag41⟩, rfl⟩ (h.re [0, 0, 0] [])) ?_
   have hz : k = zVl := (of_decide_eq_true c35)
   subst hz
   have hr := next_end (a := 0) hi42.2 (by (try simp only [lnm]); omega)
   have hp : onext S zVl = (zVl, zVl, false, 0) := by rw [(onext_nil S)]; first | (rw [hr]; done) | (have hr0 : slotV (live S).head? = _ := hr; rw [hr0])
   refine xs_fin [.agg #[.int .i64 0, .int .i64 0, .int .i64 0, .string ByteArray.empty, .int .i64 0], .agg #[.int .i64 0, .int .i64 0, .int .i64 0, .string ByteArray.empty, .int .i64 0], .bool false, .int .i64 0] (omA b S :: F) (SI.agg 4 71 2 (SI.agg 5 71 1 (SI.tmp 6 (SI.tmp 7 SI.nil)))) (fun _ h => h.re [0] [1, 1, 1]) ⟨?_, rfl⟩
   rw [hp]; rfl
theorem omslots_s {Z : Zone} {F : List Asr} {b : Nat} {S : List Slt} : SF Tryz.prog 208 #[.pointer (some ⟨b, 0, none⟩)] Z (omA b S :: F) fun r Bs => r = .int .i64 (S.length : Int) ∧ Bs = omA b S :: F := by
 refine sf_enter Tryz.func208 10 [(0, pB b 0)] (fun w0 => ?_)
 refine k_sr ?_
 refine sp (.int .i64 0) ?_
 refine s_nt ?_
 refine k_seq ?_
 refine k_sr ?_
 refine sp (pB b 0) ?_
 refine sp (.bool false) ?_
 refine s_nt ?_
 refine k_false ?_
 refine k_st ?_
 refine k_sr ?_
 refine sp (pB b 0) ?_
 refine sp (pB b 0) ?_
 refine sp (pB b 0) ?_
 refine s_mem3 (fun H h => om_open (h.re [0] [])) (fun sv1 mb2 m3 hw => ?_)
 obtain ⟨hinv4, hag5⟩ := hw
 refine s_lt (t_load 0 sv1) ?_
 refine s_lt (t_len SltT_ok Tryz.underlying223 (.own 1)) ?_
 refine sp (.int .i64 (S.length : Int)) ?_
 refine s_nt ?_
 refine k_ret ?_
 refine xs_mem (fun _ h => om_shut (S := S) (n := (cnt S : Int)) ⟨⟨hinv4, hag5⟩, rfl⟩ (h.re [0, 0, 0] [])) ?_
 refine xs_fin [.int .i64 (S.length : Int)] (omA b S :: F) (SI.tmp 2 SI.nil) (fun _ h => h.re [0] []) ⟨?_, rfl⟩
 rfl
theorem omkeys_s {Z : Zone} {F : List Asr} {b : Nat} {S : List Slt} (hs : S.length ≤ 1000000) : SF Tryz.prog 235 #[.pointer (some ⟨b, 0, none⟩)] Z (omA b S :: F) fun r Bs => Bs = own VlT r (okeys S) :: omA b S :: F := by
 refine sf_enter Tryz.func235 27 [(0, pB b 0)] (fun w0 => ?_)
 refine k_sr ?_
 refine sp (.slice none 0 0) ?_
 refine s_nt ?_
 refine k_seq ?_
 refine k_sr ?_
 refine sp (pB b 0) ?_
 refine sp (.bool false) ?_
 refine s_nt ?_
 refine k_false ?_
 refine k_st ?_
 refine k_sr ?_
 refine sp (.slice none 0 0) ?_
 refine s_nt ?_
 refine k_seq ?_
 refine k_sr ?_
 refine sp (pB b 0) ?_
 refine sp (pB b 0) ?_
 refine sp (pB b 0) ?_
 refine s_mem3 (fun H h => om_open (h.re [0] [])) (fun sv1 mb2 m3 hw => ?_)
 obtain ⟨hinv4, hag5⟩ := hw
 refine s_lt (t_load 0 sv1) ?_
 refine s_lt (t_len SltT_ok Tryz.underlying223 (.own 1)) ?_
 refine sp (.int .i64 0) ?_
 refine s_nt ?_
 refine k_block ?_
 refine k_mem (fun _ h => Holds.nilS (T := VlT) h) ?_
 refine k_mem (Bs := own VlT (.slice none 0 0) (okeys (S.take 0)) :: blkA b #[sv1, .map (some mb2), .int .i64 (cnt S : Int)] 225 :: own SltT sv1 S :: mpA vK nV mb2 m3 :: F) (fun _ h => h) ?_
 refine k_loop (ι := Value × Nat) (fun (lx, i) => i ≤ S.length) (fun (lx, i) => [(3, lx), (11, sv1), (12, .int .i64 (S.length : Int)), (13, .int .i64 (i : Int))]) (fun (lx, i) => own VlT lx (okeys (S.take i)) :: blkA b #[sv1, .map (some mb2), .int .i64 (cnt S : Int)] 225 :: own SltT sv1 S :: mpA vK nV mb2 m3 :: F) (fun (lx, i) => S.length - i) ((.slice none 0 0), 0) (Nat.zero_le _) (sub_of rfl ⟨⟨rfl, rfl⟩, ⟨⟨rfl, rfl⟩, ⟨⟨rfl, rfl⟩, ⟨⟨rfl, rfl⟩, trivial⟩⟩⟩⟩) (fun _ h => h.re [0, 0, 0, 0] []) ?_
 rintro ⟨lx, i⟩ hi6
 replace hi6 : i ≤ S.length := hi6
 show SK _ _ _ _ _ [(3, lx), (11, sv1), (12, .int .i64 (S.length : Int)), (13, .int .i64 (i : Int))] _ (own VlT lx (okeys (S.take i)) :: blkA b #[sv1, .map (some mb2), .int .i64 (cnt S : Int)] 225 :: own SltT sv1 S :: mpA vK nV mb2 m3 :: F)
 have hli : (okeys (S.take i)).length ≤ i := Nat.le_trans (okeys_len _) (by rw [List.length_take]; omega)
 refine k_sr ?_
 refine s_lt t_cmp ?_
 refine s_nt ?_
 refine k_seq ?_
 refine k_cond (decide ((i : Int) < (S.length : Int))) (fun c7 => ?_) (fun c7 => ?_)
 ·
  have p8 := of_decide_eq_true c7
  refine k_st ?_
  refine k_seq ?_
  refine k_block ?_
  refine k_sr ?_
  refine s_lt (t_index SltT_ok Tryz.underlying223 (.own 2) (i : Int) i (by omega) (by (try simp only [lnm]); omega) (by omega)) ?_
  obtain ⟨y9, hy10⟩ : ∃ y, S[i]? = some y := ⟨_, List.getElem?_eq_getElem (by (try simp only [lnm]); omega)⟩
  refine s_lt (t_loadE SltT_ok (.own 2) hy10) ?_
  refine s_alloc (.agg #[.int .i64 0, .int .i64 0, .int .i64 0, .string ByteArray.empty, .int .i64 0, .int .i64 0, .int .i64 0, .int .i64 0, .string ByteArray.empty, .int .i64 0, .bool false]) #[.int .i64 0, .int .i64 0, .int .i64 0, .string ByteArray.empty, .int .i64 0, .int .i64 0, .int .i64 0, .int .i64 0, .string ByteArray.empty, .int .i64 0, .bool false] (fun g11 => ?_)
  refine s_store 0 #[.int .i64 y9.key.kind, .int .i64 y9.key.p, .int .i64 y9.key.q, .string y9.key.str, .int .i64 y9.key.ref, .int .i64 y9.val.kind, .int .i64 y9.val.p, .int .i64 y9.val.q, .string y9.val.str, .int .i64 y9.val.ref, .bool y9.gone] ?_
  refine s_nr ?_
  refine sp (pB g11 10) ?_
  refine s_lt (t_load 0 (.bool y9.gone)) ?_
  refine sp (.bool (!y9.gone)) ?_
  refine s_nt ?_
  refine k_cond (!y9.gone) (fun c12 => ?_) (fun c12 => ?_)
  ·
   have c13 := not_t c12
   refine k_reg ?_
   refine sp lx ?_
   refine sp (pB g11 0) ?_
   refine s_lt (t_loadA 0 #[.int .i64 y9.key.kind, .int .i64 y9.key.p, .int .i64 y9.key.q, .string y9.key.str, .int .i64 y9.key.ref]) ?_
   refine s_buildSlice (e := 71) [(0, .agg #[.int .i64 y9.key.kind, .int .i64 y9.key.p, .int .i64 y9.key.q, .string y9.key.str, .int .i64 y9.key.ref])] #[.int .i64 y9.key.kind, .int .i64 y9.key.p, .int .i64 y9.key.q, .string y9.key.str, .int .i64 y9.key.ref] (fun g14 => ?_) (hb := by kernel_rfl)
   refine s_append (L := (okeys (S.take i))) 2 VlT_ok Tryz.underlying28 (.lit 0 VlT_ok [y9.key]) (by show _ * 48 ≤ _; (try simp only [lnm]); omega) (by (try simp only [lnm]); omega) (fun v15 => ?_)
   refine sp v15 ?_
   refine s_nil ?_
   refine xs_block ?_
   refine xs_then ?_
   refine k_reg ?_
   refine s_lt (t_add (i : Int) 1 (by (try simp only [lnm]); omega)) ?_
   refine sp (.int .i64 ((i : Int) + 1)) ?_
   refine s_nil ?_
   have hks := okeys_step hy10
   rw [if_neg (by rw [c13]; decide)] at hks
   rw [← hks]
   exact xs_round (v15, i + 1) (by show S.length - (i + 1) < S.length - i; omega) (by show i + 1 ≤ S.length; omega) (sub_of rfl ⟨⟨rfl, rfl⟩, ⟨⟨rfl, rfl⟩, ⟨⟨rfl, rfl⟩, ⟨⟨rfl, rfl⟩, trivial⟩⟩⟩⟩) (fun _ h => h.re [2, 2, 2, 2] [4, 4])
  ·
   have c16 := not_f c12
   refine k_skip ?_
   refine xs_block ?_
   refine xs_then ?_
   refine k_reg ?_
   refine s_lt (t_add (i : Int) 1 (by (try simp only [lnm]); omega)) ?_
   refine sp (.int .i64 ((i : Int) + 1)) ?_
   refine s_nil ?_
   have hks := okeys_step hy10
   rw [if_pos c16] at hks
   rw [← hks]
   exact xs_round (lx, i + 1) (by show S.length - (i + 1) < S.length - i; omega) (by show i + 1 ≤ S.length; omega) (sub_of rfl ⟨⟨rfl, rfl⟩, ⟨⟨rfl, rfl⟩, ⟨⟨rfl, rfl⟩, ⟨⟨rfl, rfl⟩, trivial⟩⟩⟩⟩) (fun _ h => h.re [1, 1, 1, 1] [4])
 ·
  have p17 := of_decide_eq_false c7
  refine k_exit ?_
  refine xs_exit ?_
  refine xs_exit ?_
  refine xs_here ?_
  refine xs_then ?_
  refine k_sr ?_
  refine sp lx ?_
  refine sp lx ?_
  refine s_nt ?_
  refine k_ret ?_
  refine xs_mem (fun _ h => om_shut (S := S) (n := (cnt S : Int)) ⟨⟨hinv4, hag5⟩, rfl⟩ (h.re [1, 1, 1] [])) ?_
  have hend : okeys (S.take i) = okeys S := by rw [List.take_of_length_le (by omega)]
  rw [hend]
  exact xs_fin [lx] (own VlT lx (okeys S) :: omA b S :: F) (SI.tmp 2 SI.nil) (fun _ h => h.re [1, 0] []) rfl
end Go.Proofs.YtmhpcebiamkciaaGreat
end
section
set_option linter.unusedSimpArgs false
set_option linter.unusedVariables false
set_option maxRecDepth 100000
set_option maxHeartbeats 2000000
namespace Go.Proofs.YtmhpcebiamkciaaGreat
open Go.Hp Go.J Go.S
open Go.Mem (Ty KTy blk elemAt pre suf blk_pre blk_suf aget aset strK aggDesc)
open Go.Mem (adel apos aget_aset aget_adel)
/-- An ordered map of the reference in memory. -/
theorem cnt_step {S : List Slt} {i : Nat} {s : Slt} (h : S[i]? = some s) : cnt (S.take (i + 1)) = if s.gone then cnt (S.take i) else cnt (S.take i) + 1 := by
  unfold cnt; rw [live_take h]; split <;> simp
theorem set_gone {S : List Slt} (h : OInv S) {k : Vl} {i : Nat} {s : Slt} (hs : S[i]? = some s) (hk : s.key = k) (hg : s.gone = true) : S = S.set i ⟨k, zVl, true⟩ := by
  have e := h.zero s (List.mem_of_getElem? hs) hg
  have : s = ⟨k, zVl, true⟩ := by rw [← hk, ← e, ← hg]
  rw [← this]; exact (set_same hs).symm
theorem next_found2 {S : List Slt} {a j : Nat} {s : Slt} (ha : a ≤ j) (h : live ((S.drop a).take (j - a)) = []) (hs : S[j]? = some s) (hg : s.gone = false) : slotV (live (S.drop a)).head? = (s.key, s.val, true) :=
  next_found h (by rw [List.getElem?_drop, show a + (j - a) = j by omega]; exact hs) hg
theorem next_end2 {S : List Slt} {a j : Nat} (ha : a ≤ j) (h : live ((S.drop a).take (j - a)) = []) (hj : S.length ≤ j) : slotV (live (S.drop a)).head? = (zVl, zVl, false) :=
  next_end h (by rw [List.length_drop]; omega)
theorem next_step2 {S : List Slt} {a j : Nat} {s : Slt} (ha : a ≤ j) (h : live ((S.drop a).take (j - a)) = []) (hs : S[j]? = some s) (hg : s.gone = true) : live ((S.drop a).take (j + 1 - a)) = [] := by
  rw [show j + 1 - a = (j - a) + 1 by omega]
  exact live_gone_step h (by rw [List.getElem?_drop, show a + (j - a) = j by omega]; exact hs) hg
end Go.Proofs.YtmhpcebiamkciaaGreat
end
section
set_option linter.unusedSimpArgs false
set_option linter.unusedVariables false
set_option maxRecDepth 100000
set_option maxHeartbeats 2000000
namespace Go.Proofs.YtmhpcebiamkciaaGreat
open Go.Hp Go.J Go.S
open Go.Mem (Ty KTy blk elemAt pre suf blk_pre blk_suf aget aset strK aggDesc)
open Go.Mem (adel apos aget_aset aget_adel)
/-- A table in memory. -/
def tbA (b : Nat) (L : List Vl) (S : List Slt) : Asr := exA fun lv => exA fun r => stA True [blkA b #[lv, .pointer (some ⟨r, 0, none⟩)] 185, own VlT lv L, omA r S]
theorem tb_open {b : Nat} {L : List Vl} {S : List Slt} {Z : Zone} {F : List Asr} {H : Heap} (h : Holds Z (tbA b L S :: F) H) : ∃ (lv : Value) (r : Nat), True ∧ Holds Z (blkA b #[lv, .pointer (some ⟨r, 0, none⟩)] 185 :: own VlT lv L :: omA r S :: F) H := by
  obtain ⟨lv, h⟩ := h.open_ex
  obtain ⟨r, h⟩ := h.open_ex
  exact ⟨lv, r, h.open_st⟩
theorem tb_shut {b : Nat} {L : List Vl} {S : List Slt} {Z : Zone} {F : List Asr} {H : Heap} {lv : Value} {r : Nat} (h : Holds Z (blkA b #[lv, .pointer (some ⟨r, 0, none⟩)] 185 :: own VlT lv L :: omA r S :: F) H) : Holds Z (tbA b L S :: F) H :=
  Holds.shut_ex lv (Holds.shut_ex r (Holds.shut_st trivial h))
theorem tb_inv {b : Nat} {L : List Vl} {S : List Slt} {Z : Zone} {F : List Asr} {H : Heap} (h : Holds Z (tbA b L S :: F) H) : OInv S := by
  obtain ⟨_, _, _, h⟩ := tb_open h; exact om_inv (h.re [2] [])
theorem ofint_s {Z : Zone} (x : Int) : SF Tryz.prog 233 #[.int .i64 x] Z [] fun r Bs => r = (ofI x).v ∧ Bs = [] := by
 refine sf_enter Tryz.func233 13 [(0, .int .i64 x)] (fun w0 => ?_)
 refine k_sr ?_
 refine s_alloc (.agg #[.int .i64 0, .int .i64 0, .int .i64 0, .string ByteArray.empty, .int .i64 0]) #[.int .i64 0, .int .i64 0, .int .i64 0, .string ByteArray.empty, .int .i64 0] (fun g1 => ?_)
 refine s_nt ?_
 refine k_seq ?_
 refine k_cut (ι := Unit) (fun _ => True) (fun _ => [(0, .int .i64 x), (2, pB g1 0), (8, .bool ((decide (x < (-2147483647))) || (decide ((2147483647 : Int) < x))))]) (fun _ => [blkA g1 #[.int .i64 0, .int .i64 0, .int .i64 0, .string ByteArray.empty, .int .i64 0] 71]) ?_ (fun _ _ => ?_)
 ·
  refine k_reg ?_
  refine sp (.int .i64 x) ?_
  refine s_lt t_cmp ?_
  refine sp (.bool (decide (x < (-2147483647)))) ?_
  refine s_fork 5 (decide (x < (-2147483647))) (fun c2 => ?_) (fun c2 => ?_)
  ·
   have p3 := of_decide_eq_true c2
   refine s_skip ?_
   refine s_skip ?_
   refine sp (.bool true) ?_
   refine s_nil ?_
   exact xs_cut () trivial (sub_of rfl ⟨⟨rfl, rfl⟩, ⟨⟨rfl, rfl⟩, ⟨⟨rfl, show Value.bool true = Value.bool ((decide (x < (-2147483647))) || (decide ((2147483647 : Int) < x))) by first | (simp only [c2, bls]; done) | simp [c2]⟩, trivial⟩⟩⟩) (fun _ h => h.re [0] [])
  ·
   have p4 := of_decide_eq_false c2
   refine sp (.int .i64 x) ?_
   refine s_lt t_cmp ?_
   refine sp (.bool (decide ((2147483647 : Int) < x))) ?_
   refine s_nil ?_
   exact xs_cut () trivial (sub_of rfl ⟨⟨rfl, rfl⟩, ⟨⟨rfl, rfl⟩, ⟨⟨rfl, show Value.bool (decide ((2147483647 : Int) < x)) = Value.bool ((decide (x < (-2147483647))) || (decide ((2147483647 : Int) < x))) by first | (simp only [c2, bls]; done) | simp [c2]⟩, trivial⟩⟩⟩) (fun _ h => h.re [0] [])
 ·
  refine k_cond ((decide (x < (-2147483647))) || (decide ((2147483647 : Int) < x))) (fun c5 => ?_) (fun c5 => ?_)
  ·
   have p6 := c5
   simp only [Bool.and_eq_true, Bool.or_eq_true, Bool.and_eq_false_iff, Bool.or_eq_false_iff, Bool.not_eq_true', Bool.not_eq_false', decide_eq_true_eq, decide_eq_false_iff_not] at p6
   refine k_sr ?_
   refine s_lt (t_kern (.agg #[.int .i64 0, .int .i64 0, .int .i64 0, .string ByteArray.empty, .int .i64 0])) ?_
   refine s_store 0 #[.int .i64 0, .int .i64 0, .int .i64 0, .string ByteArray.empty, .int .i64 0] ?_
   refine s_nt ?_
   refine k_ret ?_
   refine xs_ret ?_
   refine xs_fin [.agg #[.int .i64 0, .int .i64 0, .int .i64 0, .string ByteArray.empty, .int .i64 0]] [] (SI.agg 2 71 0 SI.nil) (fun _ h => h.re [] [0]) ⟨?_, rfl⟩
   show Value.agg _ = Vl.v (ofI x); unfold ofI; rw [if_pos (by omega)]; rfl
  ·
   obtain ⟨c7, c8⟩ := or_f c5
   have p9 := of_decide_eq_false c7
   have p10 := of_decide_eq_false c8
   refine k_st ?_
   refine k_sr ?_
   refine sp (.int .i64 x) ?_
   refine s_lt (t_kern (.agg #[.int .i64 x, .int .i64 1])) ?_
   refine s_lt (t_kern (.agg #[.int .i64 2, .int .i64 x, .int .i64 1, .string ByteArray.empty, .int .i64 0])) ?_
   refine s_store 0 #[.int .i64 2, .int .i64 x, .int .i64 1, .string ByteArray.empty, .int .i64 0] ?_
   refine s_nt ?_
   refine k_ret ?_
   refine xs_fin [.agg #[.int .i64 2, .int .i64 x, .int .i64 1, .string ByteArray.empty, .int .i64 0]] [] (SI.agg 2 71 0 SI.nil) (fun _ h => h.re [] [0]) ⟨?_, rfl⟩
   show Value.agg _ = Vl.v (ofI x); unfold ofI; rw [if_neg (by omega)]
theorem integer_s {Z : Zone} (k : Vl) : SF Tryz.prog 192 #[k.v] Z [] fun r Bs => r = .tuple #[.int .i64 k.p, .bool (isIntB k)] ∧ Bs = [] := by
 refine sf_enter Tryz.func192 20 [(0, .agg #[.int .i64 k.kind, .int .i64 k.p, .int .i64 k.q, .string k.str, .int .i64 k.ref])] (fun w0 => ?_)
 refine k_sr ?_
 refine s_box #[.int .i64 k.kind, .int .i64 k.p, .int .i64 k.q, .string k.str, .int .i64 k.ref] (fun g1 => ?_)
 refine sp (.int .i64 0) ?_
 refine sp (.bool false) ?_
 refine s_nt ?_
 refine k_seq ?_
 refine k_held [blkA g1 #[.int .i64 k.kind, .int .i64 k.p, .int .i64 k.q, .string k.str, .int .i64 k.ref] 71] ?_
 refine hp_ 0 [0] (pB g1 1) ?_
 refine hp_ 1 [0] (pB g1 1) ?_
 refine h_l 2 rfl [0] (fun _ => (t_load 0 (.int .i64 k.p))) ?_
 refine hp_ 3 [0] (pB g1 0) ?_
 refine h_l 4 rfl [0] (fun _ => (t_load 0 (.int .i64 k.kind))) ?_
 refine h_l 5 rfl [0] (fun _ => t_cmp) ?_
 refine hp_ 6 [0] (.bool (decide (k.kind = 2))) ?_
 refine h_forkS 10 (decide (k.kind = 2)) (fun c2 => ?_) (fun c2 => ?_)
 ·
  have p3 := of_decide_eq_true c2
  refine hp_ 7 [0] (pB g1 1) ?_
  refine hp_ 8 [0] (pB g1 2) ?_
  refine h_l 9 rfl [0] (fun _ => (t_load 0 (.int .i64 k.q))) ?_
  refine h_l 10 rfl [0] (fun _ => t_cmp) ?_
  refine hp_ 11 [0] (.bool (decide (k.q = 1))) ?_
  refine hp_ 12 [0] (.bool (decide (k.q = 1))) ?_
  refine h_forkS 16 (decide (k.q = 1)) (fun c4 => ?_) (fun c4 => ?_)
  ·
   have p5 := of_decide_eq_true c4
   refine h_l 13 rfl [0] (fun _ => (t_loadA 0 #[.int .i64 k.kind, .int .i64 k.p, .int .i64 k.q, .string k.str, .int .i64 k.ref])) ?_
   refine h_stepS 14 ?_
   refine s_vcall (fun _ h => valid_s k) ?_
   rintro _ rfl
   refine s_nil (xs_held [0] ?_)
   refine hp_ 15 [0] (.bool (validB k)) ?_
   refine hp_ 16 [0] (.int .i64 k.p) ?_
   refine hp_ 17 [0] (.bool (validB k)) ?_
   refine h_doneS ?_
   refine xs_then ?_
   refine k_ret ?_
   refine xs_fin [.int .i64 k.p, .bool (validB k)] [] (SI.tmp 2 (SI.tmp 3 SI.nil)) (fun _ h => h.re [] [0]) ⟨?_, rfl⟩
   show Value.tuple #[.int .i64 k.p, .bool (validB k)] = Value.tuple #[.int .i64 k.p, .bool (isIntB k)]
   unfold isIntB; simp [c2, c4]
  ·
   have p6 := of_decide_eq_false c4
   refine h_sk 13 [0] ?_
   refine h_stepS 14 ?_
   refine s_skip ?_
   refine s_nil (xs_held [0] ?_)
   refine hp_ 15 [0] (.bool false) ?_
   refine hp_ 16 [0] (.int .i64 k.p) ?_
   refine hp_ 17 [0] (.bool false) ?_
   refine h_doneS ?_
   refine xs_then ?_
   refine k_ret ?_
   refine xs_fin [.int .i64 k.p, .bool false] [] (SI.tmp 2 (SI.tmp 3 SI.nil)) (fun _ h => h.re [] [0]) ⟨?_, rfl⟩
   show Value.tuple #[.int .i64 k.p, .bool false] = Value.tuple #[.int .i64 k.p, .bool (isIntB k)]
   unfold isIntB; simp [c2, c4]
 ·
  have p7 := of_decide_eq_false c2
  refine h_sk 7 [0] ?_
  refine h_sk 8 [0] ?_
  refine h_sk 9 [0] ?_
  refine h_sk 10 [0] ?_
  refine hp_ 11 [0] (.bool false) ?_
  refine hp_ 12 [0] (.bool false) ?_
  refine h_sk 13 [0] ?_
  refine h_stepS 14 ?_
  refine s_skip ?_
  refine s_nil (xs_held [0] ?_)
  refine hp_ 15 [0] (.bool false) ?_
  refine hp_ 16 [0] (.int .i64 k.p) ?_
  refine hp_ 17 [0] (.bool false) ?_
  refine h_doneS ?_
  refine xs_then ?_
  refine k_ret ?_
  refine xs_fin [.int .i64 k.p, .bool false] [] (SI.tmp 2 (SI.tmp 3 SI.nil)) (fun _ h => h.re [] [0]) ⟨?_, rfl⟩
  show Value.tuple #[.int .i64 k.p, .bool false] = Value.tuple #[.int .i64 k.p, .bool (isIntB k)]
  unfold isIntB; simp [c2]
theorem tbnew_s {Z : Zone} : SF Tryz.prog 73 #[] Z [] fun r Bs => ∃ b, r = .pointer (some ⟨b, 0, none⟩) ∧ Bs = [tbA b [] []] := by
 refine sf_enter Tryz.func73 4 [] (fun w0 => ?_)
 refine k_sr ?_
 refine sp (.pointer none) ?_
 refine s_nr ?_
 refine s_pcall (fun _ h => omnew_s) ?_
 rintro _ _ ⟨r1, rfl, rfl⟩
 refine s_lt (t_kern (.agg #[(.slice none 0 0), pB r1 0])) ?_
 refine s_box #[(.slice none 0 0), pB r1 0] (fun g2 => ?_)
 refine sp (pB g2 0) ?_
 refine s_nt ?_
 refine k_ret ?_
 refine xs_fin [pB g2 0] [tbA g2 [] []] (SI.tmp 0 SI.nil) (fun _ h => tb_shut (b := g2) (lv := .slice none 0 0) (r := r1) ((Holds.nilS (T := VlT) h).re [1, 0, 0] [])) ⟨g2, rfl, rfl⟩
theorem tbget_s {Z : Zone} {F : List Asr} {b : Nat} {L : List Vl} {S : List Slt} (hl : L.length ≤ 1000000) (k : Vl) : SF Tryz.prog 211 #[.pointer (some ⟨b, 0, none⟩), k.v] Z (tbA b L S :: F) fun r Bs => r = (tget ⟨L, S⟩ k).v ∧ Bs = tbA b L S :: F := by
 refine sf_enter Tryz.func211 48 [(0, pB b 0), (1, .agg #[.int .i64 k.kind, .int .i64 k.p, .int .i64 k.q, .string k.str, .int .i64 k.ref])] (fun w0 => ?_)
 refine k_sr ?_
 refine s_box #[.int .i64 k.kind, .int .i64 k.p, .int .i64 k.q, .string k.str, .int .i64 k.ref] (fun g1 => ?_)
 refine s_alloc (.agg #[.int .i64 0, .int .i64 0, .int .i64 0, .string ByteArray.empty, .int .i64 0]) #[.int .i64 0, .int .i64 0, .int .i64 0, .string ByteArray.empty, .int .i64 0] (fun g2 => ?_)
 refine s_nt ?_
 refine k_seq ?_
 refine k_sr ?_
 refine sp (pB b 0) ?_
 refine sp (.bool false) ?_
 refine sp (.bool false) ?_
 refine s_lt (t_loadA 1 #[.int .i64 k.kind, .int .i64 k.p, .int .i64 k.q, .string k.str, .int .i64 k.ref]) ?_
 refine s_vcall (fun _ h => valid_s k) ?_
 rintro _ rfl
 refine sp (.bool (!(validB k))) ?_
 refine sp (.bool (!(validB k))) ?_
 refine s_nt ?_
 refine k_cond (!(validB k)) (fun c3 => ?_) (fun c3 => ?_)
 ·
  have c4 := not_t c3
  refine k_sr ?_
  refine s_lt (t_kern (.agg #[.int .i64 0, .int .i64 0, .int .i64 0, .string ByteArray.empty, .int .i64 0])) ?_
  refine s_store 0 #[.int .i64 0, .int .i64 0, .int .i64 0, .string ByteArray.empty, .int .i64 0] ?_
  refine s_nt ?_
  refine k_ret ?_
  refine xs_ret ?_
  refine xs_fin [.agg #[.int .i64 0, .int .i64 0, .int .i64 0, .string ByteArray.empty, .int .i64 0]] (tbA b L S :: F) (SI.agg 4 71 0 SI.nil) (fun _ h => h.re [2] [1, 1]) ⟨?_, rfl⟩
  rw [tget_bad c4]; rfl
 ·
  have c5 := not_f c3
  refine k_st ?_
  refine k_seq ?_
  refine k_sr ?_
  refine s_lt (t_loadA 1 #[.int .i64 k.kind, .int .i64 k.p, .int .i64 k.q, .string k.str, .int .i64 k.ref]) ?_
  refine s_vcall (fun _ h => integer_s k) ?_
  rintro u6 e7
  rcases int_cases k with ⟨hi8, hp9, hv10⟩ | ⟨hi11, hw12⟩
  ·
   rw [hi8, hp9] at e7; subst e7
   refine sp (.tuple #[.int .i64 (whole k), .bool true]) ?_
   refine sp (.int .i64 (whole k)) ?_
   refine sp (.bool true) ?_
   refine sp (.int .i64 (whole k)) ?_
   refine sp (.bool true) ?_
   refine s_nr ?_
   refine sp (.bool true) ?_
   refine sp (.bool true) ?_
   refine sp (.int .i64 (whole k)) ?_
   refine s_lt t_cmp ?_
   refine sp (.bool (decide ((1 : Int) ≤ (whole k)))) ?_
   refine sp (.bool (decide ((1 : Int) ≤ (whole k)))) ?_
   refine s_fork 25 (decide ((1 : Int) ≤ (whole k))) (fun c13 => ?_) (fun c13 => ?_)
   ·
    have p14 := of_decide_eq_true c13
    refine sp (.int .i64 (whole k)) ?_
    refine sp (pB b 0) ?_
    refine sp (pB b 0) ?_
    refine sp (pB b 0) ?_
    refine s_mem2 (fun H h => tb_open (h.re [2] [])) (fun lv15 r16 hw => ?_)
    refine s_lt (t_load 0 lv15) ?_
    refine s_lt (t_len VlT_ok Tryz.underlying28 (.own 1)) ?_
    refine s_lt t_cmp ?_
    refine sp (.bool (decide ((whole k) ≤ (L.length : Int)))) ?_
    refine s_nt ?_
    refine k_cond (decide ((whole k) ≤ (L.length : Int))) (fun c17 => ?_) (fun c17 => ?_)
    ·
     have p18 := of_decide_eq_true c17
     refine k_sr ?_
     refine sp (pB b 0) ?_
     refine sp (pB b 0) ?_
     refine sp (pB b 0) ?_
     refine s_lt (t_load 0 lv15) ?_
     refine sp (.int .i64 (whole k)) ?_
     refine s_lt (t_sub (whole k) 1 (by (try simp only [lnm]); omega)) ?_
     refine s_lt (t_index VlT_ok Tryz.underlying28 (.own 1) ((whole k) - 1) ((((whole k) - 1)).toNat) (by omega) (by (try simp only [lnm]); omega) (by omega)) ?_
     obtain ⟨y19, hy20⟩ : ∃ y, L[(((whole k) - 1)).toNat]? = some y := ⟨_, List.getElem?_eq_getElem (by (try simp only [lnm]); omega)⟩
     refine s_lt (t_loadE VlT_ok (.own 1) hy20) ?_
     refine s_store 3 #[.int .i64 y19.kind, .int .i64 y19.p, .int .i64 y19.q, .string y19.str, .int .i64 y19.ref] ?_
     refine s_nt ?_
     refine k_ret ?_
     refine xs_ret ?_
     refine xs_mem (fun _ h => tb_shut (h.re [0, 0, 0] [])) ?_
     refine xs_fin [.agg #[.int .i64 y19.kind, .int .i64 y19.p, .int .i64 y19.q, .string y19.str, .int .i64 y19.ref]] (tbA b L S :: F) (SI.agg 4 71 1 SI.nil) (fun _ h => h.re [0] [1, 1]) ⟨?_, rfl⟩
     rw [tget_in (T := ⟨L, S⟩) c5 (by omega) (by show _ ≤ (L.length : Int); omega) hy20]; rfl
    ·
     have p21 := of_decide_eq_false c17
     refine k_st ?_
     refine k_seq ?_
     refine k_draw ?_
     refine sp (pB b 0) ?_
     refine sp (pB b 0) ?_
     refine sp (pB b 1) ?_
     refine s_lt (t_load 0 (pB r16 0)) ?_
     refine s_lt (t_loadA 4 #[.int .i64 k.kind, .int .i64 k.p, .int .i64 k.q, .string k.str, .int .i64 k.ref]) ?_
     refine s_call [2] (omget_s (S := S) k) ?_
     rintro _ _ ⟨rfl, rfl⟩
     refine s_store 3 #[.int .i64 ((oget S k).kind), .int .i64 ((oget S k).p), .int .i64 ((oget S k).q), .string ((oget S k).str), .int .i64 ((oget S k).ref)] ?_
     refine s_nil ?_
     refine x_dynS (fun _ h => by kernel_rfl) ?_
     refine xs_then ?_
     refine k_ret ?_
     refine xs_mem (fun _ h => tb_shut (h.re [1, 1, 0] [])) ?_
     refine xs_fin [.agg #[.int .i64 ((oget S k).kind), .int .i64 ((oget S k).p), .int .i64 ((oget S k).q), .string ((oget S k).str), .int .i64 ((oget S k).ref)]] (tbA b L S :: F) (SI.agg 4 71 1 SI.nil) (fun _ h => h.re [0] [1, 1]) ⟨?_, rfl⟩
     rw [tget_out (T := ⟨L, S⟩) c5 (by show ¬ (_ ∧ _ ≤ (L.length : Int)); omega)]; rfl
   ·
    have p22 := of_decide_eq_false c13
    refine s_skip ?_
    refine s_skip ?_
    refine s_skip ?_
    refine s_skip ?_
    refine s_skip ?_
    refine s_skip ?_
    refine s_skip ?_
    refine sp (.bool false) ?_
    refine s_nt ?_
    refine k_false ?_
    refine k_st ?_
    refine k_seq ?_
    refine k_draw ?_
    refine sp (pB b 0) ?_
    refine sp (pB b 0) ?_
    refine sp (pB b 1) ?_
    refine s_mem2 (fun H h => tb_open (h.re [2] [])) (fun lv23 r24 hw => ?_)
    refine s_lt (t_load 0 (pB r24 0)) ?_
    refine s_lt (t_loadA 4 #[.int .i64 k.kind, .int .i64 k.p, .int .i64 k.q, .string k.str, .int .i64 k.ref]) ?_
    refine s_call [2] (omget_s (S := S) k) ?_
    rintro _ _ ⟨rfl, rfl⟩
    refine s_store 3 #[.int .i64 ((oget S k).kind), .int .i64 ((oget S k).p), .int .i64 ((oget S k).q), .string ((oget S k).str), .int .i64 ((oget S k).ref)] ?_
    refine s_nil ?_
    refine x_dynS (fun _ h => by kernel_rfl) ?_
    refine xs_then ?_
    refine k_ret ?_
    refine xs_mem (fun _ h => tb_shut (h.re [1, 1, 0] [])) ?_
    refine xs_fin [.agg #[.int .i64 ((oget S k).kind), .int .i64 ((oget S k).p), .int .i64 ((oget S k).q), .string ((oget S k).str), .int .i64 ((oget S k).ref)]] (tbA b L S :: F) (SI.agg 4 71 1 SI.nil) (fun _ h => h.re [0] [1, 1]) ⟨?_, rfl⟩
    rw [tget_out (T := ⟨L, S⟩) c5 (by show ¬ (_ ∧ _ ≤ (L.length : Int)); omega)]; rfl
  ·
   rw [hi11] at e7; subst e7
   refine sp (.tuple #[.int .i64 k.p, .bool false]) ?_
   refine sp (.int .i64 k.p) ?_
   refine sp (.bool false) ?_
   refine sp (.int .i64 k.p) ?_
   refine sp (.bool false) ?_
   refine s_nr ?_
   refine sp (.bool false) ?_
   refine sp (.bool false) ?_
   refine s_skip ?_
   refine s_skip ?_
   refine sp (.bool false) ?_
   refine sp (.bool false) ?_
   refine s_skip ?_
   refine s_skip ?_
   refine s_skip ?_
   refine s_skip ?_
   refine s_skip ?_
   refine s_skip ?_
   refine s_skip ?_
   refine sp (.bool false) ?_
   refine s_nt ?_
   refine k_false ?_
   refine k_st ?_
   refine k_seq ?_
   refine k_draw ?_
   refine sp (pB b 0) ?_
   refine sp (pB b 0) ?_
   refine sp (pB b 1) ?_
   refine s_mem2 (fun H h => tb_open (h.re [2] [])) (fun lv25 r26 hw => ?_)
   refine s_lt (t_load 0 (pB r26 0)) ?_
   refine s_lt (t_loadA 4 #[.int .i64 k.kind, .int .i64 k.p, .int .i64 k.q, .string k.str, .int .i64 k.ref]) ?_
   refine s_call [2] (omget_s (S := S) k) ?_
   rintro _ _ ⟨rfl, rfl⟩
   refine s_store 3 #[.int .i64 ((oget S k).kind), .int .i64 ((oget S k).p), .int .i64 ((oget S k).q), .string ((oget S k).str), .int .i64 ((oget S k).ref)] ?_
   refine s_nil ?_
   refine x_dynS (fun _ h => by kernel_rfl) ?_
   refine xs_then ?_
   refine k_ret ?_
   refine xs_mem (fun _ h => tb_shut (h.re [1, 1, 0] [])) ?_
   refine xs_fin [.agg #[.int .i64 ((oget S k).kind), .int .i64 ((oget S k).p), .int .i64 ((oget S k).q), .string ((oget S k).str), .int .i64 ((oget S k).ref)]] (tbA b L S :: F) (SI.agg 4 71 1 SI.nil) (fun _ h => h.re [0] [1, 1]) ⟨?_, rfl⟩
   rw [tget_out (T := ⟨L, S⟩) c5 (by show ¬ (_ ∧ _ ≤ (L.length : Int)); omega)]; rfl
theorem tbshrink_s {Z : Zone} {F : List Asr} {b : Nat} {L : List Vl} {S : List Slt} (hl : L.length ≤ 1000000) : SF Tryz.prog 193 #[.pointer (some ⟨b, 0, none⟩)] Z (tbA b L S :: F) fun r Bs => r = .tuple #[] ∧ Bs = tbA b (shr L) S :: F := by
 refine sf_enter Tryz.func193 34 [(0, pB b 0)] (fun w0 => ?_)
 refine k_sr ?_
 refine sp (pB b 0) ?_
 refine sp (pB b 0) ?_
 refine sp (pB b 0) ?_
 refine s_mem2 (fun H h => tb_open (h.re [0] [])) (fun lv1 r2 hw => ?_)
 refine s_lt (t_load 0 lv1) ?_
 refine s_lt (t_len VlT_ok Tryz.underlying28 (.own 1)) ?_
 refine sp (.int .i64 (L.length : Int)) ?_
 refine s_nt ?_
 refine k_seq ?_
 refine k_block ?_
 refine k_mem (fun _ h => tb_shut (h.re [0, 0, 0] [])) ?_
 refine k_loop (ι := Nat) (fun n => n ≤ L.length ∧ shr L = shr (L.take n)) (fun n => [(0, pB b 0), (2, .int .i64 (n : Int))]) (fun n => tbA b L S :: F) (fun n => n) L.length ⟨Nat.le_refl _, by rw [List.take_length]⟩ (sub_of rfl ⟨⟨rfl, rfl⟩, ⟨⟨rfl, rfl⟩, trivial⟩⟩) (fun _ h => h.re [0] []) ?_
 rintro n hi3
 show SK _ _ _ _ _ [(0, .pointer (some ⟨b, 0, none⟩)), (2, .int .i64 (n : Int))] _ (tbA b L S :: F)
 refine k_seq ?_
 refine k_sr ?_
 refine sp (.int .i64 (n : Int)) ?_
 refine s_lt t_cmp ?_
 refine sp (.bool (decide ((0 : Int) < (n : Int)))) ?_
 refine s_fork 10 (decide ((0 : Int) < (n : Int))) (fun c4 => ?_) (fun c4 => ?_)
 ·
  have p5 := of_decide_eq_true c4
  refine sp (pB b 0) ?_
  refine sp (pB b 0) ?_
  refine sp (pB b 0) ?_
  refine s_mem2 (fun H h => tb_open (h.re [0] [])) (fun lv6 r7 hw => ?_)
  refine s_lt (t_load 0 lv6) ?_
  refine sp (.int .i64 (n : Int)) ?_
  refine s_lt (t_sub (n : Int) 1 (by (try simp only [lnm]); omega)) ?_
  refine s_lt (t_index VlT_ok Tryz.underlying28 (.own 1) ((n : Int) - 1) (n - 1) (by omega) (by (try simp only [lnm]); omega) (by omega)) ?_
  refine sp (.pointer (some (elemAt VlT.size lv6 (n - 1)))) ?_
  obtain ⟨y8, hy9⟩ : ∃ y, L[(n - 1)]? = some y := ⟨_, List.getElem?_eq_getElem (by (try simp only [lnm]); omega)⟩
  refine s_lt (t_loadF 0 VlT_ok (.own 1) hy9) ?_
  refine s_lt t_cmp ?_
  refine sp (.bool (decide (y8.kind = 0))) ?_
  refine s_nt ?_
  refine k_cond (decide (y8.kind = 0)) (fun c10 => ?_) (fun c10 => ?_)
  ·
   have p11 := of_decide_eq_true c10
   refine k_st ?_
   refine k_block ?_
   refine k_reg ?_
   refine sp (.int .i64 (n : Int)) ?_
   refine s_lt (t_sub (n : Int) 1 (by (try simp only [lnm]); omega)) ?_
   refine sp (.int .i64 ((n : Int) - 1)) ?_
   refine s_nil ?_
   refine xs_block ?_
   refine xs_mem (fun _ h => tb_shut (h.re [0, 0, 0] [])) ?_
   exact xs_round (n - 1) (by omega) ⟨by omega, by rw [← shr_step (n := n - 1) (by omega) hy9 (by omega), show n - 1 + 1 = n by omega]; exact hi3.2⟩ (sub_of rfl ⟨⟨rfl, rfl⟩, ⟨⟨rfl, congrArg (Value.int .i64) (by omega)⟩, trivial⟩⟩) (fun _ h => h.re [0] [])
  ·
   have p12 := of_decide_eq_false c10
   refine k_exit ?_
   refine xs_exit ?_
   refine xs_exit ?_
   refine xs_here ?_
   refine xs_then ?_
   refine k_reg ?_
   refine sp (pB b 0) ?_
   refine sp (pB b 0) ?_
   refine sp (pB b 0) ?_
   refine sp (pB b 0) ?_
   refine s_lt (t_load 0 lv6) ?_
   refine sp (.int .i64 (n : Int)) ?_
   refine sp (.int .i64 (n : Int)) ?_
   refine s_lt (t_pre3 VlT_ok Tryz.underlying28 (.own 1) (n : Int) n (by omega) (by (try simp only [lnm]); omega) (by omega)) ?_
   refine sp (pB b 0) ?_
   refine sp (pB b 0) ?_
   refine s_mem (fun _ h => Holds.pre3 (i := 1) h VlT_ok n rfl (by (try simp only [lnm]); omega)) ?_
   refine s_fact (fun H h => ((Acc.own (T := VlT) (L := (L.take n)) 1 rfl) H h).form) (fun hf13 => ?_)
   refine s_store (u := (pre3 lv6 n)) (m := 1) 0 #[(pre3 lv6 n), pB r7 0] ?_ (hm := by (obtain ⟨_, _, e⟩ := hf13; rw [e]; rfl)) (h1 := by (obtain ⟨_, _, e⟩ := hf13; rw [e]; rfl)) (ha' := by (obtain ⟨_, _, e⟩ := hf13; rw [e]; rfl))
   refine s_nil ?_
   refine xs_mem (fun _ h => tb_shut (h.re [0, 0, 0] [])) ?_
   have hS : shr L = L.take n := by rw [hi3.2, show n = n - 1 + 1 by omega]; exact shr_stop hy9 (by omega)
   refine xs_finN [] (tbA b (L.take n) S :: F) SI.nil (fun _ h => h.re [0] []) ⟨rfl, ?_⟩
   rw [hS]
 ·
  have p14 := of_decide_eq_false c4
  refine s_skip ?_
  refine s_skip ?_
  refine s_skip ?_
  refine s_skip ?_
  refine s_skip ?_
  refine s_skip ?_
  refine s_skip ?_
  refine s_skip ?_
  refine s_skip ?_
  refine s_skip ?_
  refine sp (.bool false) ?_
  refine s_nt ?_
  refine k_false ?_
  refine k_exit ?_
  refine xs_exit ?_
  refine xs_exit ?_
  refine xs_here ?_
  refine xs_then ?_
  refine k_reg ?_
  refine sp (pB b 0) ?_
  refine sp (pB b 0) ?_
  refine sp (pB b 0) ?_
  refine sp (pB b 0) ?_
  refine s_mem2 (fun H h => tb_open (h.re [0] [])) (fun lv15 r16 hw => ?_)
  refine s_lt (t_load 0 lv15) ?_
  refine sp (.int .i64 (n : Int)) ?_
  refine sp (.int .i64 (n : Int)) ?_
  refine s_lt (t_pre3 VlT_ok Tryz.underlying28 (.own 1) (n : Int) n (by omega) (by (try simp only [lnm]); omega) (by omega)) ?_
  refine sp (pB b 0) ?_
  refine sp (pB b 0) ?_
  refine s_mem (fun _ h => Holds.pre3 (i := 1) h VlT_ok n rfl (by (try simp only [lnm]); omega)) ?_
  refine s_fact (fun H h => ((Acc.own (T := VlT) (L := (L.take n)) 1 rfl) H h).form) (fun hf17 => ?_)
  refine s_store (u := (pre3 lv15 n)) (m := 1) 0 #[(pre3 lv15 n), pB r16 0] ?_ (hm := by (obtain ⟨_, _, e⟩ := hf17; rw [e]; rfl)) (h1 := by (obtain ⟨_, _, e⟩ := hf17; rw [e]; rfl)) (ha' := by (obtain ⟨_, _, e⟩ := hf17; rw [e]; rfl))
  refine s_nil ?_
  refine xs_mem (fun _ h => tb_shut (h.re [0, 0, 0] [])) ?_
  have hS : shr L = L.take n := by obtain rfl : n = 0 := (by omega); rw [hi3.2]; rfl
  refine xs_finN [] (tbA b (L.take n) S :: F) SI.nil (fun _ h => h.re [0] []) ⟨rfl, ?_⟩
  rw [hS]
theorem stale_step (S : List Slt) {n m : Nat} (h : n ≤ m) : (staleB S n m || decide ((onext S (ofI ((m : Int) + 1))).2.2.2 = 0)) = staleB S n (m + 1) := by
  rw [staleB_snoc S h, hasK_iff]
  cases hasK S (ofI ((m : Int) + 1)) <;> simp
theorem tadd_eq {L L' : List Vl} {S : List Slt} {v : Vl} (h : grow S (S.length + 2) L v = L') : tadd ⟨L, S⟩ v = ⟨L', if staleB S L.length L'.length then purge S L'.length else S⟩ := by
  unfold tadd; simp only [h]
theorem purge0 (S : List Slt) (m : Nat) : purgeS S m 0 = [] := rfl
theorem purgeS_len (S : List Slt) (m i : Nat) : (purgeS S m i).length ≤ S.length := by
  unfold purgeS
  refine Nat.le_trans (List.length_filter_le _ _) ?_
  rw [List.length_take]; have := cnt_le S; unfold cnt at this; omega
theorem okeys_length (S : List Slt) : (okeys S).length = (live S).length := by unfold okeys; simp
theorem mu_le (S : List Slt) (n : Nat) (v : Vl) : mu S n v ≤ S.length + 1 := by
  unfold mu; have := more_le S (n + 1); split <;> omega
theorem tbadd_s {Z : Zone} {F : List Asr} {b : Nat} {L : List Vl} {S : List Slt} (hl : L.length ≤ 100000) (hs : S.length ≤ 100000) (v : Vl) : SF Tryz.prog 194 #[.pointer (some ⟨b, 0, none⟩), v.v] Z (tbA b L S :: F) fun r Bs => r = .tuple #[] ∧ Bs = tbA b (tadd ⟨L, S⟩ v).list (tadd ⟨L, S⟩ v).rest :: F := by
 refine sf_enter Tryz.func194 107 [(0, pB b 0), (1, .agg #[.int .i64 v.kind, .int .i64 v.p, .int .i64 v.q, .string v.str, .int .i64 v.ref])] (fun w0 => ?_)
 refine k_fact (fun H h => tb_inv (h.re [0] [])) (fun hinv0 => ?_)
 have hol := okeys_len S
 refine k_sr ?_
 refine s_box #[.int .i64 v.kind, .int .i64 v.p, .int .i64 v.q, .string v.str, .int .i64 v.ref] (fun g1 => ?_)
 refine s_nr ?_
 refine sp (.bool false) ?_
 refine s_nt ?_
 refine k_seq ?_
 refine k_block ?_
 refine k_mem2 (fun H h => tb_open (h.re [1] [])) (fun lv2 r3 hw => ?_)
 have hmu0 := mu_le S L.length v
 refine k_loop (ι := Value × List Vl × Vl × Nat) (fun (lx, X, x, f) => grow S (S.length + 2) L v = grow S f X x ∧ mu S X.length x ≤ f ∧ L.length ≤ X.length ∧ X.length + mu S X.length x ≤ L.length + S.length + 1) (fun (lx, X, x, f) => [(0, pB b 0), (3, pB g1 0), (4, .bool (staleB S L.length X.length))]) (fun (lx, X, x, f) => blkA b #[lx, pB r3 0] 185 :: own VlT lx X :: omA r3 S :: blkA g1 #[.int .i64 x.kind, .int .i64 x.p, .int .i64 x.q, .string x.str, .int .i64 x.ref] 71 :: F) (fun (lx, X, x, f) => mu S X.length x) (lv2, L, v, S.length + 2) ⟨rfl, by omega, by omega, by omega⟩ (sub_of rfl ⟨⟨rfl, rfl⟩, ⟨⟨rfl, rfl⟩, ⟨⟨rfl, congrArg Value.bool (staleB_self S L.length).symm⟩, trivial⟩⟩⟩) (fun _ h => h.re [0, 0, 0, 0] []) ?_
 rintro ⟨lx, X, x, f⟩ hi4
 replace hi4 : grow S (S.length + 2) L v = grow S f X x ∧ mu S X.length x ≤ f ∧ L.length ≤ X.length ∧ X.length + mu S X.length x ≤ L.length + S.length + 1 := hi4
 show SK _ _ _ _ _ [(0, .pointer (some ⟨b, 0, none⟩)), (3, .pointer (some ⟨g1, 0, none⟩)), (4, .bool (staleB S L.length X.length))] _ (blkA b #[lx, .pointer (some ⟨r3, 0, none⟩)] 185 :: own VlT lx X :: omA r3 S :: blkA g1 #[.int .i64 x.kind, .int .i64 x.p, .int .i64 x.q, .string x.str, .int .i64 x.ref] 71 :: F)
 refine k_seq ?_
 refine k_sr ?_
 refine sp (pB g1 0) ?_
 refine s_lt (t_load 3 (.int .i64 x.kind)) ?_
 refine s_lt t_cmp ?_
 refine s_nt ?_
 refine k_cond (decide (x.kind ≠ 0)) (fun c5 => ?_) (fun c5 => ?_)
 ·
  have p6 := of_decide_eq_true c5
  have hx0 : x.kind ≠ 0 := of_decide_eq_true c5
  obtain ⟨f1, hf1, hg1⟩ := grow_step S X hx0 hi4.2.1
  have hg2 : grow S (S.length + 2) L v = grow S (f - 1) (X ++ [x]) (oget S (ofI ((X.length : Int) + 2))) := by rw [hi4.1, hg1, hf1]; rfl
  refine k_st ?_
  refine k_block ?_
  refine k_seq ?_
  refine k_draw ?_
  refine sp (pB b 0) ?_
  refine sp (pB b 0) ?_
  refine sp (pB b 0) ?_
  refine sp (pB b 0) ?_
  refine s_lt (t_load 0 lx) ?_
  refine s_lt (t_loadA 3 #[.int .i64 x.kind, .int .i64 x.p, .int .i64 x.q, .string x.str, .int .i64 x.ref]) ?_
  refine s_buildSlice (e := 71) [(0, .agg #[.int .i64 x.kind, .int .i64 x.p, .int .i64 x.q, .string x.str, .int .i64 x.ref])] #[.int .i64 x.kind, .int .i64 x.p, .int .i64 x.q, .string x.str, .int .i64 x.ref] (fun g7 => ?_) (hb := by kernel_rfl)
  refine s_append (L := X) 2 VlT_ok Tryz.underlying28 (.lit 0 VlT_ok [x]) (by show _ * 48 ≤ _; (try simp only [lnm]); omega) (by (try simp only [lnm]); omega) (fun v8 => ?_)
  obtain ⟨L2, hL2⟩ : ∃ y, y = X ++ [x] := ⟨_, rfl⟩
  rw [← hL2]
  have ll2 : L2.length = X.length + 1 := by rw [hL2]; simp
  refine sp (pB b 0) ?_
  refine sp (pB b 0) ?_
  refine s_fact (fun H h => ((Acc.own (T := VlT) (L := L2) 2 rfl) H h).form) (fun hf9 => ?_)
  refine s_store (u := v8) (m := 1) 1 #[v8, pB r3 0] ?_ (hm := by (obtain ⟨_, _, e⟩ := hf9; rw [e]; rfl)) (h1 := by (obtain ⟨_, _, e⟩ := hf9; rw [e]; rfl)) (ha' := by (obtain ⟨_, _, e⟩ := hf9; rw [e]; rfl))
  refine s_nil ?_
  refine x_dynS (fun _ h => by kernel_rfl) ?_
  refine xs_then ?_
  refine k_cut (ι := Unit) (fun _ => True) (fun _ => [(0, pB b 0), (3, pB g1 0), (4, .bool (staleB S L.length X.length)), (8, .int .i64 ((onext S (ofI ((X.length : Int) + 1))).2.2.2))]) (fun _ => blkA g7 #[.int .i64 x.kind, .int .i64 x.p, .int .i64 x.q, .string x.str, .int .i64 x.ref] 71 :: blkA b #[v8, pB r3 0] 185 :: own VlT v8 L2 :: omA r3 S :: blkA g1 #[.int .i64 x.kind, .int .i64 x.p, .int .i64 x.q, .string x.str, .int .i64 x.ref] 71 :: F) ?_ (fun _ _ => ?_)
  ·
   refine k_held [blkA g7 #[.int .i64 x.kind, .int .i64 x.p, .int .i64 x.q, .string x.str, .int .i64 x.ref] 71, blkA b #[v8, pB r3 0] 185, own VlT v8 L2, blkA g1 #[.int .i64 x.kind, .int .i64 x.p, .int .i64 x.q, .string x.str, .int .i64 x.ref] 71] ?_
   refine hp_ 0 [0, 0, 0, 1] (pB b 0) ?_
   refine hp_ 1 [0, 0, 0, 1] (pB b 0) ?_
   refine hp_ 2 [0, 0, 0, 1] (pB b 1) ?_
   refine h_l 3 rfl [0, 0, 0, 1] (fun _ => (t_load 1 (pB r3 0))) ?_
   refine hp_ 4 [0, 0, 0, 1] (pB b 0) ?_
   refine hp_ 5 [0, 0, 0, 1] (pB b 0) ?_
   refine hp_ 6 [0, 0, 0, 1] (pB b 0) ?_
   refine h_l 7 rfl [0, 0, 0, 1] (fun _ => (t_load 1 v8)) ?_
   refine h_l 8 rfl [0, 0, 0, 1] (fun _ => (t_len VlT_ok Tryz.underlying28 (.own 2))) ?_
   refine h_stepS3 9 16 17 ?_ ?_ ?_
   ·
    refine s_vcall (fun _ h => ofint_s (L2.length : Int)) ?_
    rintro u11 e10
    obtain rfl : u11 = (ofI ((X.length : Int) + 1)).v := by rw [e10, show (L2.length : Int) = (X.length : Int) + 1 by omega]
    refine s_nil (xs_held [0, 0, 0, 1] ?_)
    refine h_stepS3 10 16 17 ?_ ?_ ?_
    ·
     refine s_call [3] (omnext_s (S := S) (by (try simp only [lnm]); omega) (ofI ((X.length : Int) + 1))) ?_
     rintro _ _ ⟨rfl, rfl⟩
     refine s_nil (xs_held [1, 1, 1, 1] ?_)
     refine hp_ 11 [1, 1, 1, 1] (.tuple #[.agg #[.int .i64 (((onext S (ofI ((X.length : Int) + 1))).1).kind), .int .i64 (((onext S (ofI ((X.length : Int) + 1))).1).p), .int .i64 (((onext S (ofI ((X.length : Int) + 1))).1).q), .string (((onext S (ofI ((X.length : Int) + 1))).1).str), .int .i64 (((onext S (ofI ((X.length : Int) + 1))).1).ref)], .agg #[.int .i64 (((onext S (ofI ((X.length : Int) + 1))).2.1).kind), .int .i64 (((onext S (ofI ((X.length : Int) + 1))).2.1).p), .int .i64 (((onext S (ofI ((X.length : Int) + 1))).2.1).q), .string (((onext S (ofI ((X.length : Int) + 1))).2.1).str), .int .i64 (((onext S (ofI ((X.length : Int) + 1))).2.1).ref)], .bool ((onext S (ofI ((X.length : Int) + 1))).2.2.1), .int .i64 ((onext S (ofI ((X.length : Int) + 1))).2.2.2)]) ?_
     refine hp_ 12 [1, 1, 1, 1] (.agg #[.int .i64 (((onext S (ofI ((X.length : Int) + 1))).1).kind), .int .i64 (((onext S (ofI ((X.length : Int) + 1))).1).p), .int .i64 (((onext S (ofI ((X.length : Int) + 1))).1).q), .string (((onext S (ofI ((X.length : Int) + 1))).1).str), .int .i64 (((onext S (ofI ((X.length : Int) + 1))).1).ref)]) ?_
     refine hp_ 13 [1, 1, 1, 1] (.agg #[.int .i64 (((onext S (ofI ((X.length : Int) + 1))).2.1).kind), .int .i64 (((onext S (ofI ((X.length : Int) + 1))).2.1).p), .int .i64 (((onext S (ofI ((X.length : Int) + 1))).2.1).q), .string (((onext S (ofI ((X.length : Int) + 1))).2.1).str), .int .i64 (((onext S (ofI ((X.length : Int) + 1))).2.1).ref)]) ?_
     refine hp_ 14 [1, 1, 1, 1] (.bool ((onext S (ofI ((X.length : Int) + 1))).2.2.1)) ?_
     refine hp_ 15 [1, 1, 1, 1] (.int .i64 ((onext S (ofI ((X.length : Int) + 1))).2.2.2)) ?_
     refine h_stepS2 16 17 ?_ ?_
     ·
      refine s_alloc (.agg #[.int .i64 0, .int .i64 0, .int .i64 0, .string ByteArray.empty, .int .i64 0]) #[.int .i64 0, .int .i64 0, .int .i64 0, .string ByteArray.empty, .int .i64 0] (fun g12 => ?_)
      refine s_nil (xs_held [2, 2, 2, 2] ?_)
      refine h_stepS 17 ?_
      refine s_alloc (.agg #[.int .i64 0, .int .i64 0, .int .i64 0, .string ByteArray.empty, .int .i64 0]) #[.int .i64 0, .int .i64 0, .int .i64 0, .string ByteArray.empty, .int .i64 0] (fun g13 => ?_)
      refine s_nil (xs_held [3, 3, 3, 3] ?_)
      refine h_stepS 18 ?_
      refine s_store 1 #[.int .i64 (((onext S (ofI ((X.length : Int) + 1))).1).kind), .int .i64 (((onext S (ofI ((X.length : Int) + 1))).1).p), .int .i64 (((onext S (ofI ((X.length : Int) + 1))).1).q), .string (((onext S (ofI ((X.length : Int) + 1))).1).str), .int .i64 (((onext S (ofI ((X.length : Int) + 1))).1).ref)] ?_
      refine s_nil (xs_held [3, 3, 3, 3] ?_)
      refine h_stepS 19 ?_
      refine s_store 0 #[.int .i64 (((onext S (ofI ((X.length : Int) + 1))).2.1).kind), .int .i64 (((onext S (ofI ((X.length : Int) + 1))).2.1).p), .int .i64 (((onext S (ofI ((X.length : Int) + 1))).2.1).q), .string (((onext S (ofI ((X.length : Int) + 1))).2.1).str), .int .i64 (((onext S (ofI ((X.length : Int) + 1))).2.1).ref)] ?_
      refine s_nil (xs_held [3, 3, 3, 3] ?_)
      refine hp_ 20 [3, 3, 3, 3] (.bool ((onext S (ofI ((X.length : Int) + 1))).2.2.1)) ?_
      refine hp_ 21 [3, 3, 3, 3] (.int .i64 ((onext S (ofI ((X.length : Int) + 1))).2.2.2)) ?_
      refine h_doneS ?_
      exact xcut () (fun _ h => h.re [3, 3, 3, 2, 2] [5, 5])
     ·
      refine s_alloc (.agg #[.int .i64 0, .int .i64 0, .int .i64 0, .string ByteArray.empty, .int .i64 0]) #[.int .i64 0, .int .i64 0, .int .i64 0, .string ByteArray.empty, .int .i64 0] (fun g14 => ?_)
      refine s_nil (xs_held [2, 2, 2, 2] ?_)
      refine h_stepS 16 ?_
      refine s_alloc (.agg #[.int .i64 0, .int .i64 0, .int .i64 0, .string ByteArray.empty, .int .i64 0]) #[.int .i64 0, .int .i64 0, .int .i64 0, .string ByteArray.empty, .int .i64 0] (fun g15 => ?_)
      refine s_nil (xs_held [3, 3, 3, 3] ?_)
      refine h_stepS 18 ?_
      refine s_store 0 #[.int .i64 (((onext S (ofI ((X.length : Int) + 1))).1).kind), .int .i64 (((onext S (ofI ((X.length : Int) + 1))).1).p), .int .i64 (((onext S (ofI ((X.length : Int) + 1))).1).q), .string (((onext S (ofI ((X.length : Int) + 1))).1).str), .int .i64 (((onext S (ofI ((X.length : Int) + 1))).1).ref)] ?_
      refine s_nil (xs_held [3, 3, 3, 3] ?_)
      refine h_stepS 19 ?_
      refine s_store 1 #[.int .i64 (((onext S (ofI ((X.length : Int) + 1))).2.1).kind), .int .i64 (((onext S (ofI ((X.length : Int) + 1))).2.1).p), .int .i64 (((onext S (ofI ((X.length : Int) + 1))).2.1).q), .string (((onext S (ofI ((X.length : Int) + 1))).2.1).str), .int .i64 (((onext S (ofI ((X.length : Int) + 1))).2.1).ref)] ?_
      refine s_nil (xs_held [3, 3, 3, 3] ?_)
      refine hp_ 20 [3, 3, 3, 3] (.bool ((onext S (ofI ((X.length : Int) + 1))).2.2.1)) ?_
      refine hp_ 21 [3, 3, 3, 3] (.int .i64 ((onext S (ofI ((X.length : Int) + 1))).2.2.2)) ?_
      refine h_doneS ?_
      exact xcut () (fun _ h => h.re [3, 3, 3, 2, 2] [5, 5])
    ·
     refine s_alloc (.agg #[.int .i64 0, .int .i64 0, .int .i64 0, .string ByteArray.empty, .int .i64 0]) #[.int .i64 0, .int .i64 0, .int .i64 0, .string ByteArray.empty, .int .i64 0] (fun g16 => ?_)
     refine s_nil (xs_held [1, 1, 1, 2] ?_)
     refine h_stepS2 10 17 ?_ ?_
     ·
      refine s_call [4] (omnext_s (S := S) (by (try simp only [lnm]); omega) (ofI ((X.length : Int) + 1))) ?_
      rintro _ _ ⟨rfl, rfl⟩
      refine s_nil (xs_held [2, 2, 2, 2] ?_)
      refine hp_ 11 [2, 2, 2, 2] (.tuple #[.agg #[.int .i64 (((onext S (ofI ((X.length : Int) + 1))).1).kind), .int .i64 (((onext S (ofI ((X.length : Int) + 1))).1).p), .int .i64 (((onext S (ofI ((X.length : Int) + 1))).1).q), .string (((onext S (ofI ((X.length : Int) + 1))).1).str), .int .i64 (((onext S (ofI ((X.length : Int) + 1))).1).ref)], .agg #[.int .i64 (((onext S (ofI ((X.length : Int) + 1))).2.1).kind), .int .i64 (((onext S (ofI ((X.length : Int) + 1))).2.1).p), .int .i64 (((onext S (ofI ((X.length : Int) + 1))).2.1).q), .string (((onext S (ofI ((X.length : Int) + 1))).2.1).str), .int .i64 (((onext S (ofI ((X.length : Int) + 1))).2.1).ref)], .bool ((onext S (ofI ((X.length : Int) + 1))).2.2.1), .int .i64 ((onext S (ofI ((X.length : Int) + 1))).2.2.2)]) ?_
      refine hp_ 12 [2, 2, 2, 2] (.agg #[.int .i64 (((onext S (ofI ((X.length : Int) + 1))).1).kind), .int .i64 (((onext S (ofI ((X.length : Int) + 1))).1).p), .int .i64 (((onext S (ofI ((X.length : Int) + 1))).1).q), .string (((onext S (ofI ((X.length : Int) + 1))).1).str), .int .i64 (((onext S (ofI ((X.length : Int) + 1))).1).ref)]) ?_
      refine hp_ 13 [2, 2, 2, 2] (.agg #[.int .i64 (((onext S (ofI ((X.length : Int) + 1))).2.1).kind), .int .i64 (((onext S (ofI ((X.length : Int) + 1))).2.1).p), .int .i64 (((onext S (ofI ((X.length : Int) + 1))).2.1).q), .string (((onext S (ofI ((X.length : Int) + 1))).2.1).str), .int .i64 (((onext S (ofI ((X.length : Int) + 1))).2.1).ref)]) ?_
      refine hp_ 14 [2, 2, 2, 2] (.bool ((onext S (ofI ((X.length : Int) + 1))).2.2.1)) ?_
      refine hp_ 15 [2, 2, 2, 2] (.int .i64 ((onext S (ofI ((X.length : Int) + 1))).2.2.2)) ?_
      refine h_stepS 17 ?_
      refine s_alloc (.agg #[.int .i64 0, .int .i64 0, .int .i64 0, .string ByteArray.empty, .int .i64 0]) #[.int .i64 0, .int .i64 0, .int .i64 0, .string ByteArray.empty, .int .i64 0] (fun g17 => ?_)
      refine s_nil (xs_held [3, 3, 3, 3] ?_)
      refine h_stepS 18 ?_
      refine s_store 2 #[.int .i64 (((onext S (ofI ((X.length : Int) + 1))).1).kind), .int .i64 (((onext S (ofI ((X.length : Int) + 1))).1).p), .int .i64 (((onext S (ofI ((X.length : Int) + 1))).1).q), .string (((onext S (ofI ((X.length : Int) + 1))).1).str), .int .i64 (((onext S (ofI ((X.length : Int) + 1))).1).ref)] ?_
      refine s_nil (xs_held [3, 3, 3, 3] ?_)
      refine h_stepS 19 ?_
      refine s_store 0 #[.int .i64 (((onext S (ofI ((X.length : Int) + 1))).2.1).kind), .int .i64 (((onext S (ofI ((X.length : Int) + 1))).2.1).p), .int .i64 (((onext S (ofI ((X.length : Int) + 1))).2.1).q), .string (((onext S (ofI ((X.length : Int) + 1))).2.1).str), .int .i64 (((onext S (ofI ((X.length : Int) + 1))).2.1).ref)] ?_
      refine s_nil (xs_held [3, 3, 3, 3] ?_)
      refine hp_ 20 [3, 3, 3, 3] (.bool ((onext S (ofI ((X.length : Int) + 1))).2.2.1)) ?_
      refine hp_ 21 [3, 3, 3, 3] (.int .i64 ((onext S (ofI ((X.length : Int) + 1))).2.2.2)) ?_
      refine h_doneS ?_
      exact xcut () (fun _ h => h.re [3, 3, 3, 1, 2] [5, 5])
     ·
      refine s_alloc (.agg #[.int .i64 0, .int .i64 0, .int .i64 0, .string ByteArray.empty, .int .i64 0]) #[.int .i64 0, .int .i64 0, .int .i64 0, .string ByteArray.empty, .int .i64 0] (fun g18 => ?_)
      refine s_nil (xs_held [2, 2, 2, 3] ?_)
      refine h_stepS 10 ?_
      refine s_call [5] (omnext_s (S := S) (by (try simp only [lnm]); omega) (ofI ((X.length : Int) + 1))) ?_
      rintro _ _ ⟨rfl, rfl⟩
      refine s_nil (xs_held [3, 3, 3, 3] ?_)
      refine hp_ 11 [3, 3, 3, 3] (.tuple #[.agg #[.int .i64 (((onext S (ofI ((X.length : Int) + 1))).1).kind), .int .i64 (((onext S (ofI ((X.length : Int) + 1))).1).p), .int .i64 (((onext S (ofI ((X.length : Int) + 1))).1).q), .string (((onext S (ofI ((X.length : Int) + 1))).1).str), .int .i64 (((onext S (ofI ((X.length : Int) + 1))).1).ref)], .agg #[.int .i64 (((onext S (ofI ((X.length : Int) + 1))).2.1).kind), .int .i64 (((onext S (ofI ((X.length : Int) + 1))).2.1).p), .int .i64 (((onext S (ofI ((X.length : Int) + 1))).2.1).q), .string (((onext S (ofI ((X.length : Int) + 1))).2.1).str), .int .i64 (((onext S (ofI ((X.length : Int) + 1))).2.1).ref)], .bool ((onext S (ofI ((X.length : Int) + 1))).2.2.1), .int .i64 ((onext S (ofI ((X.length : Int) + 1))).2.2.2)]) ?_
      refine hp_ 12 [3, 3, 3, 3] (.agg #[.int .i64 (((onext S (ofI ((X.length : Int) + 1))).1).kind), .int .i64 (((onext S (ofI ((X.length : Int) + 1))).1).p), .int .i64 (((onext S (ofI ((X.length : Int) + 1))).1).q), .string (((onext S (ofI ((X.length : Int) + 1))).1).str), .int .i64 (((onext S (ofI ((X.length : Int) + 1))).1).ref)]) ?_
      refine hp_ 13 [3, 3, 3, 3] (.agg #[.int .i64 (((onext S (ofI ((X.length : Int) + 1))).2.1).kind), .int .i64 (((onext S (ofI ((X.length : Int) + 1))).2.1).p), .int .i64 (((onext S (ofI ((X.length : Int) + 1))).2.1).q), .string (((onext S (ofI ((X.length : Int) + 1))).2.1).str), .int .i64 (((onext S (ofI ((X.length : Int) + 1))).2.1).ref)]) ?_
      refine hp_ 14 [3, 3, 3, 3] (.bool ((onext S (ofI ((X.length : Int) + 1))).2.2.1)) ?_
      refine hp_ 15 [3, 3, 3, 3] (.int .i64 ((onext S (ofI ((X.length : Int) + 1))).2.2.2)) ?_
      refine h_stepS 18 ?_
      refine s_store 2 #[.int .i64 (((onext S (ofI ((X.length : Int) + 1))).1).kind), .int .i64 (((onext S (ofI ((X.length : Int) + 1))).1).p), .int .i64 (((onext S (ofI ((X.length : Int) + 1))).1).q), .string (((onext S (ofI ((X.length : Int) + 1))).1).str), .int .i64 (((onext S (ofI ((X.length : Int) + 1))).1).ref)] ?_
      refine s_nil (xs_held [3, 3, 3, 3] ?_)
      refine h_stepS 19 ?_
      refine s_store 1 #[.int .i64 (((onext S (ofI ((X.length : Int) + 1))).2.1).kind), .int .i64 (((onext S (ofI ((X.length : Int) + 1))).2.1).p), .int .i64 (((onext S (ofI ((X.length : Int) + 1))).2.1).q), .string (((onext S (ofI ((X.length : Int) + 1))).2.1).str), .int .i64 (((onext S (ofI ((X.length : Int) + 1))).2.1).ref)] ?_
      refine s_nil (xs_held [3, 3, 3, 3] ?_)
      refine hp_ 20 [3, 3, 3, 3] (.bool ((onext S (ofI ((X.length : Int) + 1))).2.2.1)) ?_
      refine hp_ 21 [3, 3, 3, 3] (.int .i64 ((onext S (ofI ((X.length : Int) + 1))).2.2.2)) ?_
      refine h_doneS ?_
      exact xcut () (fun _ h => h.re [3, 3, 3, 0, 2] [5, 5])
    ·
     refine s_alloc (.agg #[.int .i64 0, .int .i64 0, .int .i64 0, .string ByteArray.empty, .int .i64 0]) #[.int .i64 0, .int .i64 0, .int .i64 0, .string ByteArray.empty, .int .i64 0] (fun g19 => ?_)
     refine s_nil (xs_held [1, 1, 1, 2] ?_)
     refine h_stepS2 10 16 ?_ ?_
     ·
      refine s_call [4] (omnext_s (S := S) (by (try simp only [lnm]); omega) (ofI ((X.length : Int) + 1))) ?_
      rintro _ _ ⟨rfl, rfl⟩
      refine s_nil (xs_held [2, 2, 2, 2] ?_)
      refine hp_ 11 [2, 2, 2, 2] (.tuple #[.agg #[.int .i64 (((onext S (ofI ((X.length : Int) + 1))).1).kind), .int .i64 (((onext S (ofI ((X.length : Int) + 1))).1).p), .int .i64 (((onext S (ofI ((X.length : Int) + 1))).1).q), .string (((onext S (ofI ((X.length : Int) + 1))).1).str), .int .i64 (((onext S (ofI ((X.length : Int) + 1))).1).ref)], .agg #[.int .i64 (((onext S (ofI ((X.length : Int) + 1))).2.1).kind), .int .i64 (((onext S (ofI ((X.length : Int) + 1))).2.1).p), .int .i64 (((onext S (ofI ((X.length : Int) + 1))).2.1).q), .string (((onext S (ofI ((X.length : Int) + 1))).2.1).str), .int .i64 (((onext S (ofI ((X.length : Int) + 1))).2.1).ref)], .bool ((onext S (ofI ((X.length : Int) + 1))).2.2.1), .int .i64 ((onext S (ofI ((X.length : Int) + 1))).2.2.2)]) ?_
      refine hp_ 12 [2, 2, 2, 2] (.agg #[.int .i64 (((onext S (ofI ((X.length : Int) + 1))).1).kind), .int .i64 (((onext S (ofI ((X.length : Int) + 1))).1).p), .int .i64 (((onext S (ofI ((X.length : Int) + 1))).1).q), .string (((onext S (ofI ((X.length : Int) + 1))).1).str), .int .i64 (((onext S (ofI ((X.length : Int) + 1))).1).ref)]) ?_
      refine hp_ 13 [2, 2, 2, 2] (.agg #[.int .i64 (((onext S (ofI ((X.length : Int) + 1))).2.1).kind), .int .i64 (((onext S (ofI ((X.length : Int) + 1))).2.1).p), .int .i64 (((onext S (ofI ((X.length : Int) + 1))).2.1).q), .string (((onext S (ofI ((X.length : Int) + 1))).2.1).str), .int .i64 (((onext S (ofI ((X.length : Int) + 1))).2.1).ref)]) ?_
      refine hp_ 14 [2, 2, 2, 2] (.bool ((onext S (ofI ((X.length : Int) + 1))).2.2.1)) ?_
      refine hp_ 15 [2, 2, 2, 2] (.int .i64 ((onext S (ofI ((X.length : Int) + 1))).2.2.2)) ?_
      refine h_stepS 16 ?_
      refine s_alloc (.agg #[.int .i64 0, .int .i64 0, .int .i64 0, .string ByteArray.empty, .int .i64 0]) #[.int .i64 0, .int .i64 0, .int .i64 0, .string ByteArray.empty, .int .i64 0] (fun g20 => ?_)
      refine s_nil (xs_held [3, 3, 3, 3] ?_)
      refine h_stepS 18 ?_
      refine s_store 0 #[.int .i64 (((onext S (ofI ((X.length : Int) + 1))).1).kind), .int .i64 (((onext S (ofI ((X.length : Int) + 1))).1).p), .int .i64 (((onext S (ofI ((X.length : Int) + 1))).1).q), .string (((onext S (ofI ((X.length : Int) + 1))).1).str), .int .i64 (((onext S (ofI ((X.length : Int) + 1))).1).ref)] ?_
      refine s_nil (xs_held [3, 3, 3, 3] ?_)
      refine h_stepS 19 ?_
      refine s_store 2 #[.int .i64 (((onext S (ofI ((X.length : Int) + 1))).2.1).kind), .int .i64 (((onext S (ofI ((X.length : Int) + 1))).2.1).p), .int .i64 (((onext S (ofI ((X.length : Int) + 1))).2.1).q), .string (((onext S (ofI ((X.length : Int) + 1))).2.1).str), .int .i64 (((onext S (ofI ((X.length : Int) + 1))).2.1).ref)] ?_
      refine s_nil (xs_held [3, 3, 3, 3] ?_)
      refine hp_ 20 [3, 3, 3, 3] (.bool ((onext S (ofI ((X.length : Int) + 1))).2.2.1)) ?_
      refine hp_ 21 [3, 3, 3, 3] (.int .i64 ((onext S (ofI ((X.length : Int) + 1))).2.2.2)) ?_
      refine h_doneS ?_
      exact xcut () (fun _ h => h.re [3, 3, 3, 1, 2] [5, 5])
     ·
      refine s_alloc (.agg #[.int .i64 0, .int .i64 0, .int .i64 0, .string ByteArray.empty, .int .i64 0]) #[.int .i64 0, .int .i64 0, .int .i64 0, .string ByteArray.empty, .int .i64 0] (fun g21 => ?_)
      refine s_nil (xs_held [2, 2, 2, 3] ?_)
      refine h_stepS 10 ?_
      refine s_call [5] (omnext_s (S := S) (by (try simp only [lnm]); omega) (ofI ((X.length : Int) + 1))) ?_
      rintro _ _ ⟨rfl, rfl⟩
      refine s_nil (xs_held [3, 3, 3, 3] ?_)
      refine hp_ 11 [3, 3, 3, 3] (.tuple #[.agg #[.int .i64 (((onext S (ofI ((X.length : Int) + 1))).1).kind), .int .i64 (((onext S (ofI ((X.length : Int) + 1))).1).p), .int .i64 (((onext S (ofI ((X.length : Int) + 1))).1).q), .string (((onext S (ofI ((X.length : Int) + 1))).1).str), .int .i64 (((onext S (ofI ((X.length : Int) + 1))).1).ref)], .agg #[.int .i64 (((onext S (ofI ((X.length : Int) + 1))).2.1).kind), .int .i64 (((onext S (ofI ((X.length : Int) + 1))).2.1).p), .int .i64 (((onext S (ofI ((X.length : Int) + 1))).2.1).q), .string (((onext S (ofI ((X.length : Int) + 1))).2.1).str), .int .i64 (((onext S (ofI ((X.length : Int) + 1))).2.1).ref)], .bool ((onext S (ofI ((X.length : Int) + 1))).2.2.1), .int .i64 ((onext S (ofI ((X.length : Int) + 1))).2.2.2)]) ?_
      refine hp_ 12 [3, 3, 3, 3] (.agg #[.int .i64 (((onext S (ofI ((X.length : Int) + 1))).1).kind), .int .i64 (((onext S (ofI ((X.length : Int) + 1))).1).p), .int .i64 (((onext S (ofI ((X.length : Int) + 1))).1).q), .string (((onext S (ofI ((X.length : Int) + 1))).1).str), .int .i64 (((onext S (ofI ((X.length : Int) + 1))).1).ref)]) ?_
      refine hp_ 13 [3, 3, 3, 3] (.agg #[.int .i64 (((onext S (ofI ((X.length : Int) + 1))).2.1).kind), .int .i64 (((onext S (ofI ((X.length : Int) + 1))).2.1).p), .int .i64 (((onext S (ofI ((X.length : Int) + 1))).2.1).q), .string (((onext S (ofI ((X.length : Int) + 1))).2.1).str), .int .i64 (((onext S (ofI ((X.length : Int) + 1))).2.1).ref)]) ?_
      refine hp_ 14 [3, 3, 3, 3] (.bool ((onext S (ofI ((X.length : Int) + 1))).2.2.1)) ?_
      refine hp_ 15 [3, 3, 3, 3] (.int .i64 ((onext S (ofI ((X.length : Int) + 1))).2.2.2)) ?_
      refine h_stepS 18 ?_
      refine s_store 1 #[.int .i64 (((onext S (ofI ((X.length : Int) + 1))).1).kind), .int .i64 (((onext S (ofI ((X.length : Int) + 1))).1).p), .int .i64 (((onext S (ofI ((X.length : Int) + 1))).1).q), .string (((onext S (ofI ((X.length : Int) + 1))).1).str), .int .i64 (((onext S (ofI ((X.length : Int) + 1))).1).ref)] ?_
      refine s_nil (xs_held [3, 3, 3, 3] ?_)
      refine h_stepS 19 ?_
      refine s_store 2 #[.int .i64 (((onext S (ofI ((X.length : Int) + 1))).2.1).kind), .int .i64 (((onext S (ofI ((X.length : Int) + 1))).2.1).p), .int .i64 (((onext S (ofI ((X.length : Int) + 1))).2.1).q), .string (((onext S (ofI ((X.length : Int) + 1))).2.1).str), .int .i64 (((onext S (ofI ((X.length : Int) + 1))).2.1).ref)] ?_
      refine s_nil (xs_held [3, 3, 3, 3] ?_)
      refine hp_ 20 [3, 3, 3, 3] (.bool ((onext S (ofI ((X.length : Int) + 1))).2.2.1)) ?_
      refine hp_ 21 [3, 3, 3, 3] (.int .i64 ((onext S (ofI ((X.length : Int) + 1))).2.2.2)) ?_
      refine h_doneS ?_
      exact xcut () (fun _ h => h.re [3, 3, 3, 0, 2] [5, 5])
   ·
    refine s_alloc (.agg #[.int .i64 0, .int .i64 0, .int .i64 0, .string ByteArray.empty, .int .i64 0]) #[.int .i64 0, .int .i64 0, .int .i64 0, .string ByteArray.empty, .int .i64 0] (fun g22 => ?_)
    refine s_nil (xs_held [1, 1, 1, 2] ?_)
    refine h_stepS2 9 17 ?_ ?_
    ·
     refine s_vcall (fun _ h => ofint_s (L2.length : Int)) ?_
     rintro u24 e23
     obtain rfl : u24 = (ofI ((X.length : Int) + 1)).v := by rw [e23, show (L2.length : Int) = (X.length : Int) + 1 by omega]
     refine s_nil (xs_held [1, 1, 1, 2] ?_)
     refine h_stepS2 10 17 ?_ ?_
     ·
      refine s_call [4] (omnext_s (S := S) (by (try simp only [lnm]); omega) (ofI ((X.length : Int) + 1))) ?_
      rintro _ _ ⟨rfl, rfl⟩
      refine s_nil (xs_held [2, 2, 2, 2] ?_)
      refine hp_ 11 [2, 2, 2, 2] (.tuple #[.agg #[.int .i64 (((onext S (ofI ((X.length : Int) + 1))).1).kind), .int .i64 (((onext S (ofI ((X.length : Int) + 1))).1).p), .int .i64 (((onext S (ofI ((X.length : Int) + 1))).1).q), .string (((onext S (ofI ((X.length : Int) + 1))).1).str), .int .i64 (((onext S (ofI ((X.length : Int) + 1))).1).ref)], .agg #[.int .i64 (((onext S (ofI ((X.length : Int) + 1))).2.1).kind), .int .i64 (((onext S (ofI ((X.length : Int) + 1))).2.1).p), .int .i64 (((onext S (ofI ((X.length : Int) + 1))).2.1).q), .string (((onext S (ofI ((X.length : Int) + 1))).2.1).str), .int .i64 (((onext S (ofI ((X.length : Int) + 1))).2.1).ref)], .bool ((onext S (ofI ((X.length : Int) + 1))).2.2.1), .int .i64 ((onext S (ofI ((X.length : Int) + 1))).2.2.2)]) ?_
      refine hp_ 12 [2, 2, 2, 2] (.agg #[.int .i64 (((onext S (ofI ((X.length : Int) + 1))).1).kind), .int .i64 (((onext S (ofI ((X.length : Int) + 1))).1).p), .int .i64 (((onext S (ofI ((X.length : Int) + 1))).1).q), .string (((onext S (ofI ((X.length : Int) + 1))).1).str), .int .i64 (((onext S (ofI ((X.length : Int) + 1))).1).ref)]) ?_
      refine hp_ 13 [2, 2, 2, 2] (.agg #[.int .i64 (((onext S (ofI ((X.length : Int) + 1))).2.1).kind), .int .i64 (((onext S (ofI ((X.length : Int) + 1))).2.1).p), .int .i64 (((onext S (ofI ((X.length : Int) + 1))).2.1).q), .string (((onext S (ofI ((X.length : Int) + 1))).2.1).str), .int .i64 (((onext S (ofI ((X.length : Int) + 1))).2.1).ref)]) ?_
      refine hp_ 14 [2, 2, 2, 2] (.bool ((onext S (ofI ((X.length : Int) + 1))).2.2.1)) ?_
      refine hp_ 15 [2, 2, 2, 2] (.int .i64 ((onext S (ofI ((X.length : Int) + 1))).2.2.2)) ?_
      refine h_stepS 17 ?_
      refine s_alloc (.agg #[.int .i64 0, .int .i64 0, .int .i64 0, .string ByteArray.empty, .int .i64 0]) #[.int .i64 0, .int .i64 0, .int .i64 0, .string ByteArray.empty, .int .i64 0] (fun g25 => ?_)
      refine s_nil (xs_held [3, 3, 3, 3] ?_)
      refine h_stepS 18 ?_
      refine s_store 2 #[.int .i64 (((onext S (ofI ((X.length : Int) + 1))).1).kind), .int .i64 (((onext S (ofI ((X.length : Int) + 1))).1).p), .int .i64 (((onext S (ofI ((X.length : Int) + 1))).1).q), .string (((onext S (ofI ((X.length : Int) + 1))).1).str), .int .i64 (((onext S (ofI ((X.length : Int) + 1))).1).ref)] ?_
      refine s_nil (xs_held [3, 3, 3, 3] ?_)
      refine h_stepS 19 ?_
      refine s_store 0 #[.int .i64 (((onext S (ofI ((X.length : Int) + 1))).2.1).kind), .int .i64 (((onext S (ofI ((X.length : Int) + 1))).2.1).p), .int .i64 (((onext S (ofI ((X.length : Int) + 1))).2.1).q), .string (((onext S (ofI ((X.length : Int) + 1))).2.1).str), .int .i64 (((onext S (ofI ((X.length : Int) + 1))).2.1).ref)] ?_
      refine s_nil (xs_held [3, 3, 3, 3] ?_)
      refine hp_ 20 [3, 3, 3, 3] (.bool ((onext S (ofI ((X.length : Int) + 1))).2.2.1)) ?_
      refine hp_ 21 [3, 3, 3, 3] (.int .i64 ((onext S (ofI ((X.length : Int) + 1))).2.2.2)) ?_
      refine h_doneS ?_
      exact xcut () (fun _ h => h.re [3, 3, 3, 1, 2] [5, 5])
     ·
      refine s_alloc (.agg #[.int .i64 0, .int .i64 0, .int .i64 0, .string ByteArray.empty, .int .i64 0]) #[.int .i64 0, .int .i64 0, .int .i64 0, .string ByteArray.empty, .int .i64 0] (fun g26 => ?_)
      refine s_nil (xs_held [2, 2, 2, 3] ?_)
      refine h_stepS 10 ?_
      refine s_call [5] (omnext_s (S := S) (by (try simp only [lnm]); omega) (ofI ((X.length : Int) + 1))) ?_
      rintro _ _ ⟨rfl, rfl⟩
      refine s_nil (xs_held [3, 3, 3, 3] ?_)
      refine hp_ 11 [3, 3, 3, 3] (.tuple #[.agg #[.int .i64 (((onext S (ofI ((X.length : Int) + 1))).1).kind), .int .i64 (((onext S (ofI ((X.length : Int) + 1))).1).p), .int .i64 (((onext S (ofI ((X.length : Int) + 1))).1).q), .string (((onext S (ofI ((X.length : Int) + 1))).1).str), .int .i64 (((onext S (ofI ((X.length : Int) + 1))).1).ref)], .agg #[.int .i64 (((onext S (ofI ((X.length : Int) + 1))).2.1).kind), .int .i64 (((onext S (ofI ((X.length : Int) + 1))).2.1).p), .int .i64 (((onext S (ofI ((X.length : Int) + 1))).2.1).q), .string (((onext S (ofI ((X.length : Int) + 1))).2.1).str), .int .i64 (((onext S (ofI ((X.length : Int) + 1))).2.1).ref)], .bool ((onext S (ofI ((X.length : Int) + 1))).2.2.1), .int .i64 ((onext S (ofI ((X.length : Int) + 1))).2.2.2)]) ?_
      refine hp_ 12 [3, 3, 3, 3] (.agg #[.int .i64 (((onext S (ofI ((X.length : Int) + 1))).1).kind), .int .i64 (((onext S (ofI ((X.length : Int) + 1))).1).p), .int .i64 (((onext S (ofI ((X.length : Int) + 1))).1).q), .string (((onext S (ofI ((X.length : Int) + 1))).1).str), .int .i64 (((onext S (ofI ((X.length : Int) + 1))).1).ref)]) ?_
      refine hp_ 13 [3, 3, 3, 3] (.agg #[.int .i64 (((onext S (ofI ((X.length : Int) + 1))).2.1).kind), .int .i64 (((onext S (ofI ((X.length : Int) + 1))).2.1).p), .int .i64 (((onext S (ofI ((X.length : Int) + 1))).2.1).q), .string (((onext S (ofI ((X.length : Int) + 1))).2.1).str), .int .i64 (((onext S (ofI ((X.length : Int) + 1))).2.1).ref)]) ?_
      refine hp_ 14 [3, 3, 3, 3] (.bool ((onext S (ofI ((X.length : Int) + 1))).2.2.1)) ?_
      refine hp_ 15 [3, 3, 3, 3] (.int .i64 ((onext S (ofI ((X.length : Int) + 1))).2.2.2)) ?_
      refine h_stepS 18 ?_
      refine s_store 2 #[.int .i64 (((onext S (ofI ((X.length : Int) + 1))).1).kind), .int .i64 (((onext S (ofI ((X.length : Int) + 1))).1).p), .int .i64 (((onext S (ofI ((X.length : Int) + 1))).1).q), .string (((onext S (ofI ((X.length : Int) + 1))).1).str), .int .i64 (((onext S (ofI ((X.length : Int) + 1))).1).ref)] ?_
      refine s_nil (xs_held [3, 3, 3, 3] ?_)
      refine h_stepS 19 ?_
      refine s_store 1 #[.int .i64 (((onext S (ofI ((X.length : Int) + 1))).2.1).kind), .int .i64 (((onext S (ofI ((X.length : Int) + 1))).2.1).p), .int .i64 (((onext S (ofI ((X.length : Int) + 1))).2.1).q), .string (((onext S (ofI ((X.length : Int) + 1))).2.1).str), .int .i64 (((onext S (ofI ((X.length : Int) + 1))).2.1).ref)] ?_
      refine s_nil (xs_held [3, 3, 3, 3] ?_)
      refine hp_ 20 [3, 3, 3, 3] (.bool ((onext S (ofI ((X.length : Int) + 1))).2.2.1)) ?_
      refine hp_ 21 [3, 3, 3, 3] (.int .i64 ((onext S (ofI ((X.length : Int) + 1))).2.2.2)) ?_
      refine h_doneS ?_
      exact xcut () (fun _ h => h.re [3, 3, 3, 0, 2] [5, 5])
    ·
     refine s_alloc (.agg #[.int .i64 0, .int .i64 0, .int .i64 0, .string ByteArray.empty, .int .i64 0]) #[.int .i64 0, .int .i64 0, .int .i64 0, .string ByteArray.empty, .int .i64 0] (fun g27 => ?_)
     refine s_nil (xs_held [2, 2, 2, 3] ?_)
     refine h_stepS 9 ?_
     refine s_vcall (fun _ h => ofint_s (L2.length : Int)) ?_
     rintro u29 e28
     obtain rfl : u29 = (ofI ((X.length : Int) + 1)).v := by rw [e28, show (L2.length : Int) = (X.length : Int) + 1 by omega]
     refine s_nil (xs_held [2, 2, 2, 3] ?_)
     refine h_stepS 10 ?_
     refine s_call [5] (omnext_s (S := S) (by (try simp only [lnm]); omega) (ofI ((X.length : Int) + 1))) ?_
     rintro _ _ ⟨rfl, rfl⟩
     refine s_nil (xs_held [3, 3, 3, 3] ?_)
     refine hp_ 11 [3, 3, 3, 3] (.tuple #[.agg #[.int .i64 (((onext S (ofI ((X.length : Int) + 1))).1).kind), .int .i64 (((onext S (ofI ((X.length : Int) + 1))).1).p), .int .i64 (((onext S (ofI ((X.length : Int) + 1))).1).q), .string (((onext S (ofI ((X.length : Int) + 1))).1).str), .int .i64 (((onext S (ofI ((X.length : Int) + 1))).1).ref)], .agg #[.int .i64 (((onext S (ofI ((X.length : Int) + 1))).2.1).kind), .int .i64 (((onext S (ofI ((X.length : Int) + 1))).2.1).p), .int .i64 (((onext S (ofI ((X.length : Int) + 1))).2.1).q), .string (((onext S (ofI ((X.length : Int) + 1))).2.1).str), .int .i64 (((onext S (ofI ((X.length : Int) + 1))).2.1).ref)], .bool ((onext S (ofI ((X.length : Int) + 1))).2.2.1), .int .i64 ((onext S (ofI ((X.length : Int) + 1))).2.2.2)]) ?_
     refine hp_ 12 [3, 3, 3, 3] (.agg #[.int .i64 (((onext S (ofI ((X.length : Int) + 1))).1).kind), .int .i64 (((onext S (ofI ((X.length : Int) + 1))).1).p), .int .i64 (((onext S (ofI ((X.length : Int) + 1))).1).q), .string (((onext S (ofI ((X.length : Int) + 1))).1).str), .int .i64 (((onext S (ofI ((X.length : Int) + 1))).1).ref)]) ?_
     refine hp_ 13 [3, 3, 3, 3] (.agg #[.int .i64 (((onext S (ofI ((X.length : Int) + 1))).2.1).kind), .int .i64 (((onext S (ofI ((X.length : Int) + 1))).2.1).p), .int .i64 (((onext S (ofI ((X.length : Int) + 1))).2.1).q), .string (((onext S (ofI ((X.length : Int) + 1))).2.1).str), .int .i64 (((onext S (ofI ((X.length : Int) + 1))).2.1).ref)]) ?_
     refine hp_ 14 [3, 3, 3, 3] (.bool ((onext S (ofI ((X.length : Int) + 1))).2.2.1)) ?_
     refine hp_ 15 [3, 3, 3, 3] (.int .i64 ((onext S (ofI ((X.length : Int) + 1))).2.2.2)) ?_
     refine h_stepS 18 ?_
     refine s_store 2 #[.int .i64 (((onext S (ofI ((X.length : Int) + 1))).1).kind), .int .i64 (((onext S (ofI ((X.length : Int) + 1))).1).p), .int .i64 (((onext S (ofI ((X.length : Int) + 1))).1).q), .string (((onext S (ofI ((X.length : Int) + 1))).1).str), .int .i64 (((onext S (ofI ((X.length : Int) + 1))).1).ref)] ?_
     refine s_nil (xs_held [3, 3, 3, 3] ?_)
     refine h_stepS 19 ?_
     refine s_store 1 #[.int .i64 (((onext S (ofI ((X.length : Int) + 1))).2.1).kind), .int .i64 (((onext S (ofI ((X.length : Int) + 1))).2.1).p), .int .i64 (((onext S (ofI ((X.length : Int) + 1))).2.1).q), .string (((onext S (ofI ((X.length : Int) + 1))).2.1).str), .int .i64 (((onext S (ofI ((X.length : Int) + 1))).2.1).ref)] ?_
     refine s_nil (xs_held [3, 3, 3, 3] ?_)
     refine hp_ 20 [3, 3, 3, 3] (.bool ((onext S (ofI ((X.length : Int) + 1))).2.2.1)) ?_
     refine hp_ 21 [3, 3, 3, 3] (.int .i64 ((onext S (ofI ((X.length : Int) + 1))).2.2.2)) ?_
     refine h_doneS ?_
     exact xcut () (fun _ h => h.re [3, 3, 3, 0, 2] [5, 5])
   ·
    refine s_alloc (.agg #[.int .i64 0, .int .i64 0, .int .i64 0, .string ByteArray.empty, .int .i64 0]) #[.int .i64 0, .int .i64 0, .int .i64 0, .string ByteArray.empty, .int .i64 0] (fun g30 => ?_)
    refine s_nil (xs_held [1, 1, 1, 2] ?_)
    refine h_stepS2 9 16 ?_ ?_
    ·
     refine s_vcall (fun _ h => ofint_s (L2.length : Int)) ?_
     rintro u32 e31
     obtain rfl : u32 = (ofI ((X.length : Int) + 1)).v := by rw [e31, show (L2.length : Int) = (X.length : Int) + 1 by omega]
     refine s_nil (xs_held [1, 1, 1, 2] ?_)
     refine h_stepS2 10 16 ?_ ?_
     ·
      refine s_call [4] (omnext_s (S := S) (by (try simp only [lnm]); omega) (ofI ((X.length : Int) + 1))) ?_
      rintro _ _ ⟨rfl, rfl⟩
      refine s_nil (xs_held [2, 2, 2, 2] ?_)
      refine hp_ 11 [2, 2, 2, 2] (.tuple #[.agg #[.int .i64 (((onext S (ofI ((X.length : Int) + 1))).1).kind), .int .i64 (((onext S (ofI ((X.length : Int) + 1))).1).p), .int .i64 (((onext S (ofI ((X.length : Int) + 1))).1).q), .string (((onext S (ofI ((X.length : Int) + 1))).1).str), .int .i64 (((onext S (ofI ((X.length : Int) + 1))).1).ref)], .agg #[.int .i64 (((onext S (ofI ((X.length : Int) + 1))).2.1).kind), .int .i64 (((onext S (ofI ((X.length : Int) + 1))).2.1).p), .int .i64 (((onext S (ofI ((X.length : Int) + 1))).2.1).q), .string (((onext S (ofI ((X.length : Int) + 1))).2.1).str), .int .i64 (((onext S (ofI ((X.length : Int) + 1))).2.1).ref)], .bool ((onext S (ofI ((X.length : Int) + 1))).2.2.1), .int .i64 ((onext S (ofI ((X.length : Int) + 1))).2.2.2)]) ?_
      refine hp_ 12 [2, 2, 2, 2] (.agg #[.int .i64 (((onext S (ofI ((X.length : Int) + 1))).1).kind), .int .i64 (((onext S (ofI ((X.length : Int) + 1))).1).p), .int .i64 (((onext S (ofI ((X.length : Int) + 1))).1).q), .string (((onext S (ofI ((X.length : Int) + 1))).1).str), .int .i64 (((onext S (ofI ((X.length : Int) + 1))).1).ref)]) ?_
      refine hp_ 13 [2, 2, 2, 2] (.agg #[.int .i64 (((onext S (ofI ((X.length : Int) + 1))).2.1).kind), .int .i64 (((onext S (ofI ((X.length : Int) + 1))).2.1).p), .int .i64 (((onext S (ofI ((X.length : Int) + 1))).2.1).q), .string (((onext S (ofI ((X.length : Int) + 1))).2.1).str), .int .i64 (((onext S (ofI ((X.length : Int) + 1))).2.1).ref)]) ?_
      refine hp_ 14 [2, 2, 2, 2] (.bool ((onext S (ofI ((X.length : Int) + 1))).2.2.1)) ?_
      refine hp_ 15 [2, 2, 2, 2] (.int .i64 ((onext S (ofI ((X.length : Int) + 1))).2.2.2)) ?_
      refine h_stepS 16 ?_
      refine s_alloc (.agg #[.int .i64 0, .int .i64 0, .int .i64 0, .string ByteArray.empty, .int .i64 0]) #[.int .i64 0, .int .i64 0, .int .i64 0, .string ByteArray.empty, .int .i64 0] (fun g33 => ?_)
      refine s_nil (xs_held [3, 3, 3, 3] ?_)
      refine h_stepS 18 ?_
      refine s_store 0 #[.int .i64 (((onext S (ofI ((X.length : Int) + 1))).1).kind), .int .i64 (((onext S (ofI ((X.length : Int) + 1))).1).p), .int .i64 (((onext S (ofI ((X.length : Int) + 1))).1).q), .string (((onext S (ofI ((X.length : Int) + 1))).1).str), .int .i64 (((onext S (ofI ((X.length : Int) + 1))).1).ref)] ?_
      refine s_nil (xs_held [3, 3, 3, 3] ?_)
      refine h_stepS 19 ?_
      refine s_store 2 #[.int .i64 (((onext S (ofI ((X.length : Int) + 1))).2.1).kind), .int .i64 (((onext S (ofI ((X.length : Int) + 1))).2.1).p), .int .i64 (((onext S (ofI ((X.length : Int) + 1))).2.1).q), .string (((onext S (ofI ((X.length : Int) + 1))).2.1).str), .int .i64 (((onext S (ofI ((X.length : Int) + 1))).2.1).ref)] ?_
      refine s_nil (xs_held [3, 3, 3, 3] ?_)
      refine hp_ 20 [3, 3, 3, 3] (.bool ((onext S (ofI ((X.length : Int) + 1))).2.2.1)) ?_
      refine hp_ 21 [3, 3, 3, 3] (.int .i64 ((onext S (ofI ((X.length : Int) + 1))).2.2.2)) ?_
      refine h_doneS ?_
      exact xcut () (fun _ h => h.re [3, 3, 3, 1, 2] [5, 5])
     ·
      refine s_alloc (.agg #[.int .i64 0, .int .i64 0, .int .i64 0, .string ByteArray.empty, .int .i64 0]) #[.int .i64 0, .int .i64 0, .int .i64 0, .string ByteArray.empty, .int .i64 0] (fun g34 => ?_)
      refine s_nil (xs_held [2, 2, 2, 3] ?_)
      refine h_stepS 10 ?_
      refine s_call [5] (omnext_s (S := S) (by (try simp only [lnm]); omega) (ofI ((X.length : Int) + 1))) ?_
      rintro _ _ ⟨rfl, rfl⟩
      refine s_nil (xs_held [3, 3, 3, 3] ?_)
      refine hp_ 11 [3, 3, 3, 3] (.tuple #[.agg #[.int .i64 (((onext S (ofI ((X.length : Int) + 1))).1).kind), .int .i64 (((onext S (ofI ((X.length : Int) + 1))).1).p), .int .i64 (((onext S (ofI ((X.length : Int) + 1))).1).q), .string (((onext S (ofI ((X.length : Int) + 1))).1).str), .int .i64 (((onext S (ofI ((X.length : Int) + 1))).1).ref)], .agg #[.int .i64 (((onext S (ofI ((X.length : Int) + 1))).2.1).kind), .int .i64 (((onext S (ofI ((X.length : Int) + 1))).2.1).p), .int .i64 (((onext S (ofI ((X.length : Int) + 1))).2.1).q), .string (((onext S (ofI ((X.length : Int) + 1))).2.1).str), .int .i64 (((onext S (ofI ((X.length : Int) + 1))).2.1).ref)], .bool ((onext S (ofI ((X.length : Int) + 1))).2.2.1), .int .i64 ((onext S (ofI ((X.length : Int) + 1))).2.2.2)]) ?_
      refine hp_ 12 [3, 3, 3, 3] (.agg #[.int .i64 (((onext S (ofI ((X.length : Int) + 1))).1).kind), .int .i64 (((onext S (ofI ((X.length : Int) + 1))).1).p), .int .i64 (((onext S (ofI ((X.length : Int) + 1))).1).q), .string (((onext S (ofI ((X.length : Int) + 1))).1).str), .int .i64 (((onext S (ofI ((X.length : Int) + 1))).1).ref)]) ?_
      refine hp_ 13 [3, 3, 3, 3] (.agg #[.int .i64 (((onext S (ofI ((X.length : Int) + 1))).2.1).kind), .int .i64 (((onext S (ofI ((X.length : Int) + 1))).2.1).p), .int .i64 (((onext S (ofI ((X.length : Int) + 1))).2.1).q), .string (((onext S (ofI ((X.length : Int) + 1))).2.1).str), .int .i64 (((onext S (ofI ((X.length : Int) + 1))).2.1).ref)]) ?_
      refine hp_ 14 [3, 3, 3, 3] (.bool ((onext S (ofI ((X.length : Int) + 1))).2.2.1)) ?_
      refine hp_ 15 [3, 3, 3, 3] (.int .i64 ((onext S (ofI ((X.length : Int) + 1))).2.2.2)) ?_
      refine h_stepS 18 ?_
      refine s_store 1 #[.int .i64 (((onext S (ofI ((X.length : Int) + 1))).1).kind), .int .i64 (((onext S (ofI ((X.length : Int) + 1))).1).p), .int .i64 (((onext S (ofI ((X.length : Int) + 1))).1).q), .string (((onext S (ofI ((X.length : Int) + 1))).1).str), .int .i64 (((onext S (ofI ((X.length : Int) + 1))).1).ref)] ?_
      refine s_nil (xs_held [3, 3, 3, 3] ?_)
      refine h_stepS 19 ?_
      refine s_store 2 #[.int .i64 (((onext S (ofI ((X.length : Int) + 1))).2.1).kind), .int .i64 (((onext S (ofI ((X.length : Int) + 1))).2.1).p), .int .i64 (((onext S (ofI ((X.length : Int) + 1))).2.1).q), .string (((onext S (ofI ((X.length : Int) + 1))).2.1).str), .int .i64 (((onext S (ofI ((X.length : Int) + 1))).2.1).ref)] ?_
      refine s_nil (xs_held [3, 3, 3, 3] ?_)
      refine hp_ 20 [3, 3, 3, 3] (.bool ((onext S (ofI ((X.length : Int) + 1))).2.2.1)) ?_
      refine hp_ 21 [3, 3, 3, 3] (.int .i64 ((onext S (ofI ((X.length : Int) + 1))).2.2.2)) ?_
      refine h_doneS ?_
      exact xcut () (fun _ h => h.re [3, 3, 3, 0, 2] [5, 5])
    ·
     refine s_alloc (.agg #[.int .i64 0, .int .i64 0, .int .i64 0, .string ByteArray.empty, .int .i64 0]) #[.int .i64 0, .int .i64 0, .int .i64 0, .string ByteArray.empty, .int .i64 0] (fun g35 => ?_)
     refine s_nil (xs_held [2, 2, 2, 3] ?_)
     refine h_stepS 9 ?_
     refine s_vcall (fun _ h => ofint_s (L2.length : Int)) ?_
     rintro u37 e36
     obtain rfl : u37 = (ofI ((X.length : Int) + 1)).v := by rw [e36, show (L2.length : Int) = (X.length : Int) + 1 by omega]
     refine s_nil (xs_held [2, 2, 2, 3] ?_)
     refine h_stepS 10 ?_
     refine s_call [5] (omnext_s (S := S) (by (try simp only [lnm]); omega) (ofI ((X.length : Int) + 1))) ?_
     rintro _ _ ⟨rfl, rfl⟩
     refine s_nil (xs_held [3, 3, 3, 3] ?_)
     refine hp_ 11 [3, 3, 3, 3] (.tuple #[.agg #[.int .i64 (((onext S (ofI ((X.length : Int) + 1))).1).kind), .int .i64 (((onext S (ofI ((X.length : Int) + 1))).1).p), .int .i64 (((onext S (ofI ((X.length : Int) + 1))).1).q), .string (((onext S (ofI ((X.length : Int) + 1))).1).str), .int .i64 (((onext S (ofI ((X.length : Int) + 1))).1).ref)], .agg #[.int .i64 (((onext S (ofI ((X.length : Int) + 1))).2.1).kind), .int .i64 (((onext S (ofI ((X.length : Int) + 1))).2.1).p), .int .i64 (((onext S (ofI ((X.length : Int) + 1))).2.1).q), .string (((onext S (ofI ((X.length : Int) + 1))).2.1).str), .int .i64 (((onext S (ofI ((X.length : Int) + 1))).2.1).ref)], .bool ((onext S (ofI ((X.length : Int) + 1))).2.2.1), .int .i64 ((onext S (ofI ((X.length : Int) + 1))).2.2.2)]) ?_
     refine hp_ 12 [3, 3, 3, 3] (.agg #[.int .i64 (((onext S (ofI ((X.length : Int) + 1))).1).kind), .int .i64 (((onext S (ofI ((X.length : Int) + 1))).1).p), .int .i64 (((onext S (ofI ((X.length : Int) + 1))).1).q), .string (((onext S (ofI ((X.length : Int) + 1))).1).str), .int .i64 (((onext S (ofI ((X.length : Int) + 1))).1).ref)]) ?_
     refine hp_ 13 [3, 3, 3, 3] (.agg #[.int .i64 (((onext S (ofI ((X.length : Int) + 1))).2.1).kind), .int .i64 (((onext S (ofI ((X.length : Int) + 1))).2.1).p), .int .i64 (((onext S (ofI ((X.length : Int) + 1))).2.1).q), .string (((onext S (ofI ((X.length : Int) + 1))).2.1).str), .int .i64 (((onext S (ofI ((X.length : Int) + 1))).2.1).ref)]) ?_
     refine hp_ 14 [3, 3, 3, 3] (.bool ((onext S (ofI ((X.length : Int) + 1))).2.2.1)) ?_
     refine hp_ 15 [3, 3, 3, 3] (.int .i64 ((onext S (ofI ((X.length : Int) + 1))).2.2.2)) ?_
     refine h_stepS 18 ?_
     refine s_store 1 #[.int .i64 (((onext S (ofI ((X.length : Int) + 1))).1).kind), .int .i64 (((onext S (ofI ((X.length : Int) + 1))).1).p), .int .i64 (((onext S (ofI ((X.length : Int) + 1))).1).q), .string (((onext S (ofI ((X.length : Int) + 1))).1).str), .int .i64 (((onext S (ofI ((X.length : Int) + 1))).1).ref)] ?_
     refine s_nil (xs_held [3, 3, 3, 3] ?_)
     refine h_stepS 19 ?_
     refine s_store 2 #[.int .i64 (((onext S (ofI ((X.length : Int) + 1))).2.1).kind), .int .i64 (((onext S (ofI ((X.length : Int) + 1))).2.1).p), .int .i64 (((onext S (ofI ((X.length : Int) + 1))).2.1).q), .string (((onext S (ofI ((X.length : Int) + 1))).2.1).str), .int .i64 (((onext S (ofI ((X.length : Int) + 1))).2.1).ref)] ?_
     refine s_nil (xs_held [3, 3, 3, 3] ?_)
     refine hp_ 20 [3, 3, 3, 3] (.bool ((onext S (ofI ((X.length : Int) + 1))).2.2.1)) ?_
     refine hp_ 21 [3, 3, 3, 3] (.int .i64 ((onext S (ofI ((X.length : Int) + 1))).2.2.2)) ?_
     refine h_doneS ?_
     exact xcut () (fun _ h => h.re [3, 3, 3, 0, 2] [5, 5])
  ·
   refine k_cut (ι := Unit) (fun _ => True) (fun _ => [(0, pB b 0), (3, pB g1 0), (4, .bool ((staleB S L.length X.length) || (decide ((onext S (ofI ((X.length : Int) + 1))).2.2.2 = 0))))]) (fun _ => blkA g7 #[.int .i64 x.kind, .int .i64 x.p, .int .i64 x.q, .string x.str, .int .i64 x.ref] 71 :: blkA b #[v8, pB r3 0] 185 :: own VlT v8 L2 :: omA r3 S :: blkA g1 #[.int .i64 x.kind, .int .i64 x.p, .int .i64 x.q, .string x.str, .int .i64 x.ref] 71 :: F) ?_ (fun _ _ => ?_)
   ·
    refine k_reg ?_
    refine sp (.bool (staleB S L.length X.length)) ?_
    refine sp (.bool (staleB S L.length X.length)) ?_
    refine s_fork 44 (staleB S L.length X.length) (fun c38 => ?_) (fun c38 => ?_)
    ·
     refine s_skip ?_
     refine s_skip ?_
     refine sp (.bool true) ?_
     refine sp (.bool true) ?_
     refine s_nil ?_
     exact xs_cut () trivial (sub_of rfl ⟨⟨rfl, rfl⟩, ⟨⟨rfl, rfl⟩, ⟨⟨rfl, show Value.bool true = Value.bool ((staleB S L.length X.length) || (decide ((onext S (ofI ((X.length : Int) + 1))).2.2.2 = 0))) by first | (simp only [c38, bls]; done) | simp [c38]⟩, trivial⟩⟩⟩) (fun _ h => h.re [0, 0, 0, 0, 0] [])
    ·
     refine sp (.int .i64 ((onext S (ofI ((X.length : Int) + 1))).2.2.2)) ?_
     refine s_lt t_cmp ?_
     refine sp (.bool (decide ((onext S (ofI ((X.length : Int) + 1))).2.2.2 = 0))) ?_
     refine sp (.bool (decide ((onext S (ofI ((X.length : Int) + 1))).2.2.2 = 0))) ?_
     refine s_nil ?_
     exact xs_cut () trivial (sub_of rfl ⟨⟨rfl, rfl⟩, ⟨⟨rfl, rfl⟩, ⟨⟨rfl, show Value.bool (decide ((onext S (ofI ((X.length : Int) + 1))).2.2.2 = 0)) = Value.bool ((staleB S L.length X.length) || (decide ((onext S (ofI ((X.length : Int) + 1))).2.2.2 = 0))) by first | (simp only [c38, bls]; done) | simp [c38]⟩, trivial⟩⟩⟩) (fun _ h => h.re [0, 0, 0, 0, 0] [])
   ·
    refine k_held [blkA g7 #[.int .i64 x.kind, .int .i64 x.p, .int .i64 x.q, .string x.str, .int .i64 x.ref] 71, blkA b #[v8, pB r3 0] 185, own VlT v8 L2] ?_
    refine hp_ 0 [0, 0, 0] (pB b 0) ?_
    refine hp_ 1 [0, 0, 0] (pB b 0) ?_
    refine hp_ 2 [0, 0, 0] (pB b 1) ?_
    refine h_l 3 rfl [0, 0, 0] (fun _ => (t_load 1 (pB r3 0))) ?_
    refine hp_ 4 [0, 0, 0] (pB b 0) ?_
    refine hp_ 5 [0, 0, 0] (pB b 0) ?_
    refine hp_ 6 [0, 0, 0] (pB b 0) ?_
    refine h_l 7 rfl [0, 0, 0] (fun _ => (t_load 1 v8)) ?_
    refine h_l 8 rfl [0, 0, 0] (fun _ => (t_len VlT_ok Tryz.underlying28 (.own 2))) ?_
    refine h_l 9 rfl [0, 0, 0] (fun _ => (Lt.to (v' := .int .i64 ((X.length : Int) + 2)) (t_add (L2.length : Int) 1 (by omega)) (congrArg (Value.int .i64) (by omega)))) ?_
    refine h_stepS 10 ?_
    refine s_vcall (fun _ h => ofint_s ((X.length : Int) + 2)) ?_
    rintro _ rfl
    refine s_nil (xs_held [0, 0, 0] ?_)
    refine h_stepS 11 ?_
    refine s_call [3] (omget_s (S := S) (ofI ((X.length : Int) + 2))) ?_
    rintro _ _ ⟨rfl, rfl⟩
    refine s_nil (xs_held [1, 1, 1] ?_)
    refine h_stepS 12 ?_
    refine s_store 4 #[.int .i64 ((oget S (ofI ((X.length : Int) + 2))).kind), .int .i64 ((oget S (ofI ((X.length : Int) + 2))).p), .int .i64 ((oget S (ofI ((X.length : Int) + 2))).q), .string ((oget S (ofI ((X.length : Int) + 2))).str), .int .i64 ((oget S (ofI ((X.length : Int) + 2))).ref)] ?_
    refine s_nil (xs_held [1, 1, 1] ?_)
    refine h_doneS ?_
    refine xs_block ?_
    have hst : ((staleB S L.length X.length) || (decide ((onext S (ofI ((X.length : Int) + 1))).2.2.2 = 0))) = staleB S L.length L2.length := by rw [ll2, ← stale_step S hi4.2.2.1]
    rw [hst]
    exact xs_round (v8, L2, (oget S (ofI ((X.length : Int) + 2))), f - 1) (by show mu S _ _ < mu S _ _; rw [ll2]; exact mu_lt hinv0 hx0) (by show grow S (S.length + 2) L v = _ ∧ _; exact ⟨by rw [hg2, hL2], by rw [ll2]; have := mu_lt hinv0 (n := X.length) hx0; omega, by omega, by rw [ll2]; have := mu_lt hinv0 (n := X.length) hx0; omega⟩) (sub_of rfl ⟨⟨rfl, rfl⟩, ⟨⟨rfl, rfl⟩, ⟨⟨rfl, rfl⟩, trivial⟩⟩⟩) (fun _ h => h.re [2, 2, 0, 1] [4])
 ·
  have p39 := Decidable.not_not.1 (of_decide_eq_false c5)
  have hx0 : x.kind = 0 := Decidable.not_not.1 (of_decide_eq_false c5)
  have hgr : grow S (S.length + 2) L v = X := by rw [hi4.1]; exact grow_stop S X hx0
  refine k_exit ?_
  refine xs_exit ?_
  refine xs_exit ?_
  refine xs_here ?_
  refine xs_then ?_
  refine k_seq ?_
  refine k_sr ?_
  refine sp (.bool (staleB S L.length X.length)) ?_
  refine sp (.bool (!(staleB S L.length X.length))) ?_
  refine s_nt ?_
  refine k_cond (!(staleB S L.length X.length)) (fun c40 => ?_) (fun c40 => ?_)
  ·
   have c41 := not_t c40
   refine k_ret ?_
   refine xs_ret ?_
   refine xs_mem (fun _ h => tb_shut (h.re [0, 0, 0] [])) ?_
   have hT : tadd ⟨L, S⟩ v = ⟨X, S⟩ := by rw [tadd_eq hgr, if_neg (by rw [c41]; decide)]
   refine xs_fin [] (tbA b X S :: F) SI.nil (fun _ h => h.re [0] [1]) ⟨rfl, ?_⟩
   rw [hT]
  ·
   have c42 := not_f c40
   refine k_st ?_
   refine k_sr ?_
   refine s_pcall (fun _ h => omnew_s) ?_
   rintro _ _ ⟨r43, rfl, rfl⟩
   refine sp (pB r43 0) ?_
   refine s_nt ?_
   refine k_seq ?_
   refine k_sr ?_
   refine sp (pB b 0) ?_
   refine sp (pB b 0) ?_
   refine sp (pB b 1) ?_
   refine s_lt (t_load 1 (pB r3 0)) ?_
   refine s_call [3] (omkeys_s (S := S) (by (try simp only [lnm]); omega)) ?_
   rintro v44 _ rfl
   refine s_fact (fun H h => ((Acc.own (T := VlT) (L := (okeys S)) 0 rfl) H h).form) (fun hf45 => ?_)
   refine s_lt (t_len VlT_ok Tryz.underlying28 (.own 0)) ?_
   refine sp (.int .i64 0) ?_
   refine s_nt ?_
   refine k_block ?_
   refine k_loop (ι := Nat) (fun i => i ≤ (okeys S).length) (fun i => [(0, pB b 0), (9, pB r43 0), (67, v44), (68, .int .i64 ((okeys S).length : Int)), (69, .int .i64 (i : Int))]) (fun i => own VlT v44 (okeys S) :: omA r3 S :: omA r43 (purgeS S X.length i) :: blkA b #[lx, pB r3 0] 185 :: own VlT lx X :: blkA g1 #[.int .i64 x.kind, .int .i64 x.p, .int .i64 x.q, .string x.str, .int .i64 x.ref] 71 :: F) (fun i => (okeys S).length - i) 0 (Nat.zero_le _) (sub_of rfl ⟨⟨rfl, rfl⟩, ⟨⟨rfl, rfl⟩, ⟨⟨rfl, rfl⟩, ⟨⟨rfl, rfl⟩, ⟨⟨rfl, rfl⟩, trivial⟩⟩⟩⟩⟩) (fun _ h => h.re [0, 0, 0, 0, 0, 0] []) ?_
   rintro i hi46
   show SK _ _ _ _ _ [(0, .pointer (some ⟨b, 0, none⟩)), (9, .pointer (some ⟨r43, 0, none⟩)), (67, v44), (68, .int .i64 ((okeys S).length : Int)), (69, .int .i64 (i : Int))] _ (own VlT v44 (okeys S) :: omA r3 S :: omA r43 (purgeS S X.length i) :: blkA b #[lx, .pointer (some ⟨r3, 0, none⟩)] 185 :: own VlT lx X :: blkA g1 #[.int .i64 x.kind, .int .i64 x.p, .int .i64 x.q, .string x.str, .int .i64 x.ref] 71 :: F)
   have hpl := purgeS_len S X.length i
   refine k_sr ?_
   refine s_lt t_cmp ?_
   refine s_nt ?_
   refine k_seq ?_
   refine k_cond (decide ((i : Int) < ((okeys S).length : Int))) (fun c47 => ?_) (fun c47 => ?_)
   ·
    have p48 := of_decide_eq_true c47
    refine k_st ?_
    refine k_seq ?_
    refine k_block ?_
    refine k_sr ?_
    refine s_lt (t_index VlT_ok Tryz.underlying28 (.own 0) (i : Int) i (by omega) (by (try simp only [lnm]); omega) (by omega)) ?_
    obtain ⟨y49, hy50⟩ : ∃ y, (okeys S)[i]? = some y := ⟨_, List.getElem?_eq_getElem (by (try simp only [lnm]); omega)⟩
    obtain ⟨s51, hs52, rfl⟩ := okeys_get hy50
    refine s_lt (t_loadE VlT_ok (.own 0) hy50) ?_
    refine s_alloc (.agg #[.int .i64 0, .int .i64 0, .int .i64 0, .string ByteArray.empty, .int .i64 0]) #[.int .i64 0, .int .i64 0, .int .i64 0, .string ByteArray.empty, .int .i64 0] (fun g53 => ?_)
    refine s_store 0 #[.int .i64 s51.key.kind, .int .i64 s51.key.p, .int .i64 s51.key.q, .string s51.key.str, .int .i64 s51.key.ref] ?_
    refine s_nr ?_
    refine s_lt (t_loadA 0 #[.int .i64 s51.key.kind, .int .i64 s51.key.p, .int .i64 s51.key.q, .string s51.key.str, .int .i64 s51.key.ref]) ?_
    refine s_vcall (fun _ h => integer_s s51.key) ?_
    rintro u54 e55
    rcases int_cases s51.key with ⟨hi56, hp57, hv58⟩ | ⟨hi59, hw60⟩
    ·
     rw [hi56, hp57] at e55; subst e55
     refine sp (.tuple #[.int .i64 (whole s51.key), .bool true]) ?_
     refine sp (.int .i64 (whole s51.key)) ?_
     refine sp (.bool true) ?_
     refine sp (.int .i64 (whole s51.key)) ?_
     refine sp (.bool true) ?_
     refine s_nt ?_
     refine k_cut (ι := Unit) (fun _ => True) (fun _ => [(0, pB b 0), (9, pB r43 0), (11, pB g53 0), (67, v44), (68, .int .i64 ((okeys S).length : Int)), (69, .int .i64 (i : Int)), (92, .bool ((decide ((whole s51.key) < 1)) || (decide ((X.length : Int) < (whole s51.key)))))]) (fun _ => blkA g53 #[.int .i64 s51.key.kind, .int .i64 s51.key.p, .int .i64 s51.key.q, .string s51.key.str, .int .i64 s51.key.ref] 71 :: own VlT v44 (okeys S) :: omA r3 S :: omA r43 (purgeS S X.length i) :: blkA b #[lx, pB r3 0] 185 :: own VlT lx X :: blkA g1 #[.int .i64 x.kind, .int .i64 x.p, .int .i64 x.q, .string x.str, .int .i64 x.ref] 71 :: F) ?_ (fun _ _ => ?_)
     ·
      refine k_reg ?_
      refine sp (.bool true) ?_
      refine sp (.bool false) ?_
      refine sp (.bool false) ?_
      refine sp (.int .i64 (whole s51.key)) ?_
      refine s_lt t_cmp ?_
      refine sp (.bool (decide ((whole s51.key) < 1))) ?_
      refine sp (.bool (decide ((whole s51.key) < 1))) ?_
      refine s_fork 84 (decide ((whole s51.key) < 1)) (fun c61 => ?_) (fun c61 => ?_)
      ·
       have p62 := of_decide_eq_true c61
       refine s_skip ?_
       refine s_skip ?_
       refine s_skip ?_
       refine s_skip ?_
       refine s_skip ?_
       refine s_skip ?_
       refine s_skip ?_
       refine sp (.bool true) ?_
       refine s_nil ?_
       exact xs_cut () trivial (sub_of rfl ⟨⟨rfl, rfl⟩, ⟨⟨rfl, rfl⟩, ⟨⟨rfl, rfl⟩, ⟨⟨rfl, rfl⟩, ⟨⟨rfl, rfl⟩, ⟨⟨rfl, rfl⟩, ⟨⟨rfl, show Value.bool true = Value.bool ((decide ((whole s51.key) < 1)) || (decide ((X.length : Int) < (whole s51.key)))) by first | (simp only [c61, bls]; done) | simp [c61]⟩, trivial⟩⟩⟩⟩⟩⟩⟩) (fun _ h => h.re [0, 0, 0, 0, 0, 0, 0] [])
      ·
       have p63 := of_decide_eq_false c61
       refine sp (.int .i64 (whole s51.key)) ?_
       refine sp (pB b 0) ?_
       refine sp (pB b 0) ?_
       refine sp (pB b 0) ?_
       refine s_lt (t_load 4 lx) ?_
       refine s_lt (t_len VlT_ok Tryz.underlying28 (.own 5)) ?_
       refine s_lt t_cmp ?_
       refine sp (.bool (decide ((X.length : Int) < (whole s51.key)))) ?_
       refine s_nil ?_
       exact xs_cut () trivial (sub_of rfl ⟨⟨rfl, rfl⟩, ⟨⟨rfl, rfl⟩, ⟨⟨rfl, rfl⟩, ⟨⟨rfl, rfl⟩, ⟨⟨rfl, rfl⟩, ⟨⟨rfl, rfl⟩, ⟨⟨rfl, show Value.bool (decide ((X.length : Int) < (whole s51.key))) = Value.bool ((decide ((whole s51.key) < 1)) || (decide ((X.length : Int) < (whole s51.key)))) by first | (simp only [c61, bls]; done) | simp [c61]⟩, trivial⟩⟩⟩⟩⟩⟩⟩) (fun _ h => h.re [0, 0, 0, 0, 0, 0, 0] [])
     ·
      refine k_cond ((decide ((whole s51.key) < 1)) || (decide ((X.length : Int) < (whole s51.key)))) (fun c64 => ?_) (fun c64 => ?_)
      ·
       have p65 := c64
       simp only [Bool.and_eq_true, Bool.or_eq_true, Bool.and_eq_false_iff, Bool.or_eq_false_iff, Bool.not_eq_true', Bool.not_eq_false', decide_eq_true_eq, decide_eq_false_iff_not] at p65
       refine k_held [blkA g53 #[.int .i64 s51.key.kind, .int .i64 s51.key.p, .int .i64 s51.key.q, .string s51.key.str, .int .i64 s51.key.ref] 71, own VlT v44 (okeys S), blkA b #[lx, pB r3 0] 185, own VlT lx X, blkA g1 #[.int .i64 x.kind, .int .i64 x.p, .int .i64 x.q, .string x.str, .int .i64 x.ref] 71] ?_
       refine hp_ 0 [0, 0, 2, 2, 2] (pB r43 0) ?_
       refine h_l 1 rfl [0, 0, 2, 2, 2] (fun _ => (t_loadA 0 #[.int .i64 s51.key.kind, .int .i64 s51.key.p, .int .i64 s51.key.q, .string s51.key.str, .int .i64 s51.key.ref])) ?_
       refine hp_ 2 [0, 0, 2, 2, 2] (pB b 0) ?_
       refine hp_ 3 [0, 0, 2, 2, 2] (pB b 0) ?_
       refine hp_ 4 [0, 0, 2, 2, 2] (pB b 1) ?_
       refine h_l 5 rfl [0, 0, 2, 2, 2] (fun _ => (t_load 2 (pB r3 0))) ?_
       refine h_l 6 rfl [0, 0, 2, 2, 2] (fun _ => (t_loadA 0 #[.int .i64 s51.key.kind, .int .i64 s51.key.p, .int .i64 s51.key.q, .string s51.key.str, .int .i64 s51.key.ref])) ?_
       refine h_stepS 7 ?_
       refine s_call [2] (omget_s (S := S) s51.key) ?_
       rintro _ _ ⟨rfl, rfl⟩
       refine s_nil (xs_held [1, 1, 2, 2, 2] ?_)
       refine h_stepS 8 ?_
       refine s_call [3] (omset_s (S := (purgeS S X.length i)) (by (try simp only [lnm]); omega) s51.key (oget S s51.key)) ?_
       rintro _ _ ⟨rfl, rfl⟩
       refine s_nil (xs_held [2, 2, 2, 2, 2] ?_)
       refine h_doneS ?_
       refine xs_block ?_
       refine xs_then ?_
       refine k_reg ?_
       refine s_lt (t_add (i : Int) 1 (by (try simp only [lnm]); omega)) ?_
       refine sp (.int .i64 ((i : Int) + 1)) ?_
       refine s_nil ?_
       have hps := purge_step hinv0 (m := X.length) hs52
       have hib : inB (whole s51.key) X.length = false := inB_false (by omega)
       have hpe := hps.1 hib
       rw [hpe]
       exact xs_round (i + 1) (by omega) (by omega) (sub_of rfl ⟨⟨rfl, rfl⟩, ⟨⟨rfl, rfl⟩, ⟨⟨rfl, rfl⟩, ⟨⟨rfl, rfl⟩, ⟨⟨rfl, rfl⟩, trivial⟩⟩⟩⟩⟩) (fun _ h => h.re [3, 1, 0, 1, 1, 1] [6])
      ·
       obtain ⟨c66, c67⟩ := or_f c64
       have p68 := of_decide_eq_false c66
       have p69 := of_decide_eq_false c67
       refine k_skip ?_
       refine xs_block ?_
       refine xs_then ?_
       refine k_reg ?_
       refine s_lt (t_add (i : Int) 1 (by (try simp only [lnm]); omega)) ?_
       refine sp (.int .i64 ((i : Int) + 1)) ?_
       refine s_nil ?_
       have hps := purge_step hinv0 (m := X.length) hs52
       have hib : inB (whole s51.key) X.length = true := inB_iff.2 (by omega)
       have hpe := hps.2 hib
       rw [hpe]
       exact xs_round (i + 1) (by omega) (by omega) (sub_of rfl ⟨⟨rfl, rfl⟩, ⟨⟨rfl, rfl⟩, ⟨⟨rfl, rfl⟩, ⟨⟨rfl, rfl⟩, ⟨⟨rfl, rfl⟩, trivial⟩⟩⟩⟩⟩) (fun _ h => h.re [1, 1, 1, 1, 1, 1] [6])
    ·
     rw [hi59] at e55; subst e55
     refine sp (.tuple #[.int .i64 s51.key.p, .bool false]) ?_
     refine sp (.int .i64 s51.key.p) ?_
     refine sp (.bool false) ?_
     refine sp (.int .i64 s51.key.p) ?_
     refine sp (.bool false) ?_
     refine s_nr ?_
     refine sp (.bool false) ?_
     refine sp (.bool true) ?_
     refine sp (.bool true) ?_
     refine s_skip ?_
     refine s_skip ?_
     refine sp (.bool true) ?_
     refine sp (.bool true) ?_
     refine s_skip ?_
     refine s_skip ?_
     refine s_skip ?_
     refine s_skip ?_
     refine s_skip ?_
     refine s_skip ?_
     refine s_skip ?_
     refine sp (.bool true) ?_
     refine s_nt ?_
     refine k_true ?_
     refine k_held [blkA g53 #[.int .i64 s51.key.kind, .int .i64 s51.key.p, .int .i64 s51.key.q, .string s51.key.str, .int .i64 s51.key.ref] 71, own VlT v44 (okeys S), blkA b #[lx, pB r3 0] 185, own VlT lx X, blkA g1 #[.int .i64 x.kind, .int .i64 x.p, .int .i64 x.q, .string x.str, .int .i64 x.ref] 71] ?_
     refine hp_ 0 [0, 0, 2, 2, 2] (pB r43 0) ?_
     refine h_l 1 rfl [0, 0, 2, 2, 2] (fun _ => (t_loadA 0 #[.int .i64 s51.key.kind, .int .i64 s51.key.p, .int .i64 s51.key.q, .string s51.key.str, .int .i64 s51.key.ref])) ?_
     refine hp_ 2 [0, 0, 2, 2, 2] (pB b 0) ?_
     refine hp_ 3 [0, 0, 2, 2, 2] (pB b 0) ?_
     refine hp_ 4 [0, 0, 2, 2, 2] (pB b 1) ?_
     refine h_l 5 rfl [0, 0, 2, 2, 2] (fun _ => (t_load 2 (pB r3 0))) ?_
     refine h_l 6 rfl [0, 0, 2, 2, 2] (fun _ => (t_loadA 0 #[.int .i64 s51.key.kind, .int .i64 s51.key.p, .int .i64 s51.key.q, .string s51.key.str, .int .i64 s51.key.ref])) ?_
     refine h_stepS 7 ?_
     refine s_call [2] (omget_s (S := S) s51.key) ?_
     rintro _ _ ⟨rfl, rfl⟩
     refine s_nil (xs_held [1, 1, 2, 2, 2] ?_)
     refine h_stepS 8 ?_
     refine s_call [3] (omset_s (S := (purgeS S X.length i)) (by (try simp only [lnm]); omega) s51.key (oget S s51.key)) ?_
     rintro _ _ ⟨rfl, rfl⟩
     refine s_nil (xs_held [2, 2, 2, 2, 2] ?_)
     refine h_doneS ?_
     refine xs_block ?_
     refine xs_then ?_
     refine k_reg ?_
     refine s_lt (t_add (i : Int) 1 (by (try simp only [lnm]); omega)) ?_
     refine sp (.int .i64 ((i : Int) + 1)) ?_
     refine s_nil ?_
     have hps := purge_step hinv0 (m := X.length) hs52
     have hib : inB (whole s51.key) X.length = false := inB_false (by omega)
     have hpe := hps.1 hib
     rw [hpe]
     exact xs_round (i + 1) (by omega) (by omega) (sub_of rfl ⟨⟨rfl, rfl⟩, ⟨⟨rfl, rfl⟩, ⟨⟨rfl, rfl⟩, ⟨⟨rfl, rfl⟩, ⟨⟨rfl, rfl⟩, trivial⟩⟩⟩⟩⟩) (fun _ h => h.re [3, 1, 0, 1, 1, 1] [6])
   ·
    have p70 := of_decide_eq_false c47
    refine k_exit ?_
    refine xs_exit ?_
    refine xs_exit ?_
    refine xs_here ?_
    refine xs_then ?_
    refine k_reg ?_
    refine sp (pB b 0) ?_
    refine sp (pB r43 0) ?_
    refine sp (pB b 0) ?_
    refine sp (pB b 1) ?_
    refine s_store 3 #[lx, pB r43 0] ?_
    refine s_nil ?_
    refine xs_mem (fun _ h => tb_shut (h.re [3, 3, 2] [])) ?_
    have hpe : purgeS S X.length i = purge S X.length := purge_end S X.length i (by rw [← okeys_length]; omega)
    have hT : tadd ⟨L, S⟩ v = ⟨X, purgeS S X.length i⟩ := by rw [tadd_eq hgr, if_pos c42, hpe]
    refine xs_finN [] (tbA b X (purgeS S X.length i) :: F) SI.nil (fun _ h => h.re [0] [1, 1, 1]) ⟨rfl, ?_⟩
    rw [hT]
theorem tsetE_bad {k v : Vl} (h : okKey k = false) : tsetE k v = 13 := by unfold tsetE; rw [if_pos h]
theorem tsetE_val {k v : Vl} (h : okKey k = true) (hv : validB v = false) : tsetE k v = 2 := by unfold tsetE; rw [if_neg (by rw [h]; decide), if_pos hv]
theorem tsetE_ok {k v : Vl} (h : okKey k = true) (hv : validB v = true) : tsetE k v = 0 := by unfold tsetE; rw [if_neg (by rw [h]; decide), if_neg (by rw [hv]; decide)]
theorem tsetE_oset (k v : Vl) : tsetE k v = osetE k v := rfl
theorem tbset_s {Z : Zone} {F : List Asr} {b : Nat} {L : List Vl} {S : List Slt} (hti : TInv ⟨L, S⟩) (hl : L.length ≤ 100000) (hs : S.length ≤ 100000) (k v : Vl) : SF Tryz.prog 144 #[.pointer (some ⟨b, 0, none⟩), k.v, v.v] Z (tbA b L S :: F) fun r Bs => r = .int .i64 (tsetE k v) ∧ Bs = tbA b (tset ⟨L, S⟩ k v).list (tset ⟨L, S⟩ k v).rest :: F := by
 refine sf_enter Tryz.func144 86 [(0, pB b 0), (1, .agg #[.int .i64 k.kind, .int .i64 k.p, .int .i64 k.q, .string k.str, .int .i64 k.ref]), (2, .agg #[.int .i64 v.kind, .int .i64 v.p, .int .i64 v.q, .string v.str, .int .i64 v.ref])] (fun w0 => ?_)
 refine k_sr ?_
 refine s_box #[.int .i64 k.kind, .int .i64 k.p, .int .i64 k.q, .string k.str, .int .i64 k.ref] (fun g1 => ?_)
 refine s_box #[.int .i64 v.kind, .int .i64 v.p, .int .i64 v.q, .string v.str, .int .i64 v.ref] (fun g2 => ?_)
 refine sp (.int .i64 0) ?_
 refine s_nt ?_
 refine k_seq ?_
 refine k_sr ?_
 refine sp (pB b 0) ?_
 refine sp (.bool false) ?_
 refine s_nt ?_
 refine k_false ?_
 refine k_st ?_
 refine k_seq ?_
 refine k_sr ?_
 refine sp (pB g1 0) ?_
 refine s_lt (t_load 1 (.int .i64 k.kind)) ?_
 refine s_lt t_cmp ?_
 refine sp (.bool (decide (k.kind = 0))) ?_
 refine s_fork 14 (decide (k.kind = 0)) (fun c3 => ?_) (fun c3 => ?_)
 ·
  have p4 := of_decide_eq_true c3
  refine s_skip ?_
  refine s_skip ?_
  refine s_skip ?_
  refine sp (.bool true) ?_
  refine s_nt ?_
  refine k_true ?_
  refine k_sr ?_
  refine sp (.int .i64 13) ?_
  refine s_nt ?_
  refine k_ret ?_
  refine xs_ret ?_
  have hk : okKey k = false := okKey_bad (by first | exact p4 | exact .inl p4 | exact .inr p4)
  refine xs_fin [.int .i64 13] (tbA b L S :: F) (SI.tmp 6 SI.nil) (fun _ h => h.re [2] [1, 1]) ⟨congrArg (Value.int .i64) (tsetE_bad hk).symm, ?_⟩
  rw [tset_bad (v := v) (.inl hk)]
 ·
  have p5 := of_decide_eq_false c3
  refine s_lt (t_loadA 1 #[.int .i64 k.kind, .int .i64 k.p, .int .i64 k.q, .string k.str, .int .i64 k.ref]) ?_
  refine s_vcall (fun _ h => valid_s k) ?_
  rintro _ rfl
  refine sp (.bool (!(validB k))) ?_
  refine sp (.bool (!(validB k))) ?_
  refine s_nt ?_
  refine k_cond (!(validB k)) (fun c6 => ?_) (fun c6 => ?_)
  ·
   have c7 := not_t c6
   refine k_sr ?_
   refine sp (.int .i64 13) ?_
   refine s_nt ?_
   refine k_ret ?_
   refine xs_ret ?_
   have hk : okKey k = false := okKey_bad (by first | exact c7 | exact .inl c7 | exact .inr c7)
   refine xs_fin [.int .i64 13] (tbA b L S :: F) (SI.tmp 6 SI.nil) (fun _ h => h.re [2] [1, 1]) ⟨congrArg (Value.int .i64) (tsetE_bad hk).symm, ?_⟩
   rw [tset_bad (v := v) (.inl hk)]
  ·
   have c8 := not_f c6
   refine k_st ?_
   refine k_seq ?_
   refine k_sr ?_
   refine s_lt (t_loadA 0 #[.int .i64 v.kind, .int .i64 v.p, .int .i64 v.q, .string v.str, .int .i64 v.ref]) ?_
   refine s_vcall (fun _ h => valid_s v) ?_
   rintro _ rfl
   refine sp (.bool (!(validB v))) ?_
   refine s_nt ?_
   refine k_cond (!(validB v)) (fun c9 => ?_) (fun c9 => ?_)
   ·
    have c10 := not_t c9
    refine k_sr ?_
    refine sp (.int .i64 2) ?_
    refine s_nt ?_
    refine k_ret ?_
    refine xs_ret ?_
    have hk := okKey_good c3 c8
    refine xs_fin [.int .i64 2] (tbA b L S :: F) (SI.tmp 6 SI.nil) (fun _ h => h.re [2] [1, 1]) ⟨congrArg (Value.int .i64) (tsetE_val hk c10).symm, ?_⟩
    rw [tset_bad (v := v) (.inr c10)]
   ·
    have c11 := not_f c9
    refine k_st ?_
    refine k_sr ?_
    refine s_lt (t_loadA 1 #[.int .i64 k.kind, .int .i64 k.p, .int .i64 k.q, .string k.str, .int .i64 k.ref]) ?_
    refine s_vcall (fun _ h => integer_s k) ?_
    rintro u12 e13
    rcases int_cases k with ⟨hi14, hp15, hv16⟩ | ⟨hi17, hw18⟩
    ·
     rw [hi14, hp15] at e13; subst e13
     refine sp (.tuple #[.int .i64 (whole k), .bool true]) ?_
     refine sp (.int .i64 (whole k)) ?_
     refine sp (.bool true) ?_
     refine sp (.int .i64 (whole k)) ?_
     refine sp (.bool true) ?_
     refine s_nt ?_
     refine k_seq ?_
     refine k_block ?_
     refine k_sr ?_
     refine sp (.bool true) ?_
     refine sp (.bool true) ?_
     refine sp (.int .i64 (whole k)) ?_
     refine s_lt t_cmp ?_
     refine sp (.bool (decide ((1 : Int) ≤ (whole k)))) ?_
     refine sp (.bool (decide ((1 : Int) ≤ (whole k)))) ?_
     refine s_fork 40 (decide ((1 : Int) ≤ (whole k))) (fun c19 => ?_) (fun c19 => ?_)
     ·
      have p20 := of_decide_eq_true c19
      refine sp (.int .i64 (whole k)) ?_
      refine sp (pB b 0) ?_
      refine sp (pB b 0) ?_
      refine sp (pB b 0) ?_
      refine s_mem2 (fun H h => tb_open (h.re [2] [])) (fun lv21 r22 hw => ?_)
      refine s_lt (t_load 0 lv21) ?_
      refine s_lt (t_len VlT_ok Tryz.underlying28 (.own 1)) ?_
      refine s_lt t_cmp ?_
      refine sp (.bool (decide ((whole k) ≤ (L.length : Int)))) ?_
      refine sp (.bool (decide ((whole k) ≤ (L.length : Int)))) ?_
      refine s_nt ?_
      refine k_cond (decide ((whole k) ≤ (L.length : Int))) (fun c23 => ?_) (fun c23 => ?_)
      ·
       have p24 := of_decide_eq_true c23
       refine k_seq ?_
       refine k_draw ?_
       refine sp (pB b 0) ?_
       refine sp (pB b 0) ?_
       refine sp (pB b 0) ?_
       refine s_lt (t_load 0 lv21) ?_
       refine sp (.int .i64 (whole k)) ?_
       refine s_lt (t_sub (whole k) 1 (by (try simp only [lnm]); omega)) ?_
       refine s_lt (t_loadA 3 #[.int .i64 v.kind, .int .i64 v.p, .int .i64 v.q, .string v.str, .int .i64 v.ref]) ?_
       refine s_lt (t_index VlT_ok Tryz.underlying28 (.own 1) ((whole k) - 1) ((((whole k) - 1)).toNat) (by omega) (by (try simp only [lnm]); omega) (by omega)) ?_
       obtain ⟨y25, hy26⟩ : ∃ y, L[(((whole k) - 1)).toNat]? = some y := ⟨_, List.getElem?_eq_getElem (by (try simp only [lnm]); omega)⟩
       refine s_storeE 1 0 v VlT_ok hy26 ?_
       refine s_nil ?_
       refine x_dynS (fun _ h => by kernel_rfl) ?_
       refine xs_then ?_
       refine k_sr ?_
       refine sp (.int .i64 (whole k)) ?_
       refine sp (pB b 0) ?_
       refine sp (pB b 0) ?_
       refine sp (pB b 0) ?_
       refine s_lt (t_load 0 lv21) ?_
       refine s_lt (t_len VlT_ok Tryz.underlying28 (.own 1)) ?_
       refine s_lt t_cmp ?_
       refine s_nt ?_
       refine k_cond (decide ((whole k) = ((L.set ((((whole k) - 1)).toNat) v).length : Int))) (fun c27 => ?_) (fun c27 => ?_)
       ·
        have p28 := of_decide_eq_true c27
        refine k_reg ?_
        refine sp (pB b 0) ?_
        refine s_mem (fun _ h => tb_shut (h.re [0, 0, 0] [])) ?_
        refine s_call [0] (tbshrink_s (L := (L.set ((((whole k) - 1)).toNat) v)) (S := S) (by (try simp only [lnm]); omega)) ?_
        rintro _ _ ⟨rfl, rfl⟩
        refine s_nil ?_
        refine xs_block ?_
        refine xs_then ?_
        refine k_sr ?_
        refine sp (.int .i64 0) ?_
        refine s_nt ?_
        refine k_ret ?_
        have hk := okKey_good c3 c8
        have hsl : (L.set (whole k - 1).toNat v).length = L.length := List.length_set
        have hT : tset ⟨L, S⟩ k v = ⟨(shr (L.set ((((whole k) - 1)).toNat) v)), S⟩ := by rw [tset_in (T := ⟨L, S⟩) hk c11 (by omega) (by show _ ≤ (L.length : Int); omega)]
        refine xs_fin [.int .i64 0] (tbA b (shr (L.set ((((whole k) - 1)).toNat) v)) S :: F) (SI.tmp 6 SI.nil) (fun _ h => h.re [0] [1, 1]) ⟨congrArg (Value.int .i64) (tsetE_ok hk c11).symm, ?_⟩
        rw [hT]
       ·
        have p29 := of_decide_eq_false c27
        refine k_skip ?_
        refine xs_block ?_
        refine xs_then ?_
        refine k_sr ?_
        refine sp (.int .i64 0) ?_
        refine s_nt ?_
        refine k_ret ?_
        have hk := okKey_good c3 c8
        refine xs_mem (fun _ h => tb_shut (h.re [0, 0, 0] [])) ?_
        have hsl : (L.set (whole k - 1).toNat v).length = L.length := List.length_set
        have hT : tset ⟨L, S⟩ k v = ⟨(L.set ((((whole k) - 1)).toNat) v), S⟩ := by rw [tset_in (T := ⟨L, S⟩) hk c11 (by omega) (by show _ ≤ (L.length : Int); omega)]; show (⟨shr (L.set _ v), S⟩ : Tb) = _; rw [shr_set hti.last (by show _ ≠ L.length; omega)]
        refine xs_fin [.int .i64 0] (tbA b (L.set ((((whole k) - 1)).toNat) v) S :: F) (SI.tmp 6 SI.nil) (fun _ h => h.re [0] [1, 1]) ⟨congrArg (Value.int .i64) (tsetE_ok hk c11).symm, ?_⟩
        rw [hT]
      ·
       have p30 := of_decide_eq_false c23
       refine k_sr ?_
       refine sp (.bool true) ?_
       refine sp (.bool true) ?_
       refine sp (.int .i64 (whole k)) ?_
       refine sp (pB b 0) ?_
       refine sp (pB b 0) ?_
       refine sp (pB b 0) ?_
       refine s_lt (t_load 0 lv21) ?_
       refine s_lt (t_len VlT_ok Tryz.underlying28 (.own 1)) ?_
       refine s_lt (t_add (L.length : Int) 1 (by (try simp only [lnm]); omega)) ?_
       refine s_lt t_cmp ?_
       refine sp (.bool (decide ((whole k) = ((L.length : Int) + 1)))) ?_
       refine sp (.bool (decide ((whole k) = ((L.length : Int) + 1)))) ?_
       refine s_fork 78 (decide ((whole k) = ((L.length : Int) + 1))) (fun c31 => ?_) (fun c31 => ?_)
       ·
        have p32 := of_decide_eq_true c31
        refine sp (pB g2 0) ?_
        refine s_lt (t_load 3 (.int .i64 v.kind)) ?_
        refine s_lt t_cmp ?_
        refine sp (.bool (decide (v.kind ≠ 0))) ?_
        refine sp (.bool (decide (v.kind ≠ 0))) ?_
        refine s_nt ?_
        refine k_cond (decide (v.kind ≠ 0)) (fun c33 => ?_) (fun c33 => ?_)
        ·
         have p34 := of_decide_eq_true c33
         refine k_reg ?_
         refine sp (pB b 0) ?_
         refine s_lt (t_loadA 3 #[.int .i64 v.kind, .int .i64 v.p, .int .i64 v.q, .string v.str, .int .i64 v.ref]) ?_
         refine s_mem (fun _ h => tb_shut (h.re [0, 0, 0] [])) ?_
         refine s_call [0] (tbadd_s (L := L) (S := S) (by (try simp only [lnm]); omega) (by (try simp only [lnm]); omega) v) ?_
         rintro _ _ ⟨rfl, rfl⟩
         refine s_nil ?_
         refine xs_block ?_
         refine xs_then ?_
         refine k_sr ?_
         refine sp (.int .i64 0) ?_
         refine s_nt ?_
         refine k_ret ?_
         have hk := okKey_good c3 c8
         refine xs_fin [.int .i64 0] (tbA b ((tadd ⟨L, S⟩ v).list) ((tadd ⟨L, S⟩ v).rest) :: F) (SI.tmp 6 SI.nil) (fun _ h => h.re [0] [1, 1]) ⟨congrArg (Value.int .i64) (tsetE_ok hk c11).symm, ?_⟩
         rw [tset_add (T := ⟨L, S⟩) hk c11 (by show _ = (L.length : Int) + 1; omega) (of_decide_eq_true c33)]
        ·
         have p35 := Decidable.not_not.1 (of_decide_eq_false c33)
         refine k_seq ?_
         refine k_draw ?_
         refine sp (pB b 0) ?_
         refine sp (pB b 0) ?_
         refine sp (pB b 1) ?_
         refine s_lt (t_load 0 (pB r22 0)) ?_
         refine s_lt (t_loadA 4 #[.int .i64 k.kind, .int .i64 k.p, .int .i64 k.q, .string k.str, .int .i64 k.ref]) ?_
         refine s_lt (t_loadA 3 #[.int .i64 v.kind, .int .i64 v.p, .int .i64 v.q, .string v.str, .int .i64 v.ref]) ?_
         refine s_call [2] (omset_s (S := S) (by (try simp only [lnm]); omega) k v) ?_
         rintro _ _ ⟨rfl, rfl⟩
         refine sp (.int .i64 (osetE k v)) ?_
         refine s_nil ?_
         refine x_dynS (fun _ h => by kernel_rfl) ?_
         refine xs_then ?_
         refine k_ret ?_
         refine xs_retBlock ?_
         refine xs_ret ?_
         have hk := okKey_good c3 c8
         refine xs_mem (fun _ h => tb_shut (h.re [1, 1, 0] [])) ?_
         refine xs_fin [.int .i64 (osetE k v)] (tbA b L (osetL S k v) :: F) (SI.tmp 6 SI.nil) (fun _ h => h.re [0] [1, 1]) ⟨congrArg (Value.int .i64) ((tsetE_oset k v)).symm, ?_⟩
         rw [tset_out (T := ⟨L, S⟩) hk c11 (by show ¬ (_ ∧ _ ≤ (L.length : Int)); omega) (by show ¬ (_ = (L.length : Int) + 1 ∧ _); rintro ⟨e1, e2⟩; first | omega | (have hq := p35; simp_all))]
       ·
        have p36 := of_decide_eq_false c31
        refine s_skip ?_
        refine s_skip ?_
        refine s_skip ?_
        refine sp (.bool false) ?_
        refine sp (.bool false) ?_
        refine s_nt ?_
        refine k_false ?_
        refine k_seq ?_
        refine k_draw ?_
        refine sp (pB b 0) ?_
        refine sp (pB b 0) ?_
        refine sp (pB b 1) ?_
        refine s_lt (t_load 0 (pB r22 0)) ?_
        refine s_lt (t_loadA 4 #[.int .i64 k.kind, .int .i64 k.p, .int .i64 k.q, .string k.str, .int .i64 k.ref]) ?_
        refine s_lt (t_loadA 3 #[.int .i64 v.kind, .int .i64 v.p, .int .i64 v.q, .string v.str, .int .i64 v.ref]) ?_
        refine s_call [2] (omset_s (S := S) (by (try simp only [lnm]); omega) k v) ?_
        rintro _ _ ⟨rfl, rfl⟩
        refine sp (.int .i64 (osetE k v)) ?_
        refine s_nil ?_
        refine x_dynS (fun _ h => by kernel_rfl) ?_
        refine xs_then ?_
        refine k_ret ?_
        refine xs_retBlock ?_
        refine xs_ret ?_
        have hk := okKey_good c3 c8
        refine xs_mem (fun _ h => tb_shut (h.re [1, 1, 0] [])) ?_
        refine xs_fin [.int .i64 (osetE k v)] (tbA b L (osetL S k v) :: F) (SI.tmp 6 SI.nil) (fun _ h => h.re [0] [1, 1]) ⟨congrArg (Value.int .i64) ((tsetE_oset k v)).symm, ?_⟩
        rw [tset_out (T := ⟨L, S⟩) hk c11 (by show ¬ (_ ∧ _ ≤ (L.length : Int)); omega) (by show ¬ (_ = (L.length : Int) + 1 ∧ _); rintro ⟨e1, e2⟩; first | omega | (have hq := p36; simp_all))]
     ·
      have p37 := of_decide_eq_false c19
      refine s_skip ?_
      refine s_skip ?_
      refine s_skip ?_
      refine s_skip ?_
      refine s_skip ?_
      refine s_skip ?_
      refine s_skip ?_
      refine sp (.bool false) ?_
      refine sp (.bool false) ?_
      refine s_nt ?_
      refine k_false ?_
      refine k_sr ?_
      refine sp (.bool true) ?_
      refine sp (.bool true) ?_
      refine sp (.int .i64 (whole k)) ?_
      refine sp (pB b 0) ?_
      refine sp (pB b 0) ?_
      refine sp (pB b 0) ?_
      refine s_mem2 (fun H h => tb_open (h.re [2] [])) (fun lv38 r39 hw => ?_)
      refine s_lt (t_load 0 lv38) ?_
      refine s_lt (t_len VlT_ok Tryz.underlying28 (.own 1)) ?_
      refine s_lt (t_add (L.length : Int) 1 (by (try simp only [lnm]); omega)) ?_
      refine s_lt t_cmp ?_
      refine sp (.bool (decide ((whole k) = ((L.length : Int) + 1)))) ?_
      refine sp (.bool (decide ((whole k) = ((L.length : Int) + 1)))) ?_
      refine s_fork 78 (decide ((whole k) = ((L.length : Int) + 1))) (fun c40 => ?_) (fun c40 => ?_)
      ·
       have p41 := of_decide_eq_true c40
       refine sp (pB g2 0) ?_
       refine s_lt (t_load 3 (.int .i64 v.kind)) ?_
       refine s_lt t_cmp ?_
       refine sp (.bool (decide (v.kind ≠ 0))) ?_
       refine sp (.bool (decide (v.kind ≠ 0))) ?_
       refine s_nt ?_
       refine k_cond (decide (v.kind ≠ 0)) (fun c42 => ?_) (fun c42 => ?_)
       ·
        have p43 := of_decide_eq_true c42
        refine k_reg ?_
        refine sp (pB b 0) ?_
        refine s_lt (t_loadA 3 #[.int .i64 v.kind, .int .i64 v.p, .int .i64 v.q, .string v.str, .int .i64 v.ref]) ?_
        refine s_mem (fun _ h => tb_shut (h.re [0, 0, 0] [])) ?_
        refine s_call [0] (tbadd_s (L := L) (S := S) (by (try simp only [lnm]); omega) (by (try simp only [lnm]); omega) v) ?_
        rintro _ _ ⟨rfl, rfl⟩
        refine s_nil ?_
        refine xs_block ?_
        refine xs_then ?_
        refine k_sr ?_
        refine sp (.int .i64 0) ?_
        refine s_nt ?_
        refine k_ret ?_
        have hk := okKey_good c3 c8
        refine xs_fin [.int .i64 0] (tbA b ((tadd ⟨L, S⟩ v).list) ((tadd ⟨L, S⟩ v).rest) :: F) (SI.tmp 6 SI.nil) (fun _ h => h.re [0] [1, 1]) ⟨congrArg (Value.int .i64) (tsetE_ok hk c11).symm, ?_⟩
        rw [tset_add (T := ⟨L, S⟩) hk c11 (by show _ = (L.length : Int) + 1; omega) (of_decide_eq_true c42)]
       ·
        have p44 := Decidable.not_not.1 (of_decide_eq_false c42)
        refine k_seq ?_
        refine k_draw ?_
        refine sp (pB b 0) ?_
        refine sp (pB b 0) ?_
        refine sp (pB b 1) ?_
        refine s_lt (t_load 0 (pB r39 0)) ?_
        refine s_lt (t_loadA 4 #[.int .i64 k.kind, .int .i64 k.p, .int .i64 k.q, .string k.str, .int .i64 k.ref]) ?_
        refine s_lt (t_loadA 3 #[.int .i64 v.kind, .int .i64 v.p, .int .i64 v.q, .string v.str, .int .i64 v.ref]) ?_
        refine s_call [2] (omset_s (S := S) (by (try simp only [lnm]); omega) k v) ?_
        rintro _ _ ⟨rfl, rfl⟩
        refine sp (.int .i64 (osetE k v)) ?_
        refine s_nil ?_
        refine x_dynS (fun _ h => by kernel_rfl) ?_
        refine xs_then ?_
        refine k_ret ?_
        refine xs_retBlock ?_
        refine xs_ret ?_
        have hk := okKey_good c3 c8
        refine xs_mem (fun _ h => tb_shut (h.re [1, 1, 0] [])) ?_
        refine xs_fin [.int .i64 (osetE k v)] (tbA b L (osetL S k v) :: F) (SI.tmp 6 SI.nil) (fun _ h => h.re [0] [1, 1]) ⟨congrArg (Value.int .i64) ((tsetE_oset k v)).symm, ?_⟩
        rw [tset_out (T := ⟨L, S⟩) hk c11 (by show ¬ (_ ∧ _ ≤ (L.length : Int)); omega) (by show ¬ (_ = (L.length : Int) + 1 ∧ _); rintro ⟨e1, e2⟩; first | omega | (have hq := p44; simp_all))]
      ·
       have p45 := of_decide_eq_false c40
       refine s_skip ?_
       refine s_skip ?_
       refine s_skip ?_
       refine sp (.bool false) ?_
       refine sp (.bool false) ?_
       refine s_nt ?_
       refine k_false ?_
       refine k_seq ?_
       refine k_draw ?_
       refine sp (pB b 0) ?_
       refine sp (pB b 0) ?_
       refine sp (pB b 1) ?_
       refine s_lt (t_load 0 (pB r39 0)) ?_
       refine s_lt (t_loadA 4 #[.int .i64 k.kind, .int .i64 k.p, .int .i64 k.q, .string k.str, .int .i64 k.ref]) ?_
       refine s_lt (t_loadA 3 #[.int .i64 v.kind, .int .i64 v.p, .int .i64 v.q, .string v.str, .int .i64 v.ref]) ?_
       refine s_call [2] (omset_s (S := S) (by (try simp only [lnm]); omega) k v) ?_
       rintro _ _ ⟨rfl, rfl⟩
       refine sp (.int .i64 (osetE k v)) ?_
       refine s_nil ?_
       refine x_dynS (fun _ h => by kernel_rfl) ?_
       refine xs_then ?_
       refine k_ret ?_
       refine xs_retBlock ?_
       refine xs_ret ?_
       have hk := okKey_good c3 c8
       refine xs_mem (fun _ h => tb_shut (h.re [1, 1, 0] [])) ?_
       refine xs_fin [.int .i64 (osetE k v)] (tbA b L (osetL S k v) :: F) (SI.tmp 6 SI.nil) (fun _ h => h.re [0] [1, 1]) ⟨congrArg (Value.int .i64) ((tsetE_oset k v)).symm, ?_⟩
       rw [tset_out (T := ⟨L, S⟩) hk c11 (by show ¬ (_ ∧ _ ≤ (L.length : Int)); omega) (by show ¬ (_ = (L.length : Int) + 1 ∧ _); rintro ⟨e1, e2⟩; first | omega | (have hq := p45; simp_all))]
    ·
     rw [hi17] at e13; subst e13
     refine sp (.tuple #[.int .i64 k.p, .bool false]) ?_
     refine sp (.int .i64 k.p) ?_
     refine sp (.bool false) ?_
     refine sp (.int .i64 k.p) ?_
     refine sp (.bool false) ?_
     refine s_nt ?_
     refine k_seq ?_
     refine k_block ?_
     refine k_sr ?_
     refine sp (.bool false) ?_
     refine sp (.bool false) ?_
     refine s_skip ?_
     refine s_skip ?_
     refine sp (.bool false) ?_
     refine sp (.bool false) ?_
     refine s_skip ?_
     refine s_skip ?_
     refine s_skip ?_
     refine s_skip ?_
     refine s_skip ?_
     refine s_skip ?_
     refine s_skip ?_
     refine sp (.bool false) ?_
     refine sp (.bool false) ?_
     refine s_nt ?_
     refine k_false ?_
     refine k_sr ?_
     refine sp (.bool false) ?_
     refine sp (.bool false) ?_
     refine s_skip ?_
     refine s_skip ?_
     refine s_skip ?_
     refine s_skip ?_
     refine s_skip ?_
     refine s_skip ?_
     refine s_skip ?_
     refine s_skip ?_
     refine sp (.bool false) ?_
     refine sp (.bool false) ?_
     refine s_skip ?_
     refine s_skip ?_
     refine s_skip ?_
     refine sp (.bool false) ?_
     refine sp (.bool false) ?_
     refine s_nt ?_
     refine k_false ?_
     refine k_seq ?_
     refine k_draw ?_
     refine sp (pB b 0) ?_
     refine sp (pB b 0) ?_
     refine sp (pB b 1) ?_
     refine s_mem2 (fun H h => tb_open (h.re [2] [])) (fun lv46 r47 hw => ?_)
     refine s_lt (t_load 0 (pB r47 0)) ?_
     refine s_lt (t_loadA 4 #[.int .i64 k.kind, .int .i64 k.p, .int .i64 k.q, .string k.str, .int .i64 k.ref]) ?_
     refine s_lt (t_loadA 3 #[.int .i64 v.kind, .int .i64 v.p, .int .i64 v.q, .string v.str, .int .i64 v.ref]) ?_
     refine s_call [2] (omset_s (S := S) (by (try simp only [lnm]); omega) k v) ?_
     rintro _ _ ⟨rfl, rfl⟩
     refine sp (.int .i64 (osetE k v)) ?_
     refine s_nil ?_
     refine x_dynS (fun _ h => by kernel_rfl) ?_
     refine xs_then ?_
     refine k_ret ?_
     refine xs_retBlock ?_
     refine xs_ret ?_
     have hk := okKey_good c3 c8
     refine xs_mem (fun _ h => tb_shut (h.re [1, 1, 0] [])) ?_
     refine xs_fin [.int .i64 (osetE k v)] (tbA b L (osetL S k v) :: F) (SI.tmp 6 SI.nil) (fun _ h => h.re [0] [1, 1]) ⟨congrArg (Value.int .i64) ((tsetE_oset k v)).symm, ?_⟩
     rw [tset_out (T := ⟨L, S⟩) hk c11 (by show ¬ (_ ∧ _ ≤ (L.length : Int)); omega) (by show ¬ (_ = (L.length : Int) + 1 ∧ _); rintro ⟨e1, e2⟩; first | omega | (have hq := c11; simp_all))]
end Go.Proofs.YtmhpcebiamkciaaGreat
end
section
set_option linter.unusedSimpArgs false
set_option linter.unusedVariables false
set_option maxRecDepth 100000
set_option maxHeartbeats 2000000
namespace Go.Proofs.YtmhpcebiamkciaaGreat
open Go.Hp Go.J Go.S
open Go.Mem (Ty KTy blk elemAt pre suf blk_pre blk_suf aget aset strK aggDesc)
open Go.Mem (adel apos aget_aset aget_adel)
/-- A table of the reference in memory. -/
theorem whole_not {k : Vl} (h : k.kind ≠ 2 ∨ validB k = false) : whole k = 0 := by
  unfold whole; rcases h with h | h <;> simp [h]
theorem whole_yes {k : Vl} (h1 : k.kind = 2) (h2 : validB k = true) : whole k = if k.q = 1 then k.p else 0 := by
  unfold whole; simp [h1, h2]
theorem num_valid {k : Vl} (h1 : k.kind = 2) (h2 : validB k = true) : validN k.p k.q = true := by
  unfold validB at h2
  rw [h1, if_neg (by decide), if_neg (by decide), if_pos rfl, Bool.and_eq_true] at h2
  exact h2.2
theorem oget_valid0 {S : List Slt} (h : OInv S) {k : Vl} (hk : validB k = false) : oget S k = zVl := oget_bad h (by simp [okKey, hk])
theorem tget_ref {T : Tb} (h : OInv T.rest) {k : Vl} (hb : ¬ (1 ≤ whole k ∧ whole k ≤ (T.list.length : Int))) : tget T k = oget T.rest k := by
  cases hv : validB k with
  | false => rw [tget_bad hv, oget_valid0 h hv]
  | true => exact tget_out hv hb
theorem whole_valid {k : Vl} (h : 1 ≤ whole k) : validB k = true := by
  cases hv : validB k with
  | true => rfl
  | false => rw [whole_not (.inr hv)] at h; omega
end Go.Proofs.YtmhpcebiamkciaaGreat
end
section
set_option linter.unusedSimpArgs false
set_option linter.unusedVariables false
namespace Go.Proofs.YtmhpcebiamkciaaGreat
structure Hob where
  kind : Int
  tag : Int
  name : ByteArray
  tab : Tb
  mt : Vl
  vals : List Vl
  deriving DecidableEq
structure Hst where
  objs : List (Option Hob)
  tch : List Bool
  deriving DecidableEq
def noTb : Tb := ⟨[], []⟩
def hp0 : Hst := ⟨[], []⟩
def refV (kind id : Int) : Vl := ⟨kind, 0, 0, ByteArray.empty, id⟩
def strV (s : ByteArray) : Vl := ⟨3, 0, 0, s, 0⟩
def Hst.get (st : Hst) (id : Int) : Option Hob := if 1 ≤ id then (st.objs[id.toNat - 1]?).bind (fun x => x) else none
def Hst.put (st : Hst) (id : Int) (o : Hob) : Hst := { st with objs := st.objs.set (id.toNat - 1) (some o) }
def Hst.touch (st : Hst) (id : Int) : Hst := { st with tch := st.tch.set (id.toNat - 1) true }
def Hst.count (st : Hst) : Nat := st.objs.countP Option.isSome
def isRef (k : Int) : Bool := decide (k = 4) || (decide (k = 5) || (decide (k = 7) || decide (k = 8)))
def hfind (st : Hst) (v : Vl) : Option Hob := (st.get v.ref).bind fun o => if o.kind = v.kind then some o else none
/-- The value denotes a table. -/
def htab (st : Hst) (v : Vl) : Option Tb := (hfind st v).bind fun o => if o.kind = 4 then some o.tab else none
def newO (kind tag : Int) (name : ByteArray) (vals : List Vl) : Hob := ⟨kind, tag, name, noTb, zVl, vals⟩
def hmakeV (st : Hst) (kind : Int) : Vl := if 65536 ≤ st.count then zVl else refV kind ((st.objs.length : Int) + 1)
def hmakeE (st : Hst) : Int := if 65536 ≤ st.count then 17 else 0
def hmake (st : Hst) (o : Hob) : Hst := if 65536 ≤ st.count then st else ⟨st.objs ++ [some o], st.tch ++ [true]⟩
def elemE (v : Vl) : Int := if v.kind = 3 ∧ 4096 < (v.str.size : Int) then 14 else if validB v = false then 2 else 0
def hgetV (st : Hst) (t k : Vl) : Vl := match htab st t with
  | some T => tget T k
  | none => zVl
def hgetE (st : Hst) (t : Vl) : Int := if (htab st t).isSome then 0 else 8
def hsetE (st : Hst) (t k v : Vl) : Int := match htab st t with
  | none => 8
  | some T => if okKey k = false then 13 else elemE v
def Hst.setTab (st : Hst) (id : Int) (T : Tb) : Hst := match st.get id with
  | some o => st.put id { o with tab := T }
  | none => st
def hset (st : Hst) (t k v : Vl) : Hst := match htab st t with
  | none => st
  | some T => if okKey k = false then st else if elemE v ≠ 0 then st else (st.setTab t.ref (tset T k v)).touch t.ref
def hmeta (st : Hst) (v : Vl) : Vl := match hfind st v with
  | some o => o.mt
  | none => zVl
def hmetaOk (st : Hst) (v m : Vl) : Bool := match hfind st v with
  | some o => (decide (o.kind = 4) || decide (o.kind = 8)) && (decide (m = zVl) || (htab st m).isSome)
  | none => false
def hsetMetaE (st : Hst) (v m : Vl) : Int := if hmetaOk st v m = true then 0 else 8
def Hst.setMt (st : Hst) (id : Int) (m : Vl) : Hst := match st.get id with
  | some o => st.put id { o with mt := m }
  | none => st
def hsetMeta (st : Hst) (v m : Vl) : Hst := if hmetaOk st v m = true then (st.setMt v.ref m).touch v.ref else st
/-- An object as the calls leave it. -/
structure ObInv (o : Hob) : Prop where
  kind : isRef o.kind = true
  tab : TInv o.tab
  mt : o.kind ≠ 4 → o.kind ≠ 8 → o.mt = zVl
structure HInv (st : Hst) : Prop where
  obs : ∀ o, some o ∈ st.objs → ObInv o
  tch : st.tch.length = st.objs.length
/-- How large a heap is after n calls. -/
structure HSm (n : Nat) (st : Hst) : Prop where
  len : st.objs.length ≤ n
  obs : ∀ o, some o ∈ st.objs → o.tab.rest.length ≤ n ∧ o.tab.list.length ≤ n * (n + 1) ∧ o.vals.length ≤ n + 20
theorem HInv.nil : HInv hp0 := ⟨fun _ h => (by cases h), rfl⟩
theorem HSm.nil : HSm 0 hp0 := ⟨Nat.le_refl _, fun _ h => (by cases h)⟩
theorem HSm.mono {n m : Nat} {st : Hst} (h : HSm n st) (hnm : n ≤ m) : HSm m st := ⟨Nat.le_trans h.len hnm, fun o ho => by
  obtain ⟨a, b, c⟩ := h.obs o ho
  have : n * (n + 1) ≤ m * (m + 1) := Nat.mul_le_mul hnm (by omega)
  exact ⟨by omega, by omega, by omega⟩⟩
theorem get_mem {st : Hst} {id : Int} {o : Hob} (h : st.get id = some o) : some o ∈ st.objs ∧ 1 ≤ id ∧ id ≤ st.objs.length ∧ st.objs[id.toNat - 1]? = some (some o) := by
  unfold Hst.get at h
  split at h
  · rename_i h1
    cases hx : st.objs[id.toNat - 1]? with
    | none => rw [hx] at h; cases h
    | some x =>
      rw [hx] at h
      simp at h
      subst h
      have := (List.getElem?_eq_some_iff.1 hx).1
      exact ⟨List.mem_of_getElem? hx, h1, by omega, rfl⟩
  · cases h
theorem hfind_some {st : Hst} {v : Vl} {o : Hob} (h : hfind st v = some o) : st.get v.ref = some o ∧ o.kind = v.kind := by
  unfold hfind at h
  cases hg : st.get v.ref with
  | none => rw [hg] at h; cases h
  | some x =>
    rw [hg] at h
    simp only [Option.bind_some] at h
    split at h
    · injection h with e; subst e; exact ⟨rfl, by assumption⟩
    · cases h
theorem hfind_is {st : Hst} {v : Vl} {o : Hob} (h : st.get v.ref = some o) (hk : o.kind = v.kind) : hfind st v = some o := by unfold hfind; rw [h]; simp [hk]
theorem hfind_kind {st : Hst} {v : Vl} {o : Hob} (h : st.get v.ref = some o) (hk : o.kind ≠ v.kind) : hfind st v = none := by unfold hfind; rw [h]; simp [hk]
theorem hfind_none {st : Hst} {v : Vl} (h : st.get v.ref = none) : hfind st v = none := by unfold hfind; rw [h]; rfl
theorem htab_some {st : Hst} {v : Vl} {T : Tb} (h : htab st v = some T) : ∃ o, hfind st v = some o ∧ st.get v.ref = some o ∧ o.kind = 4 ∧ v.kind = 4 ∧ o.tab = T := by
  unfold htab at h
  cases hf : hfind st v with
  | none => rw [hf] at h; cases h
  | some o =>
    rw [hf] at h
    simp only [Option.bind_some] at h
    split at h
    · rename_i h4
      obtain ⟨a, b⟩ := hfind_some hf
      injection h with e
      exact ⟨o, rfl, a, h4, by omega, e⟩
    · cases h
theorem htab_is {st : Hst} {v : Vl} {o : Hob} (h : hfind st v = some o) (h4 : o.kind = 4) : htab st v = some o.tab := by unfold htab; rw [h]; simp [h4]
theorem htab_not {st : Hst} {v : Vl} {o : Hob} (h : hfind st v = some o) (h4 : o.kind ≠ 4) : htab st v = none := by unfold htab; rw [h]; simp [h4]
theorem htab_none {st : Hst} {v : Vl} (h : hfind st v = none) : htab st v = none := by unfold htab; rw [h]; rfl
theorem get_put {st : Hst} {id : Int} {o o' : Hob} (h : st.get id = some o) (id' : Int) : (st.put id o').get id' = if id' = id then some o' else st.get id' := by
  obtain ⟨_, h1, h2, h3⟩ := get_mem h
  unfold Hst.get Hst.put
  by_cases e : id' = id
  · subst e
    rw [if_pos h1, if_pos rfl, List.getElem?_set_self (by omega)]; rfl
  · rw [if_neg e]
    by_cases hp : 1 ≤ id'
    · rw [if_pos hp, if_pos hp, List.getElem?_set_ne (by omega)]
    · rw [if_neg hp, if_neg hp]
theorem get_touch (st : Hst) (i id : Int) : (st.touch i).get id = st.get id := rfl
theorem mem_put {st : Hst} {id : Int} {o x : Hob} (h : some x ∈ (st.put id o).objs) : some x ∈ st.objs ∨ x = o := by
  rcases List.mem_or_eq_of_mem_set h with h | h
  · exact .inl h
  · exact .inr (Option.some.inj h)
theorem put_inv {st : Hst} (h : HInv st) {id : Int} {o : Hob} (ho : ObInv o) : HInv (st.put id o) := by
  refine ⟨fun x hx => ?_, ?_⟩
  · rcases mem_put hx with hx | rfl
    · exact h.obs x hx
    · exact ho
  · unfold Hst.put; simp only [List.length_set]; exact h.tch
theorem touch_inv {st : Hst} (h : HInv st) (id : Int) : HInv (st.touch id) := by
  refine ⟨h.obs, ?_⟩
  unfold Hst.touch; simp only [List.length_set]; exact h.tch
theorem hset_cases (st : Hst) (t k v : Vl) : (htab st t = none ∧ hset st t k v = st ∧ hsetE st t k v = 8) ∨ (∃ T, htab st t = some T ∧ okKey k = false ∧ hset st t k v = st ∧ hsetE st t k v = 13) ∨ (∃ T, htab st t = some T ∧ okKey k = true ∧ elemE v ≠ 0 ∧ hset st t k v = st ∧ hsetE st t k v = elemE v) ∨
    ∃ T o, htab st t = some T ∧ okKey k = true ∧ elemE v = 0 ∧ validB v = true ∧ st.get t.ref = some o ∧ o.kind = 4 ∧ t.kind = 4 ∧ o.tab = T ∧ hset st t k v = (st.put t.ref { o with tab := tset T k v }).touch t.ref ∧ hsetE st t k v = 0 := by
  unfold hset hsetE
  cases hT : htab st t with
  | none => exact .inl ⟨rfl, rfl, rfl⟩
  | some T =>
    simp only
    cases hk : okKey k with
    | false => exact .inr (.inl ⟨T, rfl, rfl, by simp, by simp⟩)
    | true =>
      by_cases he : elemE v = 0
      · obtain ⟨o, h1, h2, h3, h4, h5⟩ := htab_some hT
        refine .inr (.inr (.inr ⟨T, o, rfl, rfl, he, ?_, h2, h3, h4, h5, ?_, ?_⟩))
        · unfold elemE at he
          split at he
          · cases he
          · split at he
            · cases he
            · rename_i hv; simpa using hv
        · unfold Hst.setTab; rw [h2]; simp [he]
        · simp [he]
      · exact .inr (.inr (.inl ⟨T, rfl, rfl, he, by simp [he], by simp⟩))
theorem hset_inv {st : Hst} (h : HInv st) (t k v : Vl) : HInv (hset st t k v) := by
  rcases hset_cases st t k v with ⟨_, e, _⟩ | ⟨_, _, _, e, _⟩ | ⟨_, _, _, _, e, _⟩ | ⟨T, o, h1, h2, h3, hv, h4, h5, h6, h7, e, _⟩
  · rw [e]; exact h
  · rw [e]; exact h
  · rw [e]; exact h
  · rw [e]
    have ho := h.obs o (get_mem h4).1
    refine touch_inv (put_inv h (o := { o with tab := tset T k v }) ⟨ho.kind, ?_, ho.mt⟩) _
    rw [← h7]; exact tset_inv ho.tab k v
theorem hset_sm {n : Nat} {st : Hst} (hi : HInv st) (h : HSm n st) (t k v : Vl) : HSm (n + 1) (hset st t k v) := by
  rcases hset_cases st t k v with ⟨_, e, _⟩ | ⟨_, _, _, e, _⟩ | ⟨_, _, _, _, e, _⟩ | ⟨T, o, h1, h2, h3, hv, h4, h5, h6, h7, e, _⟩
  · rw [e]; exact h.mono (by omega)
  · rw [e]; exact h.mono (by omega)
  · rw [e]; exact h.mono (by omega)
  · rw [e]
    have hm := h.mono (Nat.le_succ n)
    have ho := h.obs o (get_mem h4).1
    have hl := tset_len (hi.obs o (get_mem h4).1).tab k v
    refine ⟨by show (st.objs.set _ _).length ≤ _; rw [List.length_set]; exact hm.len, fun x hx => ?_⟩
    rcases mem_put hx with hx | rfl
    · exact hm.obs x hx
    · have : (n + 1) * (n + 1 + 1) = n * (n + 1) + 2 * (n + 1) := by simp only [Nat.add_mul, Nat.mul_add]; omega
      rw [← h7]
      exact ⟨by show (tset o.tab k v).rest.length ≤ _; omega, by show (tset o.tab k v).list.length ≤ _; omega, by show o.vals.length ≤ _; omega⟩
theorem hmake_inv {st : Hst} (h : HInv st) {o : Hob} (ho : ObInv o) : HInv (hmake st o) := by
  unfold hmake
  split
  · exact h
  · refine ⟨fun x hx => ?_, by simp [h.tch]⟩
    rcases List.mem_append.1 hx with hx | hx
    · exact h.obs x hx
    · rw [List.mem_singleton] at hx; injection hx with hx; rw [hx]; exact ho
theorem hmake_sm {n : Nat} {st : Hst} (h : HSm n st) {o : Hob} (h1 : o.tab = noTb) (h2 : o.vals.length ≤ 20) : HSm (n + 1) (hmake st o) := by
  have hm := h.mono (Nat.le_succ n)
  unfold hmake
  split
  · exact hm
  · refine ⟨by simp; exact h.len, fun x hx => ?_⟩
    rcases List.mem_append.1 hx with hx | hx
    · exact hm.obs x hx
    · rw [List.mem_singleton] at hx; injection hx with hx; rw [hx, h1]
      exact ⟨Nat.zero_le _, Nat.zero_le _, by omega⟩
theorem newO_inv {kind : Int} (tag : Int) (name : ByteArray) (vals : List Vl) (hk : isRef kind = true) : ObInv (newO kind tag name vals) := ⟨hk, TInv.nil, fun _ _ => rfl⟩
theorem hsetMeta_cases (st : Hst) (v m : Vl) : (hsetMeta st v m = st ∧ hsetMetaE st v m = 8 ∧ hmetaOk st v m = false) ∨ ∃ o, st.get v.ref = some o ∧ o.kind = v.kind ∧ (o.kind = 4 ∨ o.kind = 8) ∧ hsetMeta st v m = (st.put v.ref { o with mt := m }).touch v.ref ∧ hsetMetaE st v m = 0 ∧ hmetaOk st v m = true := by
  unfold hsetMeta hsetMetaE
  cases hb : hmetaOk st v m with
  | false => exact .inl ⟨rfl, rfl, rfl⟩
  | true =>
    unfold hmetaOk at hb
    cases hf : hfind st v with
    | none => rw [hf] at hb; cases hb
    | some o =>
      rw [hf] at hb
      obtain ⟨h1, h2⟩ := hfind_some hf
      simp only [Bool.and_eq_true, Bool.or_eq_true, decide_eq_true_eq] at hb
      refine .inr ⟨o, h1, h2, hb.1, ?_, rfl, rfl⟩
      unfold Hst.setMt; rw [h1]; rfl
theorem hsetMeta_inv {st : Hst} (h : HInv st) (v m : Vl) : HInv (hsetMeta st v m) := by
  rcases hsetMeta_cases st v m with ⟨e, _⟩ | ⟨o, h1, _, h2, e, _⟩
  · rw [e]; exact h
  · rw [e]
    have ho := h.obs o (get_mem h1).1
    exact touch_inv (put_inv h (o := { o with mt := m }) ⟨ho.kind, ho.tab, fun a b => by rcases h2 with h | h <;> contradiction⟩) _
theorem hsetMeta_sm {n : Nat} {st : Hst} (h : HSm n st) (v m : Vl) : HSm (n + 1) (hsetMeta st v m) := by
  rcases hsetMeta_cases st v m with ⟨e, _⟩ | ⟨o, h1, _, h2, e, _⟩
  · rw [e]; exact h.mono (by omega)
  · rw [e]
    have hm := h.mono (Nat.le_succ n)
    refine ⟨by show (st.objs.set _ _).length ≤ _; rw [List.length_set]; exact hm.len, fun x hx => ?_⟩
    rcases mem_put hx with hx | rfl
    · exact hm.obs x hx
    · exact hm.obs o (get_mem h1).1
/-! ### Objects beside a map of their places -/
def ob0 : Hob := ⟨0, 0, ByteArray.empty, noTb, zVl, []⟩
def Hst.ob (st : Hst) (id : Int) : Hob := (st.get id).getD ob0
theorem ob_get {st : Hst} {id : Int} {o : Hob} (h : st.get id = some o) : st.ob id = o := by unfold Hst.ob; rw [h]; rfl
theorem get_end (st : Hst) : st.get ((st.objs.length : Int) + 1) = none := by
  unfold Hst.get
  rw [if_pos (by omega), show ((st.objs.length : Int) + 1).toNat - 1 = st.objs.length by omega, List.getElem?_eq_none (Nat.le_refl _)]; rfl
theorem get_snoc (st : Hst) (o : Hob) (tch : List Bool) (id : Int) : Hst.get ⟨st.objs ++ [some o], tch⟩ id = if id = (st.objs.length : Int) + 1 then some o else st.get id := by
  unfold Hst.get
  by_cases h : id = (st.objs.length : Int) + 1
  · subst h
    rw [if_pos rfl, if_pos (by omega)]
    show ((st.objs ++ [some o])[_]?).bind _ = _
    rw [show ((st.objs.length : Int) + 1).toNat - 1 = st.objs.length by omega, List.getElem?_append_right (Nat.le_refl _)]; simp
  · rw [if_neg h]
    by_cases hp : 1 ≤ id
    · rw [if_pos hp, if_pos hp]
      show ((st.objs ++ [some o])[_]?).bind _ = _
      by_cases hl : id.toNat - 1 < st.objs.length
      · rw [List.getElem?_append_left hl]
      · rw [List.getElem?_eq_none (by simp; omega), List.getElem?_eq_none (by omega)]
    · rw [if_neg hp, if_neg hp]
theorem count_snoc (st : Hst) (o : Hob) (tch : List Bool) : Hst.count ⟨st.objs ++ [some o], tch⟩ = st.count + 1 := by unfold Hst.count; simp
theorem countP_set {α : Type} {p : α → Bool} : ∀ (l : List α) {i : Nat} {x y : α}, l[i]? = some x → p x = p y → (l.set i y).countP p = l.countP p
  | [], _, _, _, h, _ => by cases h
  | a :: r, 0, x, y, h, e => by
    simp only [List.getElem?_cons_zero, Option.some.injEq] at h
    subst h; simp [List.countP_cons, e]
  | a :: r, i + 1, x, y, h, e => by
    simp only [List.getElem?_cons_succ] at h
    simp [List.countP_cons, countP_set r h e]
theorem count_put {st : Hst} {id : Int} {o o' : Hob} (h : st.get id = some o) : (st.put id o').count = st.count := by
  obtain ⟨_, h1, h2, h3⟩ := get_mem h
  exact countP_set _ h3 rfl
end Go.Proofs.YtmhpcebiamkciaaGreat
end
section
set_option linter.unusedSimpArgs false
set_option linter.unusedVariables false
namespace Go.Proofs.YtmhpcebiamkciaaGreat
open Go.S Go.J Go.Hp
open Go.Mem (aget aset adel apos aget_aset aget_adel)
/-- The map of objects: where each lies (its block, the block of its table). -/
structure HA (ps : List (Int × (Nat × Nat))) (st : Hst) : Prop where
  has : ∀ id, (aget ps id).isSome = (st.get id).isSome
  len : ps.length = st.count
def TA (tm : List (Int × Bool)) (st : Hst) : Prop := ∀ id o, st.get id = some o → (aget tm id).isSome = (st.tch[id.toNat - 1]?).getD false
abbrev ptrV (g : Nat) : Value := .pointer (some ⟨g, 0, none⟩)
def fndV (ps : List (Int × (Nat × Nat))) (st : Hst) (v : Vl) : Value := match hfind st v, aget ps v.ref with
  | some _, some q => ptrV q.1
  | _, _ => .pointer none
def tabV (q : Nat × Nat) (o : Hob) : Value := if o.kind = 4 then ptrV q.2 else .pointer none
def tbV (ps : List (Int × (Nat × Nat))) (st : Hst) (v : Vl) : Value := match hfind st v, aget ps v.ref with
  | some o, some q => tabV q o
  | _, _ => .pointer none
theorem get_cases {ps : List (Int × (Nat × Nat))} {st : Hst} (h : HA ps st) (id : Int) : (st.get id = none ∧ aget ps id = none) ∨ ∃ o q, st.get id = some o ∧ aget ps id = some q := by
  have := h.has id
  cases h1 : st.get id with
  | none => rw [h1] at this; exact .inl ⟨rfl, by cases h2 : aget ps id with | none => rfl | some q => rw [h2] at this; cases this⟩
  | some o => rw [h1] at this; exact .inr (by cases h2 : aget ps id with | none => rw [h2] at this; cases this | some q => exact ⟨o, q, rfl, rfl⟩)
theorem fnd_cases {ps : List (Int × (Nat × Nat))} {st : Hst} (h : HA ps st) (v : Vl) : (hfind st v = none ∧ htab st v = none ∧ fndV ps st v = .pointer none ∧ tbV ps st v = .pointer none) ∨ ∃ o q, hfind st v = some o ∧ st.get v.ref = some o ∧ o.kind = v.kind ∧ aget ps v.ref = some q ∧ fndV ps st v = ptrV q.1 ∧ tbV ps st v = tabV q o := by
  cases hf : hfind st v with
  | none => exact .inl ⟨rfl, htab_none hf, by unfold fndV; rw [hf], by unfold tbV; rw [hf]⟩
  | some o =>
    obtain ⟨h1, h2⟩ := hfind_some hf
    rcases get_cases h v.ref with ⟨h3, _⟩ | ⟨o', q, h3, h4⟩
    · rw [h1] at h3; cases h3
    · exact .inr ⟨o, q, rfl, h1, h2, h4, by unfold fndV; rw [hf, h4], by unfold tbV; rw [hf, h4]⟩
theorem tb_cases {ps : List (Int × (Nat × Nat))} {st : Hst} (h : HA ps st) (v : Vl) : (htab st v = none ∧ tbV ps st v = .pointer none) ∨ ∃ o q, htab st v = some o.tab ∧ st.get v.ref = some o ∧ o.kind = 4 ∧ v.kind = 4 ∧ aget ps v.ref = some q ∧ tbV ps st v = ptrV q.2 := by
  rcases fnd_cases h v with ⟨h1, h2, h3, h4⟩ | ⟨o, q, h1, h2, h3, h4, h5, h6⟩
  · exact .inl ⟨h2, h4⟩
  · by_cases hk : o.kind = 4
    · exact .inr ⟨o, q, htab_is h1 hk, h2, hk, by omega, h4, by rw [h6]; unfold tabV; rw [if_pos hk]⟩
    · exact .inl ⟨htab_not h1 hk, by rw [h6]; unfold tabV; rw [if_neg hk]⟩
theorem HA.nil : HA [] hp0 := ⟨fun id => by unfold Hst.get hp0; by_cases h : 1 ≤ id <;> simp [h, aget], rfl⟩
theorem TA.nil : TA [] hp0 := fun id o h => by
  have := (get_mem h).1
  cases this
theorem HA.put {ps : List (Int × (Nat × Nat))} {st : Hst} (h : HA ps st) {id : Int} {o o' : Hob} (hg : st.get id = some o) : HA ps (st.put id o') := by
  refine ⟨fun id' => ?_, by rw [h.len, count_put hg]⟩
  rw [h.has, get_put hg]
  by_cases e : id' = id
  · subst e; rw [hg, if_pos rfl]; rfl
  · rw [if_neg e]
theorem HA.touch {ps : List (Int × (Nat × Nat))} {st : Hst} (h : HA ps st) (id : Int) : HA ps (st.touch id) := ⟨h.has, h.len⟩
theorem TA.put {tm : List (Int × Bool)} {st : Hst} (h : TA tm st) {id : Int} {o o' : Hob} (hg : st.get id = some o) : TA tm (st.put id o') := fun id' x hx => by
  rw [get_put hg] at hx
  show _ = (st.tch[_]?).getD false
  by_cases e : id' = id
  · subst e; exact h id' o hg
  · rw [if_neg e] at hx; exact h id' x hx
theorem TA.touch {tm : List (Int × Bool)} {st : Hst} (h : TA tm st) (hi : HInv st) {id : Int} {o : Hob} (hg : st.get id = some o) : TA (aset tm id true) (st.touch id) := fun id' x hx => by
  obtain ⟨_, h1, h2, _⟩ := get_mem hg
  obtain ⟨_, h3, h4, _⟩ := get_mem (show st.get id' = some x from hx)
  have ht := hi.tch
  show _ = ((st.tch.set _ true)[_]?).getD false
  rw [aget_aset]
  by_cases e : id' = id
  · subst e; rw [if_pos rfl, List.getElem?_set_self (by omega)]; rfl
  · rw [if_neg e, List.getElem?_set_ne (by omega)]; exact h id' x hx
theorem HA.make {ps : List (Int × (Nat × Nat))} {st : Hst} (h : HA ps st) (o : Hob) (q : Nat × Nat) (hf : st.count < 65536) : HA (aset ps ((st.objs.length : Int) + 1) q) (hmake st o) := by
  unfold hmake
  rw [if_neg (by omega)]
  have hnone : aget ps ((st.objs.length : Int) + 1) = none := by
    have := h.has ((st.objs.length : Int) + 1)
    rw [get_end] at this
    cases hx : aget ps ((st.objs.length : Int) + 1) with
    | none => rfl
    | some q => rw [hx] at this; cases this
  refine ⟨fun id => ?_, ?_⟩
  · rw [aget_aset, get_snoc]
    by_cases e : id = (st.objs.length : Int) + 1
    · rw [if_pos e, if_pos e]; rfl
    · rw [if_neg e, if_neg e]; exact h.has id
  · rw [count_snoc, ← h.len]
    have : apos ps ((st.objs.length : Int) + 1) = none := by
      cases hp : apos ps ((st.objs.length : Int) + 1) with
      | none => rfl
      | some i => obtain ⟨_, y, _, h2⟩ := Go.Mem.apos_lt hp; rw [hnone] at h2; cases h2
    rw [Go.Mem.aset_new this]; simp
theorem TA.make {tm : List (Int × Bool)} {st : Hst} (h : TA tm st) (hi : HInv st) (o : Hob) (hf : st.count < 65536) : TA (aset tm ((st.objs.length : Int) + 1) true) (hmake st o) := fun id x hx => by
  unfold hmake at hx ⊢
  rw [if_neg (by omega)] at hx ⊢
  rw [get_snoc] at hx
  have ht := hi.tch
  show _ = ((st.tch ++ [true])[_]?).getD false
  rw [aget_aset]
  by_cases e : id = (st.objs.length : Int) + 1
  · rw [if_pos e, e, show ((st.objs.length : Int) + 1).toNat - 1 = st.objs.length by omega, List.getElem?_append_right (by omega)]; simp [ht]
  · rw [if_neg e] at hx ⊢
    obtain ⟨_, h1, h2, _⟩ := get_mem hx
    rw [List.getElem?_append_left (by omega)]; exact h id x hx
end Go.Proofs.YtmhpcebiamkciaaGreat
end
