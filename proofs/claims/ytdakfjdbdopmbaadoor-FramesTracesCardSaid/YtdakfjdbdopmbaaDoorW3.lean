/-
  The texts of numbers, by the program and by the reference.
-/
import Derived.Test.YtdakfjdbdopmbaaDoorW2
import Derived.Test.YtdakfjdbdopmbaaDoorItoa
set_option linter.unusedSimpArgs false
set_option linter.unusedVariables false
set_option maxRecDepth 100000
namespace Go.Proofs.YtdakfjdbdopmbaaDoor
open Go.Hp Go.J Go.S
open Go.Mem (Ty KTy blk elemAt pre suf blk_pre blk_suf aget aset strK aggDesc)
open Go.Lib (decDigits itoa)
theorem validN_b {p q : Int} (h : validN p q = true) : 1 ≤ q ∧ q ≤ 2147483647 ∧ -2147483647 ≤ p ∧ p ≤ 2147483647 := by
  simp only [validN, Bool.and_eq_true, decide_eq_true_eq] at h; exact ⟨h.1, h.2.1, h.2.2.1, h.2.2.2.1⟩
theorem itoaB_size {n : Int} (h0 : -9223372036854775808 ≤ n) (h1 : n ≤ 9223372036854775807) : (itoaB n).size ≤ 21 := by
  show (itoa n).toArray.size ≤ 21
  rw [List.size_toArray, itoa]; split
  · rw [List.length_cons]; have := dec_len (U := n.natAbs) (by omega); omega
  · have := dec_len (U := n.toNat) (by omega); omega
theorem sz_mk (l : List UInt8) : (ByteArray.mk l.toArray).size = l.length := rfl
def numT (p q : Int) : ByteArray := if validN p q then (if q = 1 then itoaB p else itoaB p ++ ⟨#[47]⟩ ++ itoaB q) else ⟨#[110, 97, 110]⟩
theorem ntext_s {Z : Zone} (ht : KnTab Z) (p q : Int) : SF Tryd.prog 43 #[.agg #[.int .i64 p, .int .i64 q]] Z [] fun v Bs => v = .string (numT p q) ∧ Bs = [] := by
  refine sf_enter Tryd.func43 20 [(0, .agg #[.int .i64 p, .int .i64 q])] (fun w0 => ?_)
  refine k_seq ?_
  refine k_reg ?_
  refine s_box #[.int .i64 p, .int .i64 q] (fun g1 => ?_)
  refine s_lt (t_pure (.string ByteArray.empty)) ?_
  refine s_nil ?_
  refine xs_then ?_
  refine k_seq ?_
  refine k_seq ?_
  refine k_reg ?_
  refine s_lt (t_loadA 0 #[.int .i64 p, .int .i64 q]) ?_
  refine s_vcall (fun _ h => vnum_s p q) ?_
  rintro _ rfl
  refine s_lt (t_pure (.bool (!(validN p q)))) ?_
  refine s_nil ?_
  refine xs_then ?_
  refine k_cond (!(validN p q)) (fun c2 => ?_) (fun c2 => ?_)
  ·
    have c3 := not_t c2
    refine k_seq ?_
    refine k_reg ?_
    refine s_lt (t_pure (.string ⟨#[110, 97, 110]⟩)) ?_
    refine s_nil ?_
    refine xs_then ?_
    refine k_ret ?_
    refine xs_ret ?_
    refine xs_fin [.string ⟨#[110, 97, 110]⟩] [] (SI.tmp 2 SI.nil) (fun _ h => h.re [] [0]) ⟨?_, rfl⟩
    first | (rw [numT, if_pos c3, if_pos c3]; rfl) | (rw [numT, if_pos c3, if_neg c3]; rfl) | (rw [numT, if_neg (by simp [c3])]; rfl)
  ·
    have c4 := not_f c2
    refine k_skip ?_
    refine xs_then ?_
    refine k_seq ?_
    refine k_seq ?_
    have hb := validN_b (p := p) (q := q) (by first | exact c4 | simpa using c4)
    refine k_reg ?_
    refine s_lt (t_pure (.pointer (some ⟨g1, 1, none⟩))) ?_
    refine s_lt (t_load 0 (.int .i64 q)) ?_
    refine s_lt t_cmp ?_
    refine s_nil ?_
    refine xs_then ?_
    refine k_cond (decide (q = 1)) (fun c5 => ?_) (fun c5 => ?_)
    ·
      have p6 := of_decide_eq_true c5
      refine k_seq ?_
      refine k_reg ?_
      refine s_lt (t_pure (.pointer (some ⟨g1, 0, none⟩))) ?_
      refine s_lt (t_load 0 (.int .i64 p)) ?_
      have z7 := itoaB_size (n := p) (by omega) (by omega)
      refine s_vcall (fun _ h => itoa_s (ht.at h) p (by omega) (by omega)) ?_
      rintro _ rfl
      refine s_lt (t_pure (.string (itoaB p))) ?_
      refine s_nil ?_
      refine xs_then ?_
      refine k_ret ?_
      refine xs_ret ?_
      refine xs_fin [.string (itoaB p)] [] (SI.tmp 2 SI.nil) (fun _ h => h.re [] [0]) ⟨?_, rfl⟩
      first | (rw [numT, if_pos c4, if_pos c4]; rfl) | (rw [numT, if_pos c4, if_neg c4]; rfl) | (rw [numT, if_neg (by simp [c4])]; rfl) | (rw [numT, if_pos c4, if_pos p6]; rfl) | (rw [numT, if_pos c4, if_neg p6]; rfl) | (rw [numT, if_neg (by simp [c4])]; rfl) | (rw [numT, if_pos p6, if_pos c4]; rfl) | (rw [numT, if_pos p6, if_neg c4]; rfl) | (rw [numT, if_neg (by simp [p6])]; rfl) | (rw [numT, if_pos p6, if_pos p6]; rfl) | (rw [numT, if_pos p6, if_neg p6]; rfl) | (rw [numT, if_neg (by simp [p6])]; rfl)
    ·
      have p8 := of_decide_eq_false c5
      refine k_skip ?_
      refine xs_then ?_
      refine k_seq ?_
      refine k_held [blkA g1 #[.int .i64 p, .int .i64 q] 37] ?_
      refine h_lt 0 rfl (np_then np_finS) [0] (fun _ => (t_pure (.pointer (some ⟨g1, 0, none⟩)))) ?_
      refine h_lt 1 rfl (np_then np_finS) [0] (fun _ => (t_load 0 (.int .i64 p))) ?_
      refine h_lt 4 rfl (np_then np_finS) [0] (fun _ => (t_pure (.pointer (some ⟨g1, 1, none⟩)))) ?_
      refine h_lt 5 rfl (np_then np_finS) [0] (fun _ => (t_load 0 (.int .i64 q))) ?_
      refine h_stepS 2 ?_
      have z9 := itoaB_size (n := p) (by omega) (by omega)
      refine s_vcall (fun _ h => itoa_s (ht.at h) p (by omega) (by omega)) ?_
      rintro _ rfl
      refine s_nil (xs_held [0] ?_)
      refine h_lt 3 rfl (np_then np_finS) [0] (fun _ => (t_cat (itoaB p) ⟨#[47]⟩ (by simp only [ByteArray.size_append, sz_mk, List.length_cons, List.length_nil]; omega))) ?_
      refine h_stepS 6 ?_
      have z10 := itoaB_size (n := q) (by omega) (by omega)
      refine s_vcall (fun _ h => itoa_s (ht.at h) q (by omega) (by omega)) ?_
      rintro _ rfl
      refine s_nil (xs_held [0] ?_)
      refine h_lt 7 rfl (np_then np_finS) [0] (fun _ => (t_cat ((itoaB p) ++ ⟨#[47]⟩) (itoaB q) (by simp only [ByteArray.size_append, sz_mk, List.length_cons, List.length_nil]; omega))) ?_
      refine h_lt 8 rfl (np_then np_finS) [0] (fun _ => (t_pure (.string (((itoaB p) ++ ⟨#[47]⟩) ++ (itoaB q))))) ?_
      refine h_doneS ?_
      refine xs_then ?_
      refine k_ret ?_
      refine xs_fin [.string (((itoaB p) ++ ⟨#[47]⟩) ++ (itoaB q))] [] (SI.tmp 2 SI.nil) (fun _ h => h.re [] [0]) ⟨?_, rfl⟩
      first | (rw [numT, if_pos c4, if_pos c4]; rfl) | (rw [numT, if_pos c4, if_neg c4]; rfl) | (rw [numT, if_neg (by simp [c4])]; rfl) | (rw [numT, if_pos c4, if_pos p8]; rfl) | (rw [numT, if_pos c4, if_neg p8]; rfl) | (rw [numT, if_neg (by simp [c4])]; rfl) | (rw [numT, if_pos p8, if_pos c4]; rfl) | (rw [numT, if_pos p8, if_neg c4]; rfl) | (rw [numT, if_neg (by simp [p8])]; rfl) | (rw [numT, if_pos p8, if_pos p8]; rfl) | (rw [numT, if_pos p8, if_neg p8]; rfl) | (rw [numT, if_neg (by simp [p8])]; rfl)
end Go.Proofs.YtdakfjdbdopmbaaDoor
