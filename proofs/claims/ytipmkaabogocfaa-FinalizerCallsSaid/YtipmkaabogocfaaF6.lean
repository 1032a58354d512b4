/-
  FinalizerOrder and FinalizerNone walked; a call of any kind. No condition but that the arguments are what the types say.
-/
import Derived.Test.YtipmkaabogocfaaF5
set_option linter.unusedSimpArgs false
set_option linter.unusedVariables false
set_option maxRecDepth 100000
set_option maxHeartbeats 2000000
namespace Go.Proofs.Ytipmkaabogocfaa
open Go.Hp Go.J Go.S
open Go.Mem (Ty KTy blk elemAt pre suf blk_pre blk_suf aget aset strK aggDesc)
def cntI (L : List Int) (n : Int) : Nat := (L.filter fun x => decide (x = n)).length
theorem cnt_yes {L : List Int} {i : Nat} {y n : Int} (h : L[i]? = some y) (e : y = n) : cntI (L.take (i + 1)) n = cntI (L.take i) n + 1 := by
  unfold cntI; rw [← take_snoc h, List.filter_append, List.length_append]; simp [e]
theorem cnt_no {L : List Int} {i : Nat} {y n : Int} (h : L[i]? = some y) (e : ¬ y = n) : cntI (L.take (i + 1)) n = cntI (L.take i) n := by
  unfold cntI; rw [← take_snoc h, List.filter_append, List.length_append]; simp [e]
theorem cnt_le (L : List Int) (n : Int) : cntI L n ≤ L.length := List.length_filter_le _ _
theorem cnt_pos {L : List Int} {n : Int} : 0 < cntI L n ↔ n ∈ L := by
  unfold cntI; rw [List.length_pos_iff_exists_mem]
  constructor
  · rintro ⟨x, hx⟩; simp at hx; rw [← hx.2]; exact hx.1
  · intro h; exact ⟨n, by simp [h]⟩
theorem add_ok {reg : List Int} {id : Int} (h : addI reg id = 0) : addL reg id = reg ++ [id] := by
  unfold addI at h; unfold addL
  split at h
  · cases h
  · split at h
    · cases h
    · rename_i h1 h2; rw [if_neg h1, if_neg h2]
theorem add_no {reg : List Int} {id : Int} (h : addI reg id ≠ 0) : addL reg id = reg := by
  unfold addI at h; unfold addL
  split
  · rfl
  · rename_i h1
    split
    · rfl
    · rename_i h2; rw [if_neg h1, if_neg h2] at h; exact absurd rfl h
theorem stay_in {A r : List Int} {x : Int} (h : x ∈ A) : stayL A (r ++ [x]) = stayL A r ++ [x] ∧ lostL A (r ++ [x]) = lostL A r := by simp [stayL, lostL, List.filter_append, h]
theorem stay_out {A r : List Int} {x : Int} (h : x ∉ A) : stayL A (r ++ [x]) = stayL A r ∧ lostL A (r ++ [x]) = lostL A r ++ [x] := by simp [stayL, lostL, List.filter_append, h]
theorem count_s {Z : Zone} {lv : Value} {L : List Int} (hL : Kn Z iTy lv L) (n : Int) (hl : L.length ≤ 1000000) : SF Try.prog 13 #[lv, .int .i64 n] Z [] fun r Bs => r = .int .i64 (cntI L n : Int) ∧ Bs = [] := by
  refine sf_enter Try.func13 22 [(0, lv), (1, .int .i64 n)] (fun w0 => ?_)
  refine k_fact (fun H h => (hL.get h).len_le) (fun lA => ?_)
  refine k_seq ?_
  refine k_reg ?_
  refine s_lt (t_pure (.int .i64 0)) ?_
  refine s_nil ?_
  refine xs_then ?_
  refine k_seq ?_
  refine k_reg ?_
  refine s_lt (t_pure (.int .i64 0)) ?_
  refine s_nil ?_
  refine xs_then ?_
  refine k_seq ?_
  refine k_seq ?_
  refine k_reg ?_
  refine s_lt (t_pure lv) ?_
  refine s_lt (t_len iTy_ok Try.underlying22 (.zn hL)) ?_
  refine s_lt (t_pure (.int .i64 0)) ?_
  refine s_nil ?_
  refine xs_then ?_
  refine k_block ?_
  refine k_loop (ι := Nat × Nat) (fun (m, i) => i ≤ L.length ∧ m = cntI (L.take i) n) (fun (m, i) => [(0, lv), (1, .int .i64 n), (4, .int .i64 0), (5, .int .i64 (m : Int)), (8, .int .i64 (L.length : Int)), (9, .int .i64 (i : Int))]) (fun (m, i) => []) (fun (m, i) => L.length - i) (0, 0) ⟨Nat.zero_le _, rfl⟩ (sub_of rfl ⟨⟨rfl, rfl⟩, ⟨⟨rfl, rfl⟩, ⟨⟨rfl, rfl⟩, ⟨⟨rfl, rfl⟩, ⟨⟨rfl, rfl⟩, ⟨⟨rfl, rfl⟩, trivial⟩⟩⟩⟩⟩⟩) (fun _ h => h.re [] []) ?_
  rintro ⟨m, i⟩ hi1
  replace hi1 : i ≤ L.length ∧ m = cntI (L.take i) n := hi1
  show SK _ _ _ _ _ [(0, lv), (1, .int .i64 n), (4, .int .i64 0), (5, .int .i64 (m : Int)), (8, .int .i64 (L.length : Int)), (9, .int .i64 (i : Int))] _ []
  have hcl := cnt_le (L.take i) n; rw [List.length_take] at hcl; have hce := hi1.2
  refine k_seq ?_
  refine k_reg ?_
  refine s_lt t_cmp ?_
  refine s_nil ?_
  refine xs_then ?_
  refine k_seq ?_
  refine k_cond (decide ((i : Int) < (L.length : Int))) (fun c2 => ?_) (fun c2 => ?_)
  ·
    have p3 := of_decide_eq_true c2
    refine k_skip ?_
    refine xs_then ?_
    refine k_seq ?_
    refine k_block ?_
    refine k_seq ?_
    refine k_reg ?_
    refine s_lt (t_pure (.int .i64 (i : Int))) ?_
    refine s_lt (t_pure (.int .i64 (i : Int))) ?_
    refine s_nil ?_
    refine xs_then ?_
    refine k_seq ?_
    refine k_reg ?_
    refine s_lt (t_pure lv) ?_
    refine s_lt (t_pure (.int .i64 (i : Int))) ?_
    refine s_lt (t_index iTy_ok Try.underlying22 (.zn hL) (i : Int) i (by omega) (by (try simp only [List.length_nil, List.length_cons, List.length_append, List.length_take, List.length_drop, List.length_set, List.length_replicate, List.length_reverse, bits_len]); omega) (by omega)) ?_
    obtain ⟨y4, hy5⟩ : ∃ y, L[i]? = some y := ⟨_, List.getElem?_eq_getElem (by (try simp only [List.length_nil, List.length_cons, List.length_append, List.length_take, List.length_drop, List.length_set, List.length_replicate, List.length_reverse, bits_len]); omega)⟩
    refine s_lt (t_loadE iTy_ok (.zn hL) hy5) ?_
    refine s_lt (t_pure (.int .i64 n)) ?_
    refine s_lt t_cmp ?_
    refine s_nil ?_
    refine xs_then ?_
    refine k_cond (decide (y4 = n)) (fun c6 => ?_) (fun c6 => ?_)
    ·
      have p7 := of_decide_eq_true c6
      refine k_reg ?_
      refine s_lt (t_pure (.int .i64 (m : Int))) ?_
      refine s_lt (t_add (m : Int) 1 (by (try simp only [List.length_nil, List.length_cons, List.length_append, List.length_take, List.length_drop, List.length_set, List.length_replicate, List.length_reverse, bits_len]); omega)) ?_
      refine s_lt (t_pure (.int .i64 ((m : Int) + 1))) ?_
      refine s_nil ?_
      refine xs_block ?_
      refine xs_then ?_
      refine k_reg ?_
      refine s_lt (t_add (i : Int) 1 (by (try simp only [List.length_nil, List.length_cons, List.length_append, List.length_take, List.length_drop, List.length_set, List.length_replicate, List.length_reverse, bits_len]); omega)) ?_
      refine s_lt (t_pure (.int .i64 ((i : Int) + 1))) ?_
      refine s_nil ?_
      exact xs_round (m + 1, i + 1) (by show L.length - (i + 1) < L.length - i; omega) (by obtain ⟨hi1, hi2⟩ := hi1; refine ⟨by omega, ?_⟩; rw [cnt_yes hy5 p7]; omega) (sub_of rfl ⟨⟨rfl, rfl⟩, ⟨⟨rfl, rfl⟩, ⟨⟨rfl, rfl⟩, ⟨⟨rfl, rfl⟩, ⟨⟨rfl, rfl⟩, ⟨⟨rfl, rfl⟩, trivial⟩⟩⟩⟩⟩⟩) (fun _ h => h.re [] [])
    ·
      have p8 := of_decide_eq_false c6
      refine k_skip ?_
      refine xs_block ?_
      refine xs_then ?_
      refine k_reg ?_
      refine s_lt (t_add (i : Int) 1 (by (try simp only [List.length_nil, List.length_cons, List.length_append, List.length_take, List.length_drop, List.length_set, List.length_replicate, List.length_reverse, bits_len]); omega)) ?_
      refine s_lt (t_pure (.int .i64 ((i : Int) + 1))) ?_
      refine s_nil ?_
      exact xs_round (m, i + 1) (by show L.length - (i + 1) < L.length - i; omega) (by obtain ⟨hi1, hi2⟩ := hi1; refine ⟨by omega, ?_⟩; rw [cnt_no hy5 p8]; omega) (sub_of rfl ⟨⟨rfl, rfl⟩, ⟨⟨rfl, rfl⟩, ⟨⟨rfl, rfl⟩, ⟨⟨rfl, rfl⟩, ⟨⟨rfl, rfl⟩, ⟨⟨rfl, rfl⟩, trivial⟩⟩⟩⟩⟩⟩) (fun _ h => h.re [] [])
  ·
    have p9 := of_decide_eq_false c2
    refine k_exit ?_
    refine xs_exit ?_
    refine xs_exit ?_
    refine xs_here ?_
    refine xs_then ?_
    refine k_seq ?_
    refine k_reg ?_
    refine s_lt (t_pure (.int .i64 (m : Int))) ?_
    refine s_lt (t_pure (.int .i64 (m : Int))) ?_
    refine s_nil ?_
    refine xs_then ?_
    refine k_ret ?_
    refine xs_fin [.int .i64 (m : Int)] [] (SI.tmp 4 SI.nil) (fun _ h => h.re [] []) ⟨congrArg (Value.int .i64) ?_, rfl⟩
    have h := hi1.2; rw [List.take_of_length_le (by omega)] at h; rw [h]
theorem order_w {Z : Zone} {lv av : Value} {L A : List Int} (hL : Kn Z iTy lv L) (hA : Kn Z iTy av A) : SF Try.prog 3 #[lv, av] Z [] fun r Bs => r = .bool true ∧ Bs = [] := by
  refine sf_enter Try.func3 105 [(0, lv), (1, av)] (fun w0 => ?_)
  refine k_seq ?_
  refine k_reg ?_
  refine s_lt (t_pure (.bool false)) ?_
  refine s_nil ?_
  refine xs_then ?_
  refine k_seq ?_
  refine k_reg ?_
  refine s_pcall (fun _ h => qnew_s) ?_
  rintro _ _ ⟨q1, rfl, rfl⟩
  refine s_lt (t_pure (.pointer (some ⟨q1, 0, none⟩))) ?_
  refine s_nil ?_
  refine xs_then ?_
  refine k_seq ?_
  refine k_seq ?_
  refine k_reg ?_
  refine s_lt (t_pure (.pointer (some ⟨q1, 0, none⟩))) ?_
  refine s_lt (t_pure (.bool false)) ?_
  refine s_nil ?_
  refine xs_then ?_
  refine k_false ?_
  refine k_skip ?_
  refine xs_then ?_
  refine k_seq ?_
  refine k_cut (ι := Unit) (fun _ => True) (fun _ => [(0, lv), (1, av), (4, .bool false), (5, .pointer (some ⟨q1, 0, none⟩)), (22, .bool ((decide ((60 : Int) < (L.length : Int))) || (decide ((100 : Int) < (A.length : Int)))))]) (fun _ => [qA q1 [] []]) ?_ (fun _ _ => ?_)
  ·
    refine k_reg ?_
    refine s_lt (t_pure lv) ?_
    refine s_lt (t_len iTy_ok Try.underlying22 (.zn hL)) ?_
    refine s_lt t_cmp ?_
    refine s_lt (t_pure (.bool (decide ((60 : Int) < (L.length : Int))))) ?_
    refine s_fork 18 (decide ((60 : Int) < (L.length : Int))) (fun c2 => ?_) (fun c2 => ?_)
    ·
      have p3 := of_decide_eq_true c2
      refine s_skip ?_
      refine s_skip ?_
      refine s_skip ?_
      refine s_lt (t_pure (.bool true)) ?_
      refine s_nil ?_
      exact xs_cut () trivial (sub_of rfl ⟨⟨rfl, rfl⟩, ⟨⟨rfl, rfl⟩, ⟨⟨rfl, rfl⟩, ⟨⟨rfl, rfl⟩, ⟨⟨rfl, show Value.bool true = Value.bool ((decide ((60 : Int) < (L.length : Int))) || (decide ((100 : Int) < (A.length : Int)))) by first | (simp only [c2, Bool.true_and, Bool.false_and, Bool.and_true, Bool.and_false, Bool.true_or, Bool.or_true, Bool.false_or, Bool.or_false, Bool.not_true, Bool.not_false]; done) | simp [c2]⟩, trivial⟩⟩⟩⟩⟩) (fun _ h => h.re [0] [])
    ·
      have p4 := of_decide_eq_false c2
      refine s_lt (t_pure av) ?_
      refine s_lt (t_len iTy_ok Try.underlying22 (.zn hA)) ?_
      refine s_lt t_cmp ?_
      refine s_lt (t_pure (.bool (decide ((100 : Int) < (A.length : Int))))) ?_
      refine s_nil ?_
      exact xs_cut () trivial (sub_of rfl ⟨⟨rfl, rfl⟩, ⟨⟨rfl, rfl⟩, ⟨⟨rfl, rfl⟩, ⟨⟨rfl, rfl⟩, ⟨⟨rfl, show Value.bool (decide ((100 : Int) < (A.length : Int))) = Value.bool ((decide ((60 : Int) < (L.length : Int))) || (decide ((100 : Int) < (A.length : Int)))) by first | (simp only [c2, Bool.true_and, Bool.false_and, Bool.and_true, Bool.and_false, Bool.true_or, Bool.or_true, Bool.false_or, Bool.or_false, Bool.not_true, Bool.not_false]; done) | simp [c2]⟩, trivial⟩⟩⟩⟩⟩) (fun _ h => h.re [0] [])
  ·
    refine k_cond ((decide ((60 : Int) < (L.length : Int))) || (decide ((100 : Int) < (A.length : Int)))) (fun c5 => ?_) (fun c5 => ?_)
    ·
      have p6 := c5
      simp only [Bool.and_eq_true, Bool.or_eq_true, Bool.and_eq_false_iff, Bool.or_eq_false_iff, Bool.not_eq_true', Bool.not_eq_false', decide_eq_true_eq, decide_eq_false_iff_not] at p6
      refine k_seq ?_
      refine k_reg ?_
      refine s_vcall (fun _ h => awake_s) ?_
      rintro _ rfl
      refine s_lt (t_pure (.bool true)) ?_
      refine s_nil ?_
      refine xs_then ?_
      refine k_ret ?_
      refine xs_ret ?_
      exact xs_fin [.bool true] [] (SI.tmp 4 SI.nil) (fun _ h => h.re [] [0]) ⟨rfl, rfl⟩
    ·
      obtain ⟨c7, c8⟩ := or_f c5
      have p9 := of_decide_eq_false c7
      have p10 := of_decide_eq_false c8
      refine k_skip ?_
      refine xs_then ?_
      refine k_seq ?_
      refine k_reg ?_
      refine s_buildSlice (e := 3) [] #[] (fun g11 => ?_) (hb := by kernel_rfl)
      refine s_buildSlice (e := 3) [] #[] (fun g12 => ?_) (hb := by kernel_rfl)
      refine s_lt (t_pure (.slice (some ⟨g11, 0, none⟩) 0 0)) ?_
      refine s_lt (t_pure (.slice (some ⟨g12, 0, none⟩) 0 0)) ?_
      refine s_nil ?_
      refine xs_then ?_
      refine k_seq ?_
      refine k_seq ?_
      refine k_reg ?_
      refine s_lt (t_pure lv) ?_
      refine s_lt (t_len iTy_ok Try.underlying22 (.zn hL)) ?_
      refine s_lt (t_pure (.int .i64 0)) ?_
      refine s_nil ?_
      refine xs_then ?_
      refine k_block ?_
      refine k_mem (fun _ h => Holds.slice 1 h iTy_ok []) ?_
      refine k_mem (fun _ h => Holds.slice 0 h iTy_ok []) ?_
      refine k_mem (Bs := [own iTy (.slice (some ⟨g12, 0, none⟩) 0 0) (lostL A []), own iTy (.slice (some ⟨g11, 0, none⟩) 0 0) (stayL A []), qA q1 [] []]) (fun _ h => h) ?_
      refine k_loop (ι := List Int × Value × Value × Nat) (fun (rg, sx, gx, i) => i ≤ L.length ∧ rg.length ≤ i) (fun (rg, sx, gx, i) => [(0, lv), (1, av), (4, .bool false), (5, .pointer (some ⟨q1, 0, none⟩)), (6, sx), (7, gx), (27, .int .i64 (L.length : Int)), (28, .int .i64 (i : Int))]) (fun (rg, sx, gx, i) => [own iTy gx (lostL A rg), own iTy sx (stayL A rg), qA q1 rg []]) (fun (rg, sx, gx, i) => L.length - i) ([], (.slice (some ⟨g11, 0, none⟩) 0 0), (.slice (some ⟨g12, 0, none⟩) 0 0), 0) ⟨Nat.zero_le _, Nat.le_refl _⟩ (sub_of rfl ⟨⟨rfl, rfl⟩, ⟨⟨rfl, rfl⟩, ⟨⟨rfl, rfl⟩, ⟨⟨rfl, rfl⟩, ⟨⟨rfl, rfl⟩, ⟨⟨rfl, rfl⟩, ⟨⟨rfl, rfl⟩, ⟨⟨rfl, rfl⟩, trivial⟩⟩⟩⟩⟩⟩⟩⟩) (fun _ h => h.re [0, 0, 0] []) ?_
      rintro ⟨rg, sx, gx, i⟩ hi13
      replace hi13 : i ≤ L.length ∧ rg.length ≤ i := hi13
      show SK _ _ _ _ _ [(0, lv), (1, av), (4, .bool false), (5, .pointer (some ⟨q1, 0, none⟩)), (6, sx), (7, gx), (27, .int .i64 (L.length : Int)), (28, .int .i64 (i : Int))] _ [own iTy gx (lostL A rg), own iTy sx (stayL A rg), qA q1 rg []]
      have hrg := hi13.2; have hs1 := stay_len A rg; have hs2 := lost_len A rg
      refine k_seq ?_
      refine k_reg ?_
      refine s_lt t_cmp ?_
      refine s_nil ?_
      refine xs_then ?_
      refine k_seq ?_
      refine k_cond (decide ((i : Int) < (L.length : Int))) (fun c14 => ?_) (fun c14 => ?_)
      ·
        have p15 := of_decide_eq_true c14
        refine k_skip ?_
        refine xs_then ?_
        refine k_seq ?_
        refine k_block ?_
        refine k_seq ?_
        refine k_reg ?_
        refine s_lt (t_pure (.int .i64 (i : Int))) ?_
        refine s_lt (t_pure (.int .i64 (i : Int))) ?_
        refine s_nil ?_
        refine xs_then ?_
        refine k_seq ?_
        refine k_seq ?_
        refine k_reg ?_
        refine s_lt (t_pure (.pointer (some ⟨q1, 0, none⟩))) ?_
        refine s_lt (t_pure lv) ?_
        refine s_lt (t_pure (.int .i64 (i : Int))) ?_
        refine s_lt (t_index iTy_ok Try.underlying22 (.zn hL) (i : Int) i (by omega) (by (try simp only [List.length_nil, List.length_cons, List.length_append, List.length_take, List.length_drop, List.length_set, List.length_replicate, List.length_reverse, bits_len]); omega) (by omega)) ?_
        obtain ⟨y16, hy17⟩ : ∃ y, L[i]? = some y := ⟨_, List.getElem?_eq_getElem (by (try simp only [List.length_nil, List.length_cons, List.length_append, List.length_take, List.length_drop, List.length_set, List.length_replicate, List.length_reverse, bits_len]); omega)⟩
        refine s_lt (t_loadE iTy_ok (.zn hL) hy17) ?_
        refine s_call [2] (add_s (reg := rg) y16 (by first | omega | (simp only [List.length_nil]; omega))) ?_
        rintro _ _ ⟨rfl, rfl⟩
        refine s_lt t_cmp ?_
        refine s_nil ?_
        refine xs_then ?_
        refine k_cond (decide ((addI rg y16) ≠ 0)) (fun c18 => ?_) (fun c18 => ?_)
        ·
          have p19 := of_decide_eq_true c18
          refine k_exit ?_
          refine xs_exit ?_
          refine xs_here ?_
          refine xs_then ?_
          refine k_reg ?_
          refine s_lt (t_add (i : Int) 1 (by (try simp only [List.length_nil, List.length_cons, List.length_append, List.length_take, List.length_drop, List.length_set, List.length_replicate, List.length_reverse, bits_len]); omega)) ?_
          refine s_lt (t_pure (.int .i64 ((i : Int) + 1))) ?_
          refine s_nil ?_
          rw [add_no p19]
          exact xs_round (rg, sx, gx, i + 1) (by show L.length - (i + 1) < L.length - i; omega) (by obtain ⟨hi1, hi2⟩ := hi13; exact ⟨by omega, by omega⟩) (sub_of rfl ⟨⟨rfl, rfl⟩, ⟨⟨rfl, rfl⟩, ⟨⟨rfl, rfl⟩, ⟨⟨rfl, rfl⟩, ⟨⟨rfl, rfl⟩, ⟨⟨rfl, rfl⟩, ⟨⟨rfl, rfl⟩, ⟨⟨rfl, rfl⟩, trivial⟩⟩⟩⟩⟩⟩⟩⟩) (fun _ h => h.re [1, 1, 0] [])
        ·
          have p20 := Decidable.not_not.1 (of_decide_eq_false c18)
          refine k_skip ?_
          refine xs_then ?_
          refine k_seq ?_
          refine k_reg ?_
          refine s_lt (t_pure av) ?_
          refine s_lt (t_pure lv) ?_
          refine s_lt (t_pure (.int .i64 (i : Int))) ?_
          refine s_lt (t_index iTy_ok Try.underlying22 (.zn hL) (i : Int) i (by omega) (by (try simp only [List.length_nil, List.length_cons, List.length_append, List.length_take, List.length_drop, List.length_set, List.length_replicate, List.length_reverse, bits_len]); omega) (by omega)) ?_
          refine s_lt (t_loadE iTy_ok (.zn hL) hy17) ?_
          refine s_vcall (fun _ h => count_s (L := A) (Acc.kn (.zn hA) h) y16 (by (try simp only [List.length_nil, List.length_cons, List.length_append, List.length_take, List.length_drop, List.length_set, List.length_replicate, List.length_reverse, bits_len]); omega)) ?_
          rintro _ rfl
          refine s_lt t_cmp ?_
          refine s_nil ?_
          refine xs_then ?_
          refine k_cond (decide ((0 : Int) < (cntI A y16 : Int))) (fun c21 => ?_) (fun c21 => ?_)
          ·
            have p22 := of_decide_eq_true c21
            refine k_reg ?_
            refine s_lt (t_pure sx) ?_
            refine s_lt (t_pure lv) ?_
            refine s_lt (t_pure (.int .i64 (i : Int))) ?_
            refine s_lt (t_index iTy_ok Try.underlying22 (.zn hL) (i : Int) i (by omega) (by (try simp only [List.length_nil, List.length_cons, List.length_append, List.length_take, List.length_drop, List.length_set, List.length_replicate, List.length_reverse, bits_len]); omega) (by omega)) ?_
            refine s_lt (t_loadE iTy_ok (.zn hL) hy17) ?_
            refine s_buildSlice (e := 3) [(0, .int .i64 y16)] #[.int .i64 y16] (fun g23 => ?_) (hb := by kernel_rfl)
            refine s_append (L := (stayL A rg)) 3 iTy_ok Try.underlying22 (.lit 0 iTy_ok [y16]) (by show _ * 8 ≤ _; (try simp only [List.length_nil, List.length_cons, List.length_append, List.length_take, List.length_drop, List.length_set, List.length_replicate, List.length_reverse, bits_len]); omega) (by (try simp only [List.length_nil, List.length_cons, List.length_append, List.length_take, List.length_drop, List.length_set, List.length_replicate, List.length_reverse, bits_len]); omega) (fun v24 => ?_)
            refine s_fact (fun H h => ((Acc.own (T := iTy) (L := ((stayL A rg) ++ [y16])) 3 rfl) H h).form) (fun hf25 => ?_)
            refine s_lt (t_pure v24) ?_
            refine s_nil ?_
            refine xs_block ?_
            refine xs_then ?_
            refine k_reg ?_
            refine s_lt (t_add (i : Int) 1 (by (try simp only [List.length_nil, List.length_cons, List.length_append, List.length_take, List.length_drop, List.length_set, List.length_replicate, List.length_reverse, bits_len]); omega)) ?_
            refine s_lt (t_pure (.int .i64 ((i : Int) + 1))) ?_
            refine s_nil ?_
            rw [add_ok p20]
            have hst := stay_in (A := A) (r := rg) (x := y16) ((cnt_pos (L := A) (n := y16)).1 (by omega))
            rw [← hst.1, show lostL A rg = lostL A (rg ++ [y16]) from hst.2.symm]
            exact xs_round (rg ++ [y16], v24, gx, i + 1) (by show L.length - (i + 1) < L.length - i; omega) (by obtain ⟨hi1, hi2⟩ := hi13; exact ⟨by omega, by rw [List.length_append]; simp only [List.length_singleton]; omega⟩) (sub_of rfl ⟨⟨rfl, rfl⟩, ⟨⟨rfl, rfl⟩, ⟨⟨rfl, rfl⟩, ⟨⟨rfl, rfl⟩, ⟨⟨rfl, rfl⟩, ⟨⟨rfl, rfl⟩, ⟨⟨rfl, rfl⟩, ⟨⟨rfl, rfl⟩, trivial⟩⟩⟩⟩⟩⟩⟩⟩) (fun _ h => h.re [2, 2, 1] [3])
          ·
            have p26 := of_decide_eq_false c21
            refine k_reg ?_
            refine s_lt (t_pure gx) ?_
            refine s_lt (t_pure lv) ?_
            refine s_lt (t_pure (.int .i64 (i : Int))) ?_
            refine s_lt (t_index iTy_ok Try.underlying22 (.zn hL) (i : Int) i (by omega) (by (try simp only [List.length_nil, List.length_cons, List.length_append, List.length_take, List.length_drop, List.length_set, List.length_replicate, List.length_reverse, bits_len]); omega) (by omega)) ?_
            refine s_lt (t_loadE iTy_ok (.zn hL) hy17) ?_
            refine s_buildSlice (e := 3) [(0, .int .i64 y16)] #[.int .i64 y16] (fun g27 => ?_) (hb := by kernel_rfl)
            refine s_append (L := (lostL A rg)) 2 iTy_ok Try.underlying22 (.lit 0 iTy_ok [y16]) (by show _ * 8 ≤ _; (try simp only [List.length_nil, List.length_cons, List.length_append, List.length_take, List.length_drop, List.length_set, List.length_replicate, List.length_reverse, bits_len]); omega) (by (try simp only [List.length_nil, List.length_cons, List.length_append, List.length_take, List.length_drop, List.length_set, List.length_replicate, List.length_reverse, bits_len]); omega) (fun v28 => ?_)
            refine s_fact (fun H h => ((Acc.own (T := iTy) (L := ((lostL A rg) ++ [y16])) 2 rfl) H h).form) (fun hf29 => ?_)
            refine s_lt (t_pure v28) ?_
            refine s_nil ?_
            refine xs_block ?_
            refine xs_then ?_
            refine k_reg ?_
            refine s_lt (t_add (i : Int) 1 (by (try simp only [List.length_nil, List.length_cons, List.length_append, List.length_take, List.length_drop, List.length_set, List.length_replicate, List.length_reverse, bits_len]); omega)) ?_
            refine s_lt (t_pure (.int .i64 ((i : Int) + 1))) ?_
            refine s_nil ?_
            rw [add_ok p20]
            have hst := stay_out (A := A) (r := rg) (x := y16) (fun h => by have := (cnt_pos (L := A) (n := y16)).2 h; omega)
            rw [← hst.2, show stayL A rg = stayL A (rg ++ [y16]) from hst.1.symm]
            exact xs_round (rg ++ [y16], sx, v28, i + 1) (by show L.length - (i + 1) < L.length - i; omega) (by obtain ⟨hi1, hi2⟩ := hi13; exact ⟨by omega, by rw [List.length_append]; simp only [List.length_singleton]; omega⟩) (sub_of rfl ⟨⟨rfl, rfl⟩, ⟨⟨rfl, rfl⟩, ⟨⟨rfl, rfl⟩, ⟨⟨rfl, rfl⟩, ⟨⟨rfl, rfl⟩, ⟨⟨rfl, rfl⟩, ⟨⟨rfl, rfl⟩, ⟨⟨rfl, rfl⟩, trivial⟩⟩⟩⟩⟩⟩⟩⟩) (fun _ h => h.re [2, 2, 1] [3])
      ·
        have p30 := of_decide_eq_false c14
        refine k_exit ?_
        refine xs_exit ?_
        refine xs_exit ?_
        refine xs_here ?_
        refine xs_then ?_
        refine k_seq ?_
        refine k_seq ?_
        refine k_reg ?_
        refine s_lt (t_pure gx) ?_
        refine s_lt (t_len iTy_ok Try.underlying22 (.own 0)) ?_
        refine s_lt (Lt.to (v' := .int .i64 (((lostL A rg).length : Int) - 1 - ((0 : Nat) : Int))) (t_sub ((lostL A rg).length : Int) 1 (by omega)) (congrArg (Value.int .i64) (by omega))) ?_
        refine s_lt (t_pure (.int .i64 0)) ?_
        refine s_lt (t_pure (.int .i64 (((lostL A rg).length : Int) - 1 - ((0 : Nat) : Int)))) ?_
        refine s_nil ?_
        refine xs_then ?_
        refine k_block ?_
        refine k_loop (ι := List Int × Nat) (fun (X, i) => Rv (lostL A rg) X i) (fun (X, i) => [(1, av), (4, .bool false), (5, .pointer (some ⟨q1, 0, none⟩)), (6, sx), (7, gx), (9, .int .i64 (i : Int)), (10, .int .i64 (((lostL A rg).length : Int) - 1 - (i : Int)))]) (fun (X, i) => [own iTy gx X, own iTy sx (stayL A rg), qA q1 rg []]) (fun (X, i) => (lostL A rg).length - i) (lostL A rg, 0) (rv0 _) (sub_of rfl ⟨⟨rfl, rfl⟩, ⟨⟨rfl, rfl⟩, ⟨⟨rfl, rfl⟩, ⟨⟨rfl, rfl⟩, ⟨⟨rfl, rfl⟩, ⟨⟨rfl, rfl⟩, ⟨⟨rfl, rfl⟩, trivial⟩⟩⟩⟩⟩⟩⟩) (fun _ h => h.re [0, 0, 0] []) ?_
        rintro ⟨X, i⟩ hi31
        replace hi31 : Rv (lostL A rg) X i := hi31
        show SK _ _ _ _ _ [(1, av), (4, .bool false), (5, .pointer (some ⟨q1, 0, none⟩)), (6, sx), (7, gx), (9, .int .i64 (i : Int)), (10, .int .i64 (((lostL A rg).length : Int) - 1 - (i : Int)))] _ [own iTy gx X, own iTy sx (stayL A rg), qA q1 rg []]
        have hXl := hi31.1; have hX2 := hi31.2.1; have hs5 := sep_len A rg
        refine k_seq ?_
        refine k_seq ?_
        refine k_reg ?_
        refine s_lt (t_pure (.int .i64 (i : Int))) ?_
        refine s_lt (t_pure (.int .i64 (((lostL A rg).length : Int) - 1 - (i : Int)))) ?_
        refine s_lt t_cmp ?_
        refine s_nil ?_
        refine xs_then ?_
        refine k_cond (decide ((i : Int) < (((lostL A rg).length : Int) - 1 - (i : Int)))) (fun c32 => ?_) (fun c32 => ?_)
        ·
          have p33 := of_decide_eq_true c32
          refine k_skip ?_
          refine xs_then ?_
          refine k_seq ?_
          refine k_block ?_
          refine k_seq ?_
          refine k_reg ?_
          refine s_lt (t_pure gx) ?_
          refine s_lt (t_pure (.int .i64 (i : Int))) ?_
          refine s_lt (t_index iTy_ok Try.underlying22 (.own 0) (i : Int) i (by omega) (by (try simp only [List.length_nil, List.length_cons, List.length_append, List.length_take, List.length_drop, List.length_set, List.length_replicate, List.length_reverse, bits_len]); omega) (by omega)) ?_
          obtain ⟨y34, hy35⟩ : ∃ y, X[i]? = some y := ⟨_, List.getElem?_eq_getElem (by (try simp only [List.length_nil, List.length_cons, List.length_append, List.length_take, List.length_drop, List.length_set, List.length_replicate, List.length_reverse, bits_len]); omega)⟩
          refine s_lt (t_loadE iTy_ok (.own 0) hy35) ?_
          refine s_lt (t_pure (.int .i64 y34)) ?_
          refine s_nil ?_
          refine xs_then ?_
          refine k_seq ?_
          refine k_reg ?_
          refine s_lt (t_pure gx) ?_
          refine s_lt (t_pure (.int .i64 (i : Int))) ?_
          refine s_lt (t_pure gx) ?_
          refine s_lt (t_pure (.int .i64 (((lostL A rg).length : Int) - 1 - (i : Int)))) ?_
          refine s_lt (t_index iTy_ok Try.underlying22 (.own 0) (((lostL A rg).length : Int) - 1 - (i : Int)) ((lostL A rg).length - 1 - i) (by omega) (by (try simp only [List.length_nil, List.length_cons, List.length_append, List.length_take, List.length_drop, List.length_set, List.length_replicate, List.length_reverse, bits_len]); omega) (by omega)) ?_
          obtain ⟨y36, hy37⟩ : ∃ y, X[((lostL A rg).length - 1 - i)]? = some y := ⟨_, List.getElem?_eq_getElem (by (try simp only [List.length_nil, List.length_cons, List.length_append, List.length_take, List.length_drop, List.length_set, List.length_replicate, List.length_reverse, bits_len]); omega)⟩
          refine s_lt (t_loadE iTy_ok (.own 0) hy37) ?_
          refine s_lt (t_index iTy_ok Try.underlying22 (.own 0) (i : Int) i (by omega) (by (try simp only [List.length_nil, List.length_cons, List.length_append, List.length_take, List.length_drop, List.length_set, List.length_replicate, List.length_reverse, bits_len]); omega) (by omega)) ?_
          refine s_storeE 0 0 y36 iTy_ok hy35 ?_
          refine s_nil ?_
          refine xs_then ?_
          refine k_reg ?_
          refine s_lt (t_pure gx) ?_
          refine s_lt (t_pure (.int .i64 (((lostL A rg).length : Int) - 1 - (i : Int)))) ?_
          refine s_lt (t_pure (.int .i64 y34)) ?_
          refine s_lt (t_index iTy_ok Try.underlying22 (.own 0) (((lostL A rg).length : Int) - 1 - (i : Int)) ((lostL A rg).length - 1 - i) (by omega) (by (try simp only [List.length_nil, List.length_cons, List.length_append, List.length_take, List.length_drop, List.length_set, List.length_replicate, List.length_reverse, bits_len]); omega) (by omega)) ?_
          obtain ⟨y38, hy39⟩ : ∃ y, ((X.set i y36))[((lostL A rg).length - 1 - i)]? = some y := ⟨_, List.getElem?_eq_getElem (by (try simp only [List.length_nil, List.length_cons, List.length_append, List.length_take, List.length_drop, List.length_set, List.length_replicate, List.length_reverse, bits_len]); omega)⟩
          refine s_storeE 0 0 y34 iTy_ok hy39 ?_
          refine s_nil ?_
          refine xs_block ?_
          refine xs_then ?_
          refine k_reg ?_
          refine s_lt (t_pure (.int .i64 (i : Int))) ?_
          refine s_lt (t_add (i : Int) 1 (by (try simp only [List.length_nil, List.length_cons, List.length_append, List.length_take, List.length_drop, List.length_set, List.length_replicate, List.length_reverse, bits_len]); omega)) ?_
          refine s_lt (t_pure (.int .i64 (((lostL A rg).length : Int) - 1 - (i : Int)))) ?_
          refine s_lt (Lt.to (v' := .int .i64 (((lostL A rg).length : Int) - 1 - ((i + 1 : Nat) : Int))) (t_sub (((lostL A rg).length : Int) - 1 - (i : Int)) 1 (by omega)) (congrArg (Value.int .i64) (by omega))) ?_
          refine s_lt (t_pure (.int .i64 ((i : Int) + 1))) ?_
          refine s_lt (t_pure (.int .i64 (((lostL A rg).length : Int) - 1 - ((i + 1 : Nat) : Int)))) ?_
          refine s_nil ?_
          exact xs_round (((X.set i y36).set ((lostL A rg).length - 1 - i) y34), i + 1) (by show (lostL A rg).length - (i + 1) < (lostL A rg).length - i; omega) (rv_step hi31 (by omega) hy35 hy37) (sub_of rfl ⟨⟨rfl, rfl⟩, ⟨⟨rfl, rfl⟩, ⟨⟨rfl, rfl⟩, ⟨⟨rfl, rfl⟩, ⟨⟨rfl, rfl⟩, ⟨⟨rfl, rfl⟩, ⟨⟨rfl, rfl⟩, trivial⟩⟩⟩⟩⟩⟩⟩) (fun _ h => h.re [0, 0, 0] [])
        ·
          have p40 := of_decide_eq_false c32
          refine k_exit ?_
          obtain rfl : X = sepL A rg := rv_end hi31 (by omega)
          refine xs_exit ?_
          refine xs_exit ?_
          refine xs_here ?_
          refine xs_then ?_
          refine k_seq ?_
          refine k_reg ?_
          refine s_lt (t_pure (.pointer (some ⟨q1, 0, none⟩))) ?_
          refine s_lt (t_pure av) ?_
          refine s_call [2] (sepa_s (A := A) hA (reg := rg) (pend := []) (by first | omega | (simp only [List.length_nil]; omega)) (by first | omega | (simp only [List.length_nil]; omega))) ?_
          rintro v41 _ rfl
          refine s_fact (fun H h => ((Acc.own (T := iTy) (L := (sepL A rg)) 1 rfl) H h).form) (fun hf42 => ?_)
          rw [List.nil_append]
          refine s_lt (t_pure gx) ?_
          refine s_vcall (fun _ h => ints_s (Acc.kn (.own 1) h) (Acc.kn (.own 2) h)) ?_
          rintro u44 e43
          obtain rfl : u44 = .bool true := e43.trans (congrArg Value.bool (decide_eq_true rfl))
          refine s_lt (t_pure (.bool true)) ?_
          refine s_lt (t_pure (.pointer (some ⟨q1, 0, none⟩))) ?_
          refine s_call [0] (registered_s (reg := (stayL A rg)) (by first | omega | (simp only [List.length_nil]; omega))) ?_
          rintro v45 _ rfl
          refine s_fact (fun H h => ((Acc.own (T := iTy) (L := (stayL A rg)) 0 rfl) H h).form) (fun hf46 => ?_)
          refine s_lt (t_pure sx) ?_
          refine s_vcall (fun _ h => ints_s (Acc.kn (.own 0) h) (Acc.kn (.own 4) h)) ?_
          rintro u48 e47
          obtain rfl : u48 = .bool true := e47.trans (congrArg Value.bool (decide_eq_true rfl))
          refine s_lt (t_pure (.bool true)) ?_
          refine s_lt (t_pure (.bool true)) ?_
          refine s_lt (t_pure (.pointer (some ⟨q1, 0, none⟩))) ?_
          refine s_call [1] (pending_s (pend := (sepL A rg)) (by first | omega | (simp only [List.length_nil]; omega))) ?_
          rintro v49 _ rfl
          refine s_fact (fun H h => ((Acc.own (T := iTy) (L := (sepL A rg)) 0 rfl) H h).form) (fun hf50 => ?_)
          refine s_lt (t_pure gx) ?_
          refine s_vcall (fun _ h => ints_s (Acc.kn (.own 0) h) (Acc.kn (.own 4) h)) ?_
          rintro u52 e51
          obtain rfl : u52 = .bool true := e51.trans (congrArg Value.bool (decide_eq_true rfl))
          refine s_lt (t_pure (.bool true)) ?_
          refine s_lt (t_pure (.bool true)) ?_
          refine s_vcall (fun _ h => awake_s) ?_
          rintro _ rfl
          refine s_lt (t_pure (.bool true)) ?_
          refine s_lt (t_pure (.bool true)) ?_
          refine s_nil ?_
          refine xs_then ?_
          refine k_ret ?_
          exact xs_fin [.bool true] [] (SI.tmp 4 SI.nil) (fun _ h => h.re [] [0, 0, 0, 0, 0, 0]) ⟨rfl, rfl⟩
end Go.Proofs.Ytipmkaabogocfaa
