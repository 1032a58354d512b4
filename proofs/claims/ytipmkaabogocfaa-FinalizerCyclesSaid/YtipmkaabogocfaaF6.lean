/-
  FinalizerOrder and FinalizerNone walked; a call of any kind. No condition but that the arguments are what the types say.
-/
import Derived.Test.YtipmkaabogocfaaF5
set_option linter.unusedSimpArgs false
set_option linter.unusedVariables false
set_option maxRecDepth 100000
set_option maxHeartbeats 2000000
namespace Go.Proofs.Ytipmkaabogocfaa
open Go.Hp Go.J Go.S
open Go.Mem (Ty KTy blk elemAt pre suf blk_pre blk_suf aget aset strK aggDesc)
def cntI (L : List Int) (n : Int) : Nat := (L.filter fun x => decide (x = n)).length
theorem cnt_yes {L : List Int} {i : Nat} {y n : Int} (h : L[i]? = some y) (e : y = n) : cntI (L.take (i + 1)) n = cntI (L.take i) n + 1 := by
  unfold cntI; rw [← take_snoc h, List.filter_append, List.length_append]; simp [e]
theorem cnt_no {L : List Int} {i : Nat} {y n : Int} (h : L[i]? = some y) (e : ¬ y = n) : cntI (L.take (i + 1)) n = cntI (L.take i) n := by
  unfold cntI; rw [← take_snoc h, List.filter_append, List.length_append]; simp [e]
theorem cnt_le (L : List Int) (n : Int) : cntI L n ≤ L.length := List.length_filter_le _ _
theorem cnt_pos {L : List Int} {n : Int} : 0 < cntI L n ↔ n ∈ L := by
  unfold cntI; rw [List.length_pos_iff_exists_mem]
  constructor
  · rintro ⟨x, hx⟩; simp at hx; rw [← hx.2]; exact hx.1
  · intro h; exact ⟨n, by simp [h]⟩
theorem add_ok {reg : List Int} {id : Int} (h : addI reg id = 0) : addL reg id = reg ++ [id] := by
  unfold addI at h; unfold addL
  split at h
  · cases h
  · split at h
    · cases h
    · rename_i h1 h2; rw [if_neg h1, if_neg h2]
theorem add_no {reg : List Int} {id : Int} (h : addI reg id ≠ 0) : addL reg id = reg := by
  unfold addI at h; unfold addL
  split
  · rfl
  · rename_i h1
    split
    · rfl
    · rename_i h2; rw [if_neg h1, if_neg h2] at h; exact absurd rfl h
theorem stay_in {A r : List Int} {x : Int} (h : x ∈ A) : stayL A (r ++ [x]) = stayL A r ++ [x] ∧ lostL A (r ++ [x]) = lostL A r := by simp [stayL, lostL, List.filter_append, h]
theorem stay_out {A r : List Int} {x : Int} (h : x ∉ A) : stayL A (r ++ [x]) = stayL A r ∧ lostL A (r ++ [x]) = lostL A r ++ [x] := by simp [stayL, lostL, List.filter_append, h]
theorem count_s {Z : Zone} {lv : Value} {L : List Int} (hL : Kn Z iTy lv L) (n : Int) (hl : L.length ≤ 1000000) : SF Try.prog 13 #[lv, .int .i64 n] Z [] fun r Bs => r = .int .i64 (cntI L n : Int) ∧ Bs = [] := by
  refine sf_enter Try.func13 22 [(0, lv), (1, .int .i64 n)] (fun w0 => ?_)
  refine k_fact (fun H h => (hL.get h).len_le) (fun lA => ?_)
  refine k_seq ?_
  refine k_reg ?_
  refine s_lt (t_pure (.int .i64 0)) ?_
  refine s_nil ?_
  refine xs_then ?_
  refine k_seq ?_
  refine k_reg ?_
  refine s_lt (t_pure (.int .i64 0)) ?_
  refine s_nil ?_
  refine xs_then ?_
  refine k_seq ?_
  refine k_seq ?_
  refine k_reg ?_
  refine s_lt (t_pure lv) ?_
  refine s_lt (t_len iTy_ok Try.underlying22 (.zn hL)) ?_
  refine s_lt (t_pure (.int .i64 0)) ?_
  refine s_nil ?_
  refine xs_then ?_
  refine k_block ?_
  refine k_loop (ι := Nat × Nat) (fun (m, i) => i ≤ L.length ∧ m = cntI (L.take i) n) (fun (m, i) => [(0, lv), (1, .int .i64 n), (4, .int .i64 0), (5, .int .i64 (m : Int)), (8, .int .i64 (L.length : Int)), (9, .int .i64 (i : Int))]) (fun (m, i) => []) (fun (m, i) => L.length - i) (0, 0) ⟨Nat.zero_le _, rfl⟩ (sub_of rfl ⟨⟨rfl, rfl⟩, ⟨⟨rfl, rfl⟩, ⟨⟨rfl, rfl⟩, ⟨⟨rfl, rfl⟩, ⟨⟨rfl, rfl⟩, ⟨⟨rfl, rfl⟩, trivial⟩⟩⟩⟩⟩⟩) (fun _ h => h.re [] []) ?_
  rintro ⟨m, i⟩ hi1
  replace hi1 : i ≤ L.length ∧ m = cntI (L.take i) n := hi1
  show SK _ _ _ _ _ [(0, lv), (1, .int .i64 n), (4, .int .i64 0), (5, .int .i64 (m : Int)), (8, .int .i64 (L.length : Int)), (9, .int .i64 (i : Int))] _ []
  have hcl := cnt_le (L.take i) n; rw [List.length_take] at hcl; have hce := hi1.2
  refine k_seq ?_
  refine k_reg ?_
  refine s_lt t_cmp ?_
  refine s_nil ?_
  refine xs_then ?_
  refine k_seq ?_
  refine k_cond (decide ((i : Int) < (L.length : Int))) (fun c2 => ?_) (fun c2 => ?_)
  ·
    have p3 := of_decide_eq_true c2
    refine k_skip ?_
    refine xs_then ?_
    refine k_seq ?_
    refine k_block ?_
    refine k_seq ?_
    refine k_reg ?_
    refine s_lt (t_pure (.int .i64 (i : Int))) ?_
    refine s_lt (t_pure (.int .i64 (i : Int))) ?_
    refine s_nil ?_
    refine xs_then ?_
    refine k_seq ?_
    refine k_reg ?_
    refine s_lt (t_pure lv) ?_
    refine s_lt (t_pure (.int .i64 (i : Int))) ?_
    refine s_lt (t_index iTy_ok Try.underlying22 (.zn hL) (i : Int) i (by omega) (by (try simp only [List.length_nil, List.length_cons, List.length_append, List.length_take, List.length_drop, List.length_set, List.length_replicate, List.length_reverse, bits_len]); omega) (by omega)) ?_
    obtain ⟨y4, hy5⟩ : ∃ y, L[i]? = some y := ⟨_, List.getElem?_eq_getElem (by (try simp only [List.length_nil, List.length_cons, List.length_append, List.length_take, List.length_drop, List.length_set, List.length_replicate, List.length_reverse, bits_len]); omega)⟩
    refine s_lt (t_loadE iTy_ok (.zn hL) hy5) ?_
    refine s_lt (t_pure (.int .i64 n)) ?_
    refine s_lt t_cmp ?_
    refine s_nil ?_
    refine xs_then ?_
    refine k_cond (decide (y4 = n)) (fun c6 => ?_) (fun c6 => ?_)
    ·
      have p7 := of_decide_eq_true c6
      refine k_reg ?_
      refine s_lt (t_pure (.int .i64 (m : Int))) ?_
      refine s_lt (t_add (m : Int) 1 (by (try simp only [List.length_nil, List.length_cons, List.length_append, List.length_take, List.length_drop, List.length_set, List.length_replicate, List.length_reverse, bits_len]); omega)) ?_
      refine s_lt (t_pure (.int .i64 ((m : Int) + 1))) ?_
      refine s_nil ?_
      refine xs_block ?_
      refine xs_then ?_
      refine k_reg ?_
      refine s_lt (t_add (i : Int) 1 (by (try simp only [List.length_nil, List.length_cons, List.length_append, List.length_take, List.length_drop, List.length_set, List.length_replicate, List.length_reverse, bits_len]); omega)) ?_
      refine s_lt (t_pure (.int .i64 ((i : Int) + 1))) ?_
      refine s_nil ?_
      exact xs_round (m + 1, i + 1) (by show L.length - (i + 1) < L.length - i; omega) (by obtain ⟨hi1, hi2⟩ := hi1; refine ⟨by omega, ?_⟩; rw [cnt_yes hy5 p7]; omega) (sub_of rfl ⟨⟨rfl, rfl⟩, ⟨⟨rfl, rfl⟩, ⟨⟨rfl, rfl⟩, ⟨⟨rfl, rfl⟩, ⟨⟨rfl, rfl⟩, ⟨⟨rfl, rfl⟩, trivial⟩⟩⟩⟩⟩⟩) (fun _ h => h.re [] [])
    ·
      have p8 := of_decide_eq_false c6
      refine k_skip ?_
      refine xs_block ?_
      refine xs_then ?_
      refine k_reg ?_
      refine s_lt (t_add (i : Int) 1 (by (try simp only [List.length_nil, List.length_cons, List.length_append, List.length_take, List.length_drop, List.length_set, List.length_replicate, List.length_reverse, bits_len]); omega)) ?_
      refine s_lt (t_pure (.int .i64 ((i : Int) + 1))) ?_
      refine s_nil ?_
      exact xs_round (m, i + 1) (by show L.length - (i + 1) < L.length - i; omega) (by obtain ⟨hi1, hi2⟩ := hi1; refine ⟨by omega, ?_⟩; rw [cnt_no hy5 p8]; omega) (sub_of rfl ⟨⟨rfl, rfl⟩, ⟨⟨rfl, rfl⟩, ⟨⟨rfl, rfl⟩, ⟨⟨rfl, rfl⟩, ⟨⟨rfl, rfl⟩, ⟨⟨rfl, rfl⟩, trivial⟩⟩⟩⟩⟩⟩) (fun _ h => h.re [] [])
  ·
    have p9 := of_decide_eq_false c2
    refine k_exit ?_
    refine xs_exit ?_
    refine xs_exit ?_
    refine xs_here ?_
    refine xs_then ?_
    refine k_seq ?_
    refine k_reg ?_
    refine s_lt (t_pure (.int .i64 (m : Int))) ?_
    refine s_lt (t_pure (.int .i64 (m : Int))) ?_
    refine s_nil ?_
    refine xs_then ?_
    refine k_ret ?_
    refine xs_fin [.int .i64 (m : Int)] [] (SI.tmp 4 SI.nil) (fun _ h => h.re [] []) ⟨congrArg (Value.int .i64) ?_, rfl⟩
    have h := hi1.2; rw [List.take_of_length_le (by omega)] at h; rw [h]
end Go.Proofs.Ytipmkaabogocfaa
