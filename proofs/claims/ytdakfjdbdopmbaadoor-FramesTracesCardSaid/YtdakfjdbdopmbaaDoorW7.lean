/-
  The position of a level.
-/
import Derived.Test.YtdakfjdbdopmbaaDoorW6
set_option linter.unusedSimpArgs false
set_option linter.unusedVariables false
set_option maxRecDepth 100000
namespace Go.Proofs.YtdakfjdbdopmbaaDoor
open Go.Hp Go.J Go.S
open Go.Mem (Ty KTy blk elemAt pre suf blk_pre blk_suf aget aset strK aggDesc)
open Go.Mem
/-- The line of the n-th place that has one, 0 if there is none. -/
def posT : Int → List Pl → Int
  | _, [] => 0
  | n, p :: r => if 0 < p.line then (if n = 1 then p.line else posT (n - 1) r) else posT n r
theorem posT_at {M : List Pl} {i : Nat} {y : Pl} (n : Int) (h : M[i]? = some y) : posT n (M.drop i) = if 0 < y.line then (if n = 1 then y.line else posT (n - 1) (M.drop (i + 1))) else posT n (M.drop (i + 1)) := by
  have hlt := (List.getElem?_eq_some_iff.1 h).1
  rw [List.drop_eq_getElem_cons hlt, (List.getElem?_eq_some_iff.1 h).2]; rfl
theorem pos_s {Z : Zone} {lv : Value} {M : List Pl} {N : Int} (hM : Kn Z PlT lv M) (h0 : 1 ≤ N) (h1 : N ≤ 9223372036854775807) (hl : (M.length : Int) ≤ 400) : SF Tryd.prog 29 #[.int .i64 N, lv] Z [] fun r Bs => r = .tuple #[.int .i64 (posT N M), .bool (decide (posT N M ≠ 0))] ∧ Bs = [] := by
  refine sf_enter Tryd.func29 29 [(0, .int .i64 N), (1, lv)] (fun w0 => ?_)
  refine k_seq ?_
  refine k_reg ?_
  refine s_lt (t_pure (.int .i64 0)) ?_
  refine s_lt (t_pure (.bool false)) ?_
  refine s_nil ?_
  refine xs_then ?_
  refine k_seq ?_
  refine k_seq ?_
  refine k_reg ?_
  refine s_lt (t_pure lv) ?_
  refine s_lt (t_len PlT_ok Tryd.underlying26 (.zn hM)) ?_
  refine s_lt (t_pure (.int .i64 0)) ?_
  refine s_nil ?_
  refine xs_then ?_
  refine k_block ?_
  refine k_loop (ι := Int × Nat) (fun (n, i) => 1 ≤ n ∧ n ≤ 9223372036854775807 ∧ i ≤ M.length ∧ posT n (M.drop i) = posT N M) (fun (n, i) => [(0, .int .i64 n), (4, .int .i64 0), (5, .bool false), (8, lv), (9, .int .i64 (M.length : Int)), (10, .int .i64 (i : Int))]) (fun (n, i) => []) (fun (n, i) => M.length - i) (N, 0) ⟨by omega, by omega, Nat.zero_le _, rfl⟩ (sub_of rfl ⟨⟨rfl, rfl⟩, ⟨⟨rfl, rfl⟩, ⟨⟨rfl, rfl⟩, ⟨⟨rfl, rfl⟩, ⟨⟨rfl, rfl⟩, ⟨⟨rfl, rfl⟩, trivial⟩⟩⟩⟩⟩⟩) (fun _ h => h.re [] []) ?_
  rintro ⟨n, i⟩ hi1
  replace hi1 : 1 ≤ n ∧ n ≤ 9223372036854775807 ∧ i ≤ M.length ∧ posT n (M.drop i) = posT N M := hi1
  show SK _ _ _ _ _ [(0, .int .i64 n), (4, .int .i64 0), (5, .bool false), (8, lv), (9, .int .i64 (M.length : Int)), (10, .int .i64 (i : Int))] _ []
  obtain ⟨hn0, hn1, hi0, hpo⟩ := hi1
  refine k_seq ?_
  refine k_reg ?_
  refine s_lt t_cmp ?_
  refine s_nil ?_
  refine xs_then ?_
  refine k_seq ?_
  refine k_cond (decide ((i : Int) < (M.length : Int))) (fun c2 => ?_) (fun c2 => ?_)
  ·
    have p3 := of_decide_eq_true c2
    refine k_skip ?_
    refine xs_then ?_
    refine k_seq ?_
    refine k_block ?_
    refine k_seq ?_
    refine k_reg ?_
    refine s_lt (t_index PlT_ok Tryd.underlying26 (.zn hM) (i : Int) i (by omega) (by (try simp only [List.length_nil, List.length_cons, List.length_append, List.length_take, List.length_drop, List.length_set, List.length_replicate, List.length_reverse]); omega) (by omega)) ?_
    obtain ⟨y4, hy5⟩ : ∃ y, M[i]? = some y := ⟨_, List.getElem?_eq_getElem (by (try simp only [List.length_nil, List.length_cons, List.length_append, List.length_take, List.length_drop, List.length_set, List.length_replicate, List.length_reverse]); omega)⟩
    refine s_lt (t_loadE PlT_ok (.zn hM) hy5) ?_
    refine s_alloc (.agg #[.string ByteArray.empty, .int .i64 0, .bool false]) #[.string ByteArray.empty, .int .i64 0, .bool false] (fun g6 => ?_)
    refine s_store 0 #[.string y4.name, .int .i64 y4.line, .bool y4.tail] ?_
    refine s_nil ?_
    refine xs_then ?_
    refine k_seq ?_
    refine k_seq ?_
    refine k_reg ?_
    refine s_lt (t_pure (.pointer (some ⟨g6, 1, none⟩))) ?_
    refine s_lt (t_load 0 (.int .i64 y4.line)) ?_
    refine s_lt t_cmp ?_
    refine s_nil ?_
    refine xs_then ?_
    refine k_cond (decide ((0 : Int) < y4.line)) (fun c7 => ?_) (fun c7 => ?_)
    ·
      have p8 := of_decide_eq_true c7
      refine k_reg ?_
      refine s_lt (t_pure (.int .i64 n)) ?_
      refine s_lt (t_sub n 1 (by (try simp only [List.length_nil, List.length_cons, List.length_append, List.length_take, List.length_drop, List.length_set, List.length_replicate, List.length_reverse]); omega)) ?_
      refine s_lt (t_pure (.int .i64 (n - 1))) ?_
      refine s_nil ?_
      refine xs_then ?_
      refine k_seq ?_
      refine k_reg ?_
      refine s_lt (t_pure (.pointer (some ⟨g6, 1, none⟩))) ?_
      refine s_lt (t_load 0 (.int .i64 y4.line)) ?_
      refine s_lt (Lt.to t_cmp (congrArg Value.bool (c7 : (decide ((0 : Int) < y4.line)) = true))) ?_
      refine s_lt (t_pure (.bool true)) ?_
      refine s_lt (t_pure (.int .i64 (n - 1))) ?_
      refine s_lt t_cmp ?_
      refine s_lt (t_pure (.bool (decide ((n - 1) = 0)))) ?_
      refine s_nil ?_
      refine xs_then ?_
      refine k_cond (decide ((n - 1) = 0)) (fun c9 => ?_) (fun c9 => ?_)
      ·
        have p10 := of_decide_eq_true c9
        refine k_seq ?_
        refine k_reg ?_
        refine s_lt (t_pure (.pointer (some ⟨g6, 1, none⟩))) ?_
        refine s_lt (t_load 0 (.int .i64 y4.line)) ?_
        refine s_lt (t_pure (.int .i64 y4.line)) ?_
        refine s_lt (t_pure (.bool true)) ?_
        refine s_nil ?_
        refine xs_then ?_
        refine k_ret ?_
        refine xs_retBlock ?_
        refine xs_ret ?_
        refine xs_ret ?_
        refine xs_retBlock ?_
        refine xs_ret ?_
        have hp : posT N M = y4.line := by rw [← hpo, posT_at n hy5, if_pos (by omega), if_pos (by omega)]
        exact xs_fin [.int .i64 y4.line, .bool true] [] (SI.tmp 4 (SI.tmp 5 SI.nil)) (fun _ h => h.re [] [0]) ⟨by rw [hp]; first | rfl | (rw [decide_eq_true (by omega)]; rfl), rfl⟩
      ·
        have p11 := of_decide_eq_false c9
        refine k_skip ?_
        refine xs_block ?_
        refine xs_then ?_
        refine k_reg ?_
        refine s_lt (t_add (i : Int) 1 (by (try simp only [List.length_nil, List.length_cons, List.length_append, List.length_take, List.length_drop, List.length_set, List.length_replicate, List.length_reverse]); omega)) ?_
        refine s_lt (t_pure (.int .i64 ((i : Int) + 1))) ?_
        refine s_nil ?_
        exact xs_round ((n - 1), i + 1) (by show M.length - (i + 1) < M.length - i; omega) (by refine ⟨by omega, by omega, by show i + 1 ≤ M.length; omega, ?_⟩; have e := posT_at n hy5; (first | rw [if_pos (by omega), if_neg (by omega)] at e | rw [if_neg (by omega)] at e); exact e.symm.trans hpo) (sub_of rfl ⟨⟨rfl, rfl⟩, ⟨⟨rfl, rfl⟩, ⟨⟨rfl, rfl⟩, ⟨⟨rfl, rfl⟩, ⟨⟨rfl, rfl⟩, ⟨⟨rfl, rfl⟩, trivial⟩⟩⟩⟩⟩⟩) (fun _ h => h.re [] [0])
    ·
      have p12 := of_decide_eq_false c7
      refine k_skip ?_
      refine xs_then ?_
      refine k_seq ?_
      refine k_reg ?_
      refine s_lt (t_pure (.pointer (some ⟨g6, 1, none⟩))) ?_
      refine s_lt (t_load 0 (.int .i64 y4.line)) ?_
      refine s_lt (Lt.to t_cmp (congrArg Value.bool (c7 : (decide ((0 : Int) < y4.line)) = false))) ?_
      refine s_lt (t_pure (.bool false)) ?_
      refine s_skip ?_
      refine s_skip ?_
      refine s_lt (t_pure (.bool false)) ?_
      refine s_nil ?_
      refine xs_then ?_
      refine k_false ?_
      refine k_skip ?_
      refine xs_block ?_
      refine xs_then ?_
      refine k_reg ?_
      refine s_lt (t_add (i : Int) 1 (by (try simp only [List.length_nil, List.length_cons, List.length_append, List.length_take, List.length_drop, List.length_set, List.length_replicate, List.length_reverse]); omega)) ?_
      refine s_lt (t_pure (.int .i64 ((i : Int) + 1))) ?_
      refine s_nil ?_
      exact xs_round (n, i + 1) (by show M.length - (i + 1) < M.length - i; omega) (by refine ⟨by omega, by omega, by show i + 1 ≤ M.length; omega, ?_⟩; have e := posT_at n hy5; (first | rw [if_pos (by omega), if_neg (by omega)] at e | rw [if_neg (by omega)] at e); exact e.symm.trans hpo) (sub_of rfl ⟨⟨rfl, rfl⟩, ⟨⟨rfl, rfl⟩, ⟨⟨rfl, rfl⟩, ⟨⟨rfl, rfl⟩, ⟨⟨rfl, rfl⟩, ⟨⟨rfl, rfl⟩, trivial⟩⟩⟩⟩⟩⟩) (fun _ h => h.re [] [0])
  ·
    have p13 := of_decide_eq_false c2
    refine k_exit ?_
    refine xs_exit ?_
    refine xs_exit ?_
    refine xs_here ?_
    refine xs_then ?_
    refine k_seq ?_
    refine k_reg ?_
    refine s_lt (t_pure (.int .i64 0)) ?_
    refine s_lt (t_pure (.bool false)) ?_
    refine s_nil ?_
    refine xs_then ?_
    refine k_ret ?_
    have hp : posT N M = 0 := by rw [← hpo, show i = M.length by omega, List.drop_length]; rfl
    exact xs_fin [.int .i64 0, .bool false] [] (SI.tmp 4 (SI.tmp 5 SI.nil)) (fun _ h => h.re [] []) ⟨by rw [hp]; first | rfl | (rw [decide_eq_true (by omega)]; rfl), rfl⟩
def rposT (N : Int) (M : List Pl) : Int := if N < 1 then 0 else posT N M
end Go.Proofs.YtdakfjdbdopmbaaDoor
