/-
  Lines.
-/
import Derived.Test.YtdakfjdbdopmbaaDoorW11
set_option linter.unusedSimpArgs false
set_option linter.unusedVariables false
set_option maxRecDepth 100000
namespace Go.Proofs.YtdakfjdbdopmbaaDoor
open Go.Hp Go.J Go.S
open Go.Mem (Ty KTy blk elemAt pre suf blk_pre blk_suf aget aset strK aggDesc)
open Go.Mem
def dots : ByteArray := ⟨#[46, 46, 46]⟩
/-- The lines of the first i places. -/
def linesU (M : List Pl) (i : Nat) : List ByteArray :=
  if M.length ≤ 21 then (M.take i).map lineT else (M.take (min i 10)).map lineT ++ ((if 10 < i then [dots] else []) ++ ((M.take i).drop (M.length - 11)).map lineT)
def linesT (M : List Pl) : List ByteArray := linesU M M.length
theorem linesU_zero (M : List Pl) : linesU M 0 = [] := by unfold linesU; split <;> simp
theorem linesU_len (M : List Pl) (i : Nat) : (linesU M i).length ≤ i + 1 := by
  unfold linesU; split
  · simp; omega
  · simp only [List.length_append, List.length_map, List.length_take, List.length_drop]
    split <;> simp <;> omega
theorem linesU_line {M : List Pl} {i : Nat} {y : Pl} (h : M[i]? = some y) (hc : M.length ≤ 21 ∨ i < 10 ∨ M.length ≤ i + 11) : linesU M i ++ [lineT y] = linesU M (i + 1) := by
  have hlt := (List.getElem?_eq_some_iff.1 h).1
  unfold linesU; split
  · rw [List.take_add_one, h]; simp
  · by_cases h10 : i < 10
    · rw [if_neg (by omega), if_neg (by omega), Nat.min_eq_left (by omega), Nat.min_eq_left (by omega), List.drop_eq_nil_of_le (by simp; omega), List.drop_eq_nil_of_le (by simp; omega), List.take_add_one, h]; simp
    · rw [if_pos (by omega), if_pos (by omega), Nat.min_eq_right (by omega), Nat.min_eq_right (by omega), List.take_add_one (i := i), h, List.drop_append_of_le_length (by simp; omega)]; simp
theorem linesU_dots {M : List Pl} {i : Nat} (h : i < M.length) (hc : ¬ M.length ≤ 21) (hi : i = 10) : linesU M i ++ [dots] = linesU M (i + 1) := by
  subst hi
  unfold linesU; rw [if_neg hc, if_neg hc, if_neg (by omega), if_pos (by omega), List.drop_eq_nil_of_le (by simp; omega), List.drop_eq_nil_of_le (by simp; omega)]; simp
theorem linesU_skip {M : List Pl} {i : Nat} (hc : ¬ M.length ≤ 21) (h0 : 10 < i) (h1 : i + 11 < M.length) : linesU M i = linesU M (i + 1) := by
  unfold linesU; rw [if_neg hc, if_neg hc, if_pos (by omega), if_pos (by omega), List.drop_eq_nil_of_le (by simp; omega), List.drop_eq_nil_of_le (by simp; omega), Nat.min_eq_right (by omega), Nat.min_eq_right (by omega)]
theorem lines_s {Z : Zone} (ht : KnTab Z) {v : Vl} {lv : Value} {M : List Pl} (hM : Kn Z PlT lv M) (hok : ∀ p ∈ M, okP p) (hl : (M.length : Int) ≤ 400) : SF Tryd.prog 13 #[flV v lv] Z [] fun r Bs => Bs = [own (strT 9) r (linesT M)] := by
  refine sf_enter Tryd.func13 44 [(0, .agg #[.int .i64 v.kind, .int .i64 v.p, .int .i64 v.q, .string v.str, .int .i64 v.ref, lv])] (fun w0 => ?_)
  refine k_seq ?_
  refine k_reg ?_
  refine s_box #[.int .i64 v.kind, .int .i64 v.p, .int .i64 v.q, .string v.str, .int .i64 v.ref, lv] (fun g1 => ?_)
  refine s_lt (t_pure (.slice none 0 0)) ?_
  refine s_nil ?_
  refine xs_then ?_
  refine k_seq ?_
  refine k_reg ?_
  refine s_lt (t_pure (.slice none 0 0)) ?_
  refine s_nil ?_
  refine xs_then ?_
  refine k_seq ?_
  refine k_reg ?_
  refine s_lt (t_pure (.pointer (some ⟨g1, 5, none⟩))) ?_
  refine s_lt (t_load 0 lv) ?_
  refine s_lt (t_len PlT_ok Tryd.underlying26 (.zn hM)) ?_
  refine s_lt (t_pure (.int .i64 (M.length : Int))) ?_
  refine s_nil ?_
  refine xs_then ?_
  refine k_seq ?_
  refine k_seq ?_
  refine k_reg ?_
  refine s_lt (t_pure (.pointer (some ⟨g1, 5, none⟩))) ?_
  refine s_lt (t_load 0 lv) ?_
  refine s_lt (t_len PlT_ok Tryd.underlying26 (.zn hM)) ?_
  refine s_lt (t_pure (.int .i64 0)) ?_
  refine s_nil ?_
  refine xs_then ?_
  refine k_block ?_
  refine k_mem (fun _ h => Holds.nilS (T := strT 9) h) ?_
  rw [← linesU_zero M]
  refine k_loop (ι := Value × Nat) (fun (sx, i) => i ≤ M.length) (fun (sx, i) => [(2, (.slice none 0 0)), (3, sx), (4, .int .i64 (M.length : Int)), (11, lv), (12, .int .i64 (M.length : Int)), (13, .int .i64 (i : Int))]) (fun (sx, i) => [own (strT 9) sx (linesU M i), blkA g1 #[.int .i64 v.kind, .int .i64 v.p, .int .i64 v.q, .string v.str, .int .i64 v.ref, lv] 41]) (fun (sx, i) => M.length - i) (.slice none 0 0, 0) (Nat.zero_le _) (sub_of rfl ⟨⟨rfl, rfl⟩, ⟨⟨rfl, rfl⟩, ⟨⟨rfl, rfl⟩, ⟨⟨rfl, rfl⟩, ⟨⟨rfl, rfl⟩, ⟨⟨rfl, rfl⟩, trivial⟩⟩⟩⟩⟩⟩) (fun _ h => h.re [0, 0] []) ?_
  rintro ⟨sx, i⟩ hi2
  replace hi2 : i ≤ M.length := hi2
  show SK _ _ _ _ _ [(2, (.slice none 0 0)), (3, sx), (4, .int .i64 (M.length : Int)), (11, lv), (12, .int .i64 (M.length : Int)), (13, .int .i64 (i : Int))] _ [own (strT 9) sx (linesU M i), blkA g1 #[.int .i64 v.kind, .int .i64 v.p, .int .i64 v.q, .string v.str, .int .i64 v.ref, lv] 41]
  have hll := linesU_len M i
  refine k_seq ?_
  refine k_reg ?_
  refine s_lt t_cmp ?_
  refine s_nil ?_
  refine xs_then ?_
  refine k_seq ?_
  refine k_cond (decide ((i : Int) < (M.length : Int))) (fun c3 => ?_) (fun c3 => ?_)
  ·
    have p4 := of_decide_eq_true c3
    refine k_skip ?_
    refine xs_then ?_
    refine k_seq ?_
    refine k_block ?_
    refine k_seq ?_
    refine k_reg ?_
    refine s_lt (t_pure (.int .i64 (i : Int))) ?_
    refine s_lt (t_index PlT_ok Tryd.underlying26 (.zn hM) (i : Int) i (by omega) (by (try simp only [List.length_nil, List.length_cons, List.length_append, List.length_take, List.length_drop, List.length_set, List.length_replicate, List.length_reverse, ByteArray.size_append, sz_mk]); omega) (by omega)) ?_
    obtain ⟨y5, hy6⟩ : ∃ y, M[i]? = some y := ⟨_, List.getElem?_eq_getElem (by (try simp only [List.length_nil, List.length_cons, List.length_append, List.length_take, List.length_drop, List.length_set, List.length_replicate, List.length_reverse, ByteArray.size_append, sz_mk]); omega)⟩
    refine s_lt (t_loadE PlT_ok (.zn hM) hy6) ?_
    refine s_alloc (.agg #[.string ByteArray.empty, .int .i64 0, .bool false]) #[.string ByteArray.empty, .int .i64 0, .bool false] (fun g7 => ?_)
    refine s_lt (t_pure (.int .i64 (i : Int))) ?_
    refine s_store 0 #[.string y5.name, .int .i64 y5.line, .bool y5.tail] ?_
    refine s_nil ?_
    refine xs_then ?_
    refine k_block ?_
    refine k_cut (ι := Unit) (fun _ => True) (fun _ => [(2, (.slice none 0 0)), (3, sx), (4, .int .i64 (M.length : Int)), (5, .int .i64 (i : Int)), (6, .pointer (some ⟨g7, 0, none⟩)), (11, lv), (12, .int .i64 (M.length : Int)), (13, .int .i64 (i : Int)), (14, .bool (decide ((i : Int) < (M.length : Int)))), (15, .int .i64 (i : Int)), (16, .pointer (some (elemAt PlT.size lv i))), (17, .agg #[.string y5.name, .int .i64 y5.line, .bool y5.tail]), (18, .bool ((decide ((M.length : Int) ≤ 21)) || ((decide ((i : Int) < 10)) || (decide (((M.length : Int) - 11) ≤ (i : Int)))))), (19, .int .i64 (M.length : Int)), (20, .bool (decide ((M.length : Int) ≤ 21))), (21, .bool (decide ((M.length : Int) ≤ 21))), (24, .bool ((decide ((M.length : Int) ≤ 21)) || (decide ((i : Int) < 10)))), (25, .bool ((decide ((M.length : Int) ≤ 21)) || (decide ((i : Int) < 10)))), (30, .bool ((decide ((M.length : Int) ≤ 21)) || ((decide ((i : Int) < 10)) || (decide (((M.length : Int) - 11) ≤ (i : Int))))))]) (fun _ => [blkA g7 #[.string y5.name, .int .i64 y5.line, .bool y5.tail] 35, own (strT 9) sx (linesU M i), blkA g1 #[.int .i64 v.kind, .int .i64 v.p, .int .i64 v.q, .string v.str, .int .i64 v.ref, lv] 41]) ?_ (fun _ _ => ?_)
    ·
      refine k_reg ?_
      refine s_lt (t_pure (.int .i64 (M.length : Int))) ?_
      refine s_lt t_cmp ?_
      refine s_lt (t_pure (.bool (decide ((M.length : Int) ≤ 21)))) ?_
      refine s_fork 21 (decide ((M.length : Int) ≤ 21)) (fun c8 => ?_) (fun c8 => ?_)
      ·
        have p9 := of_decide_eq_true c8
        refine s_skip ?_
        refine s_skip ?_
        refine s_lt (t_pure (.bool true)) ?_
        refine s_lt (t_pure (.bool true)) ?_
        refine s_skip ?_
        refine s_skip ?_
        refine s_skip ?_
        refine s_skip ?_
        refine s_lt (t_pure (.bool true)) ?_
        refine s_lt (t_pure (.bool true)) ?_
        refine s_nil ?_
        exact xs_cut () trivial (sub_of rfl ⟨⟨rfl, rfl⟩, ⟨⟨rfl, rfl⟩, ⟨⟨rfl, rfl⟩, ⟨⟨rfl, rfl⟩, ⟨⟨rfl, rfl⟩, ⟨⟨rfl, rfl⟩, ⟨⟨rfl, rfl⟩, ⟨⟨rfl, rfl⟩, ⟨⟨rfl, rfl⟩, ⟨⟨rfl, rfl⟩, ⟨⟨rfl, rfl⟩, ⟨⟨rfl, rfl⟩, ⟨⟨rfl, show Value.bool true = Value.bool ((decide ((M.length : Int) ≤ 21)) || ((decide ((i : Int) < 10)) || (decide (((M.length : Int) - 11) ≤ (i : Int))))) by first | (simp only [c8, Bool.true_and, Bool.false_and, Bool.and_true, Bool.and_false, Bool.true_or, Bool.or_true, Bool.false_or, Bool.or_false, Bool.not_true, Bool.not_false]; done) | simp [c8]⟩, ⟨⟨rfl, rfl⟩, ⟨⟨rfl, rfl⟩, ⟨⟨rfl, show Value.bool true = Value.bool (decide ((M.length : Int) ≤ 21)) by first | (simp only [c8, Bool.true_and, Bool.false_and, Bool.and_true, Bool.and_false, Bool.true_or, Bool.or_true, Bool.false_or, Bool.or_false, Bool.not_true, Bool.not_false]; done) | simp [c8]⟩, ⟨⟨rfl, show Value.bool true = Value.bool ((decide ((M.length : Int) ≤ 21)) || (decide ((i : Int) < 10))) by first | (simp only [c8, Bool.true_and, Bool.false_and, Bool.and_true, Bool.and_false, Bool.true_or, Bool.or_true, Bool.false_or, Bool.or_false, Bool.not_true, Bool.not_false]; done) | simp [c8]⟩, ⟨⟨rfl, show Value.bool true = Value.bool ((decide ((M.length : Int) ≤ 21)) || (decide ((i : Int) < 10))) by first | (simp only [c8, Bool.true_and, Bool.false_and, Bool.and_true, Bool.and_false, Bool.true_or, Bool.or_true, Bool.false_or, Bool.or_false, Bool.not_true, Bool.not_false]; done) | simp [c8]⟩, ⟨⟨rfl, show Value.bool true = Value.bool ((decide ((M.length : Int) ≤ 21)) || ((decide ((i : Int) < 10)) || (decide (((M.length : Int) - 11) ≤ (i : Int))))) by first | (simp only [c8, Bool.true_and, Bool.false_and, Bool.and_true, Bool.and_false, Bool.true_or, Bool.or_true, Bool.false_or, Bool.or_false, Bool.not_true, Bool.not_false]; done) | simp [c8]⟩, trivial⟩⟩⟩⟩⟩⟩⟩⟩⟩⟩⟩⟩⟩⟩⟩⟩⟩⟩⟩) (fun _ h => h.re [0, 0, 0] [])
      ·
        have p10 := of_decide_eq_false c8
        refine s_lt (t_pure (.int .i64 (i : Int))) ?_
        refine s_lt t_cmp ?_
        refine s_lt (t_pure (.bool (decide ((i : Int) < 10)))) ?_
        refine s_lt (t_pure (.bool (decide ((i : Int) < 10)))) ?_
        refine s_fork 25 (decide ((i : Int) < 10)) (fun c11 => ?_) (fun c11 => ?_)
        ·
          have p12 := of_decide_eq_true c11
          refine s_skip ?_
          refine s_skip ?_
          refine s_skip ?_
          refine s_skip ?_
          refine s_lt (t_pure (.bool true)) ?_
          refine s_lt (t_pure (.bool true)) ?_
          refine s_nil ?_
          exact xs_cut () trivial (sub_of rfl ⟨⟨rfl, rfl⟩, ⟨⟨rfl, rfl⟩, ⟨⟨rfl, rfl⟩, ⟨⟨rfl, rfl⟩, ⟨⟨rfl, rfl⟩, ⟨⟨rfl, rfl⟩, ⟨⟨rfl, rfl⟩, ⟨⟨rfl, rfl⟩, ⟨⟨rfl, rfl⟩, ⟨⟨rfl, rfl⟩, ⟨⟨rfl, rfl⟩, ⟨⟨rfl, rfl⟩, ⟨⟨rfl, show Value.bool true = Value.bool ((decide ((M.length : Int) ≤ 21)) || ((decide ((i : Int) < 10)) || (decide (((M.length : Int) - 11) ≤ (i : Int))))) by first | (simp only [c8, c11, Bool.true_and, Bool.false_and, Bool.and_true, Bool.and_false, Bool.true_or, Bool.or_true, Bool.false_or, Bool.or_false, Bool.not_true, Bool.not_false]; done) | simp [c8, c11]⟩, ⟨⟨rfl, rfl⟩, ⟨⟨rfl, rfl⟩, ⟨⟨rfl, show Value.bool false = Value.bool (decide ((M.length : Int) ≤ 21)) by first | (simp only [c8, c11, Bool.true_and, Bool.false_and, Bool.and_true, Bool.and_false, Bool.true_or, Bool.or_true, Bool.false_or, Bool.or_false, Bool.not_true, Bool.not_false]; done) | simp [c8, c11]⟩, ⟨⟨rfl, show Value.bool (decide ((i : Int) < 10)) = Value.bool ((decide ((M.length : Int) ≤ 21)) || (decide ((i : Int) < 10))) by first | (simp only [c8, c11, Bool.true_and, Bool.false_and, Bool.and_true, Bool.and_false, Bool.true_or, Bool.or_true, Bool.false_or, Bool.or_false, Bool.not_true, Bool.not_false]; done) | simp [c8, c11]⟩, ⟨⟨rfl, show Value.bool true = Value.bool ((decide ((M.length : Int) ≤ 21)) || (decide ((i : Int) < 10))) by first | (simp only [c8, c11, Bool.true_and, Bool.false_and, Bool.and_true, Bool.and_false, Bool.true_or, Bool.or_true, Bool.false_or, Bool.or_false, Bool.not_true, Bool.not_false]; done) | simp [c8, c11]⟩, ⟨⟨rfl, show Value.bool true = Value.bool ((decide ((M.length : Int) ≤ 21)) || ((decide ((i : Int) < 10)) || (decide (((M.length : Int) - 11) ≤ (i : Int))))) by first | (simp only [c8, c11, Bool.true_and, Bool.false_and, Bool.and_true, Bool.and_false, Bool.true_or, Bool.or_true, Bool.false_or, Bool.or_false, Bool.not_true, Bool.not_false]; done) | simp [c8, c11]⟩, trivial⟩⟩⟩⟩⟩⟩⟩⟩⟩⟩⟩⟩⟩⟩⟩⟩⟩⟩⟩) (fun _ h => h.re [0, 0, 0] [])
        ·
          have p13 := of_decide_eq_false c11
          refine s_lt (t_pure (.int .i64 (i : Int))) ?_
          refine s_lt (t_pure (.int .i64 (M.length : Int))) ?_
          refine s_lt (t_sub (M.length : Int) 11 (by (try simp only [List.length_nil, List.length_cons, List.length_append, List.length_take, List.length_drop, List.length_set, List.length_replicate, List.length_reverse, ByteArray.size_append, sz_mk]); omega)) ?_
          refine s_lt t_cmp ?_
          refine s_lt (t_pure (.bool (decide (((M.length : Int) - 11) ≤ (i : Int))))) ?_
          refine s_lt (t_pure (.bool (decide (((M.length : Int) - 11) ≤ (i : Int))))) ?_
          refine s_nil ?_
          exact xs_cut () trivial (sub_of rfl ⟨⟨rfl, rfl⟩, ⟨⟨rfl, rfl⟩, ⟨⟨rfl, rfl⟩, ⟨⟨rfl, rfl⟩, ⟨⟨rfl, rfl⟩, ⟨⟨rfl, rfl⟩, ⟨⟨rfl, rfl⟩, ⟨⟨rfl, rfl⟩, ⟨⟨rfl, rfl⟩, ⟨⟨rfl, rfl⟩, ⟨⟨rfl, rfl⟩, ⟨⟨rfl, rfl⟩, ⟨⟨rfl, show Value.bool (decide (((M.length : Int) - 11) ≤ (i : Int))) = Value.bool ((decide ((M.length : Int) ≤ 21)) || ((decide ((i : Int) < 10)) || (decide (((M.length : Int) - 11) ≤ (i : Int))))) by first | (simp only [c8, c11, Bool.true_and, Bool.false_and, Bool.and_true, Bool.and_false, Bool.true_or, Bool.or_true, Bool.false_or, Bool.or_false, Bool.not_true, Bool.not_false]; done) | simp [c8, c11]⟩, ⟨⟨rfl, rfl⟩, ⟨⟨rfl, rfl⟩, ⟨⟨rfl, show Value.bool false = Value.bool (decide ((M.length : Int) ≤ 21)) by first | (simp only [c8, c11, Bool.true_and, Bool.false_and, Bool.and_true, Bool.and_false, Bool.true_or, Bool.or_true, Bool.false_or, Bool.or_false, Bool.not_true, Bool.not_false]; done) | simp [c8, c11]⟩, ⟨⟨rfl, show Value.bool (decide ((i : Int) < 10)) = Value.bool ((decide ((M.length : Int) ≤ 21)) || (decide ((i : Int) < 10))) by first | (simp only [c8, c11, Bool.true_and, Bool.false_and, Bool.and_true, Bool.and_false, Bool.true_or, Bool.or_true, Bool.false_or, Bool.or_false, Bool.not_true, Bool.not_false]; done) | simp [c8, c11]⟩, ⟨⟨rfl, show Value.bool false = Value.bool ((decide ((M.length : Int) ≤ 21)) || (decide ((i : Int) < 10))) by first | (simp only [c8, c11, Bool.true_and, Bool.false_and, Bool.and_true, Bool.and_false, Bool.true_or, Bool.or_true, Bool.false_or, Bool.or_false, Bool.not_true, Bool.not_false]; done) | simp [c8, c11]⟩, ⟨⟨rfl, show Value.bool (decide (((M.length : Int) - 11) ≤ (i : Int))) = Value.bool ((decide ((M.length : Int) ≤ 21)) || ((decide ((i : Int) < 10)) || (decide (((M.length : Int) - 11) ≤ (i : Int))))) by first | (simp only [c8, c11, Bool.true_and, Bool.false_and, Bool.and_true, Bool.and_false, Bool.true_or, Bool.or_true, Bool.false_or, Bool.or_false, Bool.not_true, Bool.not_false]; done) | simp [c8, c11]⟩, trivial⟩⟩⟩⟩⟩⟩⟩⟩⟩⟩⟩⟩⟩⟩⟩⟩⟩⟩⟩) (fun _ h => h.re [0, 0, 0] [])
    ·
      refine k_cond ((decide ((M.length : Int) ≤ 21)) || ((decide ((i : Int) < 10)) || (decide (((M.length : Int) - 11) ≤ (i : Int))))) (fun c14 => ?_) (fun c14 => ?_)
      ·
        have p15 := c14
        simp only [Bool.and_eq_true, Bool.or_eq_true, Bool.and_eq_false_iff, Bool.or_eq_false_iff, Bool.not_eq_true', Bool.not_eq_false', decide_eq_true_eq, decide_eq_false_iff_not] at p15
        refine k_reg ?_
        refine s_lt (t_pure sx) ?_
        refine s_lt (t_loadA 0 #[.string y5.name, .int .i64 y5.line, .bool y5.tail]) ?_
        refine s_vcall (fun _ h => line_s (ht.at h) y5 (hok _ (List.mem_of_getElem? hy6))) ?_
        rintro _ rfl
        refine s_buildSlice (e := 9) [(0, .string (lineT y5))] #[.string (lineT y5)] (fun g16 => ?_) (hb := by kernel_rfl)
        refine s_append (L := (linesU M i)) 2 st_ok Tryd.underlying46 (.lit 0 st_ok [(lineT y5)]) (by show _ * 16 ≤ _; (try simp only [List.length_nil, List.length_cons, List.length_append, List.length_take, List.length_drop, List.length_set, List.length_replicate, List.length_reverse, ByteArray.size_append, sz_mk]); omega) (by (try simp only [List.length_nil, List.length_cons, List.length_append, List.length_take, List.length_drop, List.length_set, List.length_replicate, List.length_reverse, ByteArray.size_append, sz_mk]); omega) (fun v17 => ?_)
        refine s_lt (t_pure v17) ?_
        refine s_nil ?_
        refine xs_block ?_
        refine xs_block ?_
        refine xs_then ?_
        refine k_reg ?_
        refine s_lt (t_add (i : Int) 1 (by (try simp only [List.length_nil, List.length_cons, List.length_append, List.length_take, List.length_drop, List.length_set, List.length_replicate, List.length_reverse, ByteArray.size_append, sz_mk]); omega)) ?_
        refine s_lt (t_pure (.int .i64 ((i : Int) + 1))) ?_
        refine s_nil ?_
        rw [linesU_line hy6 (by omega)]
        exact xs_round (v17, i + 1) (by show M.length - (i + 1) < M.length - i; omega) (by show i + 1 ≤ M.length; omega) (sub_of rfl ⟨⟨rfl, rfl⟩, ⟨⟨rfl, rfl⟩, ⟨⟨rfl, rfl⟩, ⟨⟨rfl, rfl⟩, ⟨⟨rfl, rfl⟩, ⟨⟨rfl, rfl⟩, trivial⟩⟩⟩⟩⟩⟩) (fun _ h => h.re [2, 2] [2, 2])
      ·
        obtain ⟨c18, c19⟩ := or_f c14
        have p20 := of_decide_eq_false c18
        obtain ⟨c21, c22⟩ := or_f c19
        have p23 := of_decide_eq_false c21
        have p24 := of_decide_eq_false c22
        refine k_seq ?_
        refine k_reg ?_
        refine s_lt (t_pure (.int .i64 (i : Int))) ?_
        refine s_lt t_cmp ?_
        refine s_lt (t_pure (.bool (decide ((i : Int) = 10)))) ?_
        refine s_nil ?_
        refine xs_then ?_
        refine k_cond (decide ((i : Int) = 10)) (fun c25 => ?_) (fun c25 => ?_)
        ·
          have p26 := of_decide_eq_true c25
          refine k_reg ?_
          refine s_lt (t_pure sx) ?_
          refine s_buildSlice (e := 9) [(0, .string ⟨#[46, 46, 46]⟩)] #[.string ⟨#[46, 46, 46]⟩] (fun g27 => ?_) (hb := by kernel_rfl)
          refine s_append (L := (linesU M i)) 2 st_ok Tryd.underlying46 (.lit 0 st_ok [⟨#[46, 46, 46]⟩]) (by show _ * 16 ≤ _; (try simp only [List.length_nil, List.length_cons, List.length_append, List.length_take, List.length_drop, List.length_set, List.length_replicate, List.length_reverse, ByteArray.size_append, sz_mk]); omega) (by (try simp only [List.length_nil, List.length_cons, List.length_append, List.length_take, List.length_drop, List.length_set, List.length_replicate, List.length_reverse, ByteArray.size_append, sz_mk]); omega) (fun v28 => ?_)
          refine s_lt (t_pure v28) ?_
          refine s_nil ?_
          refine xs_block ?_
          refine xs_block ?_
          refine xs_then ?_
          refine k_reg ?_
          refine s_lt (t_add (i : Int) 1 (by (try simp only [List.length_nil, List.length_cons, List.length_append, List.length_take, List.length_drop, List.length_set, List.length_replicate, List.length_reverse, ByteArray.size_append, sz_mk]); omega)) ?_
          refine s_lt (t_pure (.int .i64 ((i : Int) + 1))) ?_
          refine s_nil ?_
          rw [show (⟨#[46, 46, 46]⟩ : ByteArray) = dots from rfl, linesU_dots (by omega) (by omega) (by omega)]
          exact xs_round (v28, i + 1) (by show M.length - (i + 1) < M.length - i; omega) (by show i + 1 ≤ M.length; omega) (sub_of rfl ⟨⟨rfl, rfl⟩, ⟨⟨rfl, rfl⟩, ⟨⟨rfl, rfl⟩, ⟨⟨rfl, rfl⟩, ⟨⟨rfl, rfl⟩, ⟨⟨rfl, rfl⟩, trivial⟩⟩⟩⟩⟩⟩) (fun _ h => h.re [2, 2] [2, 2])
        ·
          have p29 := of_decide_eq_false c25
          refine k_skip ?_
          refine xs_block ?_
          refine xs_block ?_
          refine xs_then ?_
          refine k_reg ?_
          refine s_lt (t_add (i : Int) 1 (by (try simp only [List.length_nil, List.length_cons, List.length_append, List.length_take, List.length_drop, List.length_set, List.length_replicate, List.length_reverse, ByteArray.size_append, sz_mk]); omega)) ?_
          refine s_lt (t_pure (.int .i64 ((i : Int) + 1))) ?_
          refine s_nil ?_
          rw [linesU_skip (M := M) (by omega) (by omega) (by omega)]
          exact xs_round (sx, i + 1) (by show M.length - (i + 1) < M.length - i; omega) (by show i + 1 ≤ M.length; omega) (sub_of rfl ⟨⟨rfl, rfl⟩, ⟨⟨rfl, rfl⟩, ⟨⟨rfl, rfl⟩, ⟨⟨rfl, rfl⟩, ⟨⟨rfl, rfl⟩, ⟨⟨rfl, rfl⟩, trivial⟩⟩⟩⟩⟩⟩) (fun _ h => h.re [1, 1] [2])
  ·
    have p30 := of_decide_eq_false c3
    refine k_exit ?_
    refine xs_exit ?_
    refine xs_exit ?_
    refine xs_here ?_
    refine xs_then ?_
    refine k_seq ?_
    refine k_reg ?_
    refine s_lt (t_pure sx) ?_
    refine s_lt (t_pure sx) ?_
    refine s_nil ?_
    refine xs_then ?_
    refine k_ret ?_
    have e : i = M.length := by omega
    subst e
    exact xs_fin [sx] [own (strT 9) sx (linesT M)] (SI.tmp 2 SI.nil) (fun _ h => h.re [0] [1]) rfl
end Go.Proofs.YtdakfjdbdopmbaaDoor
