/-
  A stack in memory: the other methods of the program.
-/
import Derived.Test.YtdakfjdbdopmbaaDoorKW2
set_option linter.unusedSimpArgs false
set_option linter.unusedVariables false
set_option maxRecDepth 100000
namespace Go.Proofs.YtdakfjdbdopmbaaDoor.St
open Go.Hp Go.J Go.S
open Go.Mem (Ty KTy blk elemAt pre suf blk_pre blk_suf aget aset strK aggDesc)
theorem top_s {Z : Zone} {F : List Asr} {b : Nat} {L : List Vl} {lim : Int}  : SF Tryd.prog 39 #[.pointer (some ⟨b, 0, none⟩)] Z (stkA 78 b L lim :: F) fun r Bs => r = .int .i64 (L.length : Int) ∧ Bs = stkA 78 b L lim :: F := by
  refine sf_enter Tryd.func39 10 [(0, .pointer (some ⟨b, 0, none⟩))] (fun w0 => ?_)
  refine k_fact (fun H h => stk_len (h.re [0] [])) (fun hl => ?_)
  obtain ⟨hl1, hl2, hl3⟩ := hl
  refine k_seq ?_
  refine k_reg ?_
  refine s_lt (t_pure (.int .i64 0)) ?_
  refine s_nil ?_
  refine xs_then ?_
  refine k_seq ?_
  refine k_seq ?_
  refine k_reg ?_
  refine s_lt (t_pure (.pointer (some ⟨b, 0, none⟩))) ?_
  refine s_lt (t_pure (.bool false)) ?_
  refine s_nil ?_
  refine xs_then ?_
  refine k_false ?_
  refine k_skip ?_
  refine xs_then ?_
  refine k_seq ?_
  refine k_reg ?_
  refine s_lt (t_pure (.pointer (some ⟨b, 0, none⟩))) ?_
  refine s_lt (t_pure (.pointer (some ⟨b, 0, none⟩))) ?_
  refine s_lt (t_pure (.pointer (some ⟨b, 0, none⟩))) ?_
  refine s_memX (fun H h => stk_open (h.re [0] [])) (fun sv4 hw => ?_)
  obtain ⟨hw5, hw6, hw7⟩ := hw
  refine s_lt (t_load 0 sv4) ?_
  refine s_lt (t_len VlT_ok Tryd.underlying61 (.own 1)) ?_
  refine s_lt (t_pure (.int .i64 (L.length : Int))) ?_
  refine s_nil ?_
  refine xs_then ?_
  refine k_ret ?_
  have hp : (L.length : Int) = (L.length : Int) := by
    rfl
  refine xs_fin [.int .i64 (L.length : Int)] (stkA 78 b L lim :: F) (SI.tmp 2 SI.nil) (fun _ h => stk_shut ⟨by omega, by omega, by (try simp only [List.length_nil, List.length_cons, List.length_append, List.length_take, List.length_drop, List.length_set, List.length_replicate, List.length_reverse]); omega⟩ (h.re [0, 0] [])) ?_
  rw [hp]; exact ⟨rfl, rfl⟩
theorem top_n {Z : Zone}  : SF Tryd.prog 39 #[.pointer none] Z [] fun r Bs => r = .int .i64 0 ∧ Bs = [] := by
  refine sf_enter Tryd.func39 10 [(0, .pointer none)] (fun w0 => ?_)
  refine k_seq ?_
  refine k_reg ?_
  refine s_lt (t_pure (.int .i64 0)) ?_
  refine s_nil ?_
  refine xs_then ?_
  refine k_seq ?_
  refine k_seq ?_
  refine k_reg ?_
  refine s_lt (t_pure (.pointer none)) ?_
  refine s_lt (t_pure (.bool true)) ?_
  refine s_nil ?_
  refine xs_then ?_
  refine k_true ?_
  refine k_seq ?_
  refine k_reg ?_
  refine s_lt (t_pure (.int .i64 0)) ?_
  refine s_nil ?_
  refine xs_then ?_
  refine k_ret ?_
  refine xs_ret ?_
  refine xs_fin [.int .i64 0] [] (SI.tmp 2 SI.nil) (fun _ h => h.re [] []) ⟨?_, rfl⟩
  rfl
theorem list_s {Z : Zone} {F : List Asr} {b : Nat} {L : List Vl} {lim : Int} : SF Tryd.prog 37 #[.pointer (some ⟨b, 0, none⟩)] Z (stkA 78 b L lim :: F) fun r Bs => Bs = own VlT r L :: stkA 78 b L lim :: F := by
  refine sf_enter Tryd.func37 10 [(0, .pointer (some ⟨b, 0, none⟩))] (fun w0 => ?_)
  refine k_fact (fun H h => stk_len (h.re [0] [])) (fun hl => ?_)
  obtain ⟨hl1, hl2, hl3⟩ := hl
  refine k_seq ?_
  refine k_reg ?_
  refine s_lt (t_pure (.slice none 0 0)) ?_
  refine s_nil ?_
  refine xs_then ?_
  refine k_seq ?_
  refine k_seq ?_
  refine k_reg ?_
  refine s_lt (t_pure (.pointer (some ⟨b, 0, none⟩))) ?_
  refine s_lt (t_pure (.bool false)) ?_
  refine s_nil ?_
  refine xs_then ?_
  refine k_false ?_
  refine k_skip ?_
  refine xs_then ?_
  refine k_seq ?_
  refine k_reg ?_
  refine s_lt (t_pure (.pointer (some ⟨b, 0, none⟩))) ?_
  refine s_lt (t_pure (.pointer (some ⟨b, 0, none⟩))) ?_
  refine s_lt (t_pure (.pointer (some ⟨b, 0, none⟩))) ?_
  refine s_memX (fun H h => stk_open (h.re [0] [])) (fun sv4 hw => ?_)
  obtain ⟨hw5, hw6, hw7⟩ := hw
  refine s_lt (t_load 0 sv4) ?_
  refine s_pcall (fun _ h => clone_s (Acc.kn (.own 1) h) (by (try simp only [List.length_nil, List.length_cons, List.length_append, List.length_take, List.length_drop, List.length_set, List.length_replicate, List.length_reverse]); omega)) ?_
  rintro v8 _ rfl
  refine s_lt (t_pure v8) ?_
  refine s_nil ?_
  refine xs_then ?_
  refine k_ret ?_
  refine xs_mem (fun _ h => stk_shut ⟨by omega, by omega, by (try simp only [List.length_nil, List.length_cons, List.length_append, List.length_take, List.length_drop, List.length_set, List.length_replicate, List.length_reverse]); omega⟩ (h.re [1, 1] [])) ?_
  exact xs_fin [v8] (own VlT v8 L :: stkA 78 b L lim :: F) (SI.tmp 2 SI.nil) (fun _ h => h.re [1, 0] []) rfl
theorem list_n {Z : Zone} : SF Tryd.prog 37 #[.pointer none] Z [] fun r Bs => Bs = [own VlT r []] := by
  refine sf_enter Tryd.func37 10 [(0, .pointer none)] (fun w0 => ?_)
  refine k_seq ?_
  refine k_reg ?_
  refine s_lt (t_pure (.slice none 0 0)) ?_
  refine s_nil ?_
  refine xs_then ?_
  refine k_seq ?_
  refine k_seq ?_
  refine k_reg ?_
  refine s_lt (t_pure (.pointer none)) ?_
  refine s_lt (t_pure (.bool true)) ?_
  refine s_nil ?_
  refine xs_then ?_
  refine k_true ?_
  refine k_seq ?_
  refine k_reg ?_
  refine s_lt (t_pure (.slice none 0 0)) ?_
  refine s_nil ?_
  refine xs_then ?_
  refine k_ret ?_
  refine xs_ret ?_
  exact xs_fin [.slice none 0 0] [own VlT (.slice none 0 0) []] (SI.tmp 2 SI.nil) (fun _ h => h.nilS) rfl
theorem new_s {Z : Zone} (n : Int) : SF Tryd.prog 14 #[.int .i64 n] Z [] fun r Bs => (¬ (1 ≤ n ∧ n ≤ 1000) ∧ r = .tuple #[.pointer none, .int .i64 2] ∧ Bs = []) ∨ ∃ b, 1 ≤ n ∧ n ≤ 1000 ∧ r = .tuple #[.pointer (some ⟨b, 0, none⟩), .int .i64 0] ∧ Bs = [stkA 78 b [] n] := by
  refine sf_enter Tryd.func14 13 [(0, .int .i64 n)] (fun w0 => ?_)
  refine k_seq ?_
  refine k_reg ?_
  refine s_lt (t_pure (.pointer none)) ?_
  refine s_lt (t_pure (.int .i64 0)) ?_
  refine s_nil ?_
  refine xs_then ?_
  refine k_seq ?_
  refine k_cut (ι := Unit) (fun _ => True) (fun _ => [(0, .int .i64 n), (2, .pointer none), (3, .int .i64 0), (9, .bool ((decide (n < 1)) || (decide ((1000 : Int) < n))))]) (fun _ => []) ?_ (fun _ _ => ?_)
  ·
    refine k_reg ?_
    refine s_lt (t_pure (.int .i64 n)) ?_
    refine s_lt t_cmp ?_
    refine s_lt (t_pure (.bool (decide (n < 1)))) ?_
    refine s_fork 6 (decide (n < 1)) (fun c1 => ?_) (fun c1 => ?_)
    ·
      have p2 := of_decide_eq_true c1
      refine s_skip ?_
      refine s_skip ?_
      refine s_lt (t_pure (.bool true)) ?_
      refine s_nil ?_
      exact xs_cut () trivial (sub_of rfl ⟨⟨rfl, rfl⟩, ⟨⟨rfl, rfl⟩, ⟨⟨rfl, rfl⟩, ⟨⟨rfl, show Value.bool true = Value.bool ((decide (n < 1)) || (decide ((1000 : Int) < n))) by first | (simp only [c1, Bool.true_and, Bool.false_and, Bool.and_true, Bool.and_false, Bool.true_or, Bool.or_true, Bool.false_or, Bool.or_false, Bool.not_true, Bool.not_false]; done) | simp [c1]⟩, trivial⟩⟩⟩⟩) (fun _ h => h.re [] [])
    ·
      have p3 := of_decide_eq_false c1
      refine s_lt (t_pure (.int .i64 n)) ?_
      refine s_lt t_cmp ?_
      refine s_lt (t_pure (.bool (decide ((1000 : Int) < n)))) ?_
      refine s_nil ?_
      exact xs_cut () trivial (sub_of rfl ⟨⟨rfl, rfl⟩, ⟨⟨rfl, rfl⟩, ⟨⟨rfl, rfl⟩, ⟨⟨rfl, show Value.bool (decide ((1000 : Int) < n)) = Value.bool ((decide (n < 1)) || (decide ((1000 : Int) < n))) by first | (simp only [c1, Bool.true_and, Bool.false_and, Bool.and_true, Bool.and_false, Bool.true_or, Bool.or_true, Bool.false_or, Bool.or_false, Bool.not_true, Bool.not_false]; done) | simp [c1]⟩, trivial⟩⟩⟩⟩) (fun _ h => h.re [] [])
  ·
    refine k_cond ((decide (n < 1)) || (decide ((1000 : Int) < n))) (fun c4 => ?_) (fun c4 => ?_)
    ·
      have p5 := c4
      simp only [Bool.and_eq_true, Bool.or_eq_true, Bool.and_eq_false_iff, Bool.or_eq_false_iff, Bool.not_eq_true', Bool.not_eq_false', decide_eq_true_eq, decide_eq_false_iff_not] at p5
      refine k_seq ?_
      refine k_reg ?_
      refine s_lt (t_pure (.pointer none)) ?_
      refine s_lt (t_pure (.int .i64 2)) ?_
      refine s_nil ?_
      refine xs_then ?_
      refine k_ret ?_
      refine xs_ret ?_
      exact xs_fin [.pointer none, .int .i64 2] [] (SI.tmp 2 (SI.tmp 3 SI.nil)) (fun _ h => h.re [] []) (.inl ⟨by omega, rfl, rfl⟩)
    ·
      obtain ⟨c6, c7⟩ := or_f c4
      have p8 := of_decide_eq_false c6
      have p9 := of_decide_eq_false c7
      refine k_skip ?_
      refine xs_then ?_
      refine k_seq ?_
      refine k_reg ?_
      refine s_lt (t_pure (.int .i64 n)) ?_
      refine s_lt (t_kern (.agg #[(.slice none 0 0), .int .i64 n])) ?_
      refine s_box #[(.slice none 0 0), .int .i64 n] (fun g10 => ?_)
      refine s_lt (t_pure (.pointer (some ⟨g10, 0, none⟩))) ?_
      refine s_lt (t_pure (.int .i64 0)) ?_
      refine s_nil ?_
      refine xs_then ?_
      refine k_ret ?_
      exact xs_fin [.pointer (some ⟨g10, 0, none⟩), .int .i64 0] [stkA 78 g10 [] n] (SI.tmp 2 (SI.tmp 3 SI.nil)) (fun _ h => stk_shut ⟨by omega, by omega, by simp; omega⟩ (h.nilS.re [1, 0] [])) (.inr ⟨g10, by omega, by omega, rfl, rfl⟩)
theorem rot_s {Z : Zone} {F : List Asr} {b : Nat} {L : List Vl} {lim : Int} (i n : Int) : SF Tryd.prog 46 #[.pointer (some ⟨b, 0, none⟩), .int .i64 i, .int .i64 n] Z (stkA 78 b L lim :: F) fun r Bs => r = .int .i64 (rotR L i n).1 ∧ Bs = stkA 78 b (rotR L i n).2 lim :: F := by
  refine sf_enter Tryd.func46 52 [(0, .pointer (some ⟨b, 0, none⟩)), (1, .int .i64 i), (2, .int .i64 n)] (fun w0 => ?_)
  refine k_fact (fun H h => stk_len (h.re [0] [])) (fun hl => ?_)
  obtain ⟨hl1, hl2, hl3⟩ := hl
  refine k_seq ?_
  refine k_reg ?_
  refine s_lt (t_pure (.int .i64 0)) ?_
  refine s_nil ?_
  refine xs_then ?_
  refine k_seq ?_
  refine k_reg ?_
  refine s_lt (t_pure (.pointer (some ⟨b, 0, none⟩))) ?_
  refine s_lt (t_pure (.int .i64 i)) ?_
  refine s_call [0] (place_s i) ?_
  rintro _ _ ⟨rfl, rfl⟩
  refine s_lt (t_pure (.tuple #[.int .i64 ((placeR (L.length : Int) i).1), .int .i64 ((placeR (L.length : Int) i).2)])) ?_
  refine s_lt (t_pure (.int .i64 ((placeR (L.length : Int) i).1))) ?_
  refine s_lt (t_pure (.int .i64 ((placeR (L.length : Int) i).2))) ?_
  refine s_lt (t_pure (.int .i64 ((placeR (L.length : Int) i).1))) ?_
  refine s_lt (t_pure (.int .i64 ((placeR (L.length : Int) i).2))) ?_
  refine s_nil ?_
  refine xs_then ?_
  refine k_seq ?_
  refine k_seq ?_
  refine k_reg ?_
  refine s_lt (t_pure (.int .i64 ((placeR (L.length : Int) i).2))) ?_
  refine s_lt t_cmp ?_
  refine s_nil ?_
  refine xs_then ?_
  refine k_cond (decide ((placeR (L.length : Int) i).2 ≠ 0)) (fun c4 => ?_) (fun c4 => ?_)
  ·
    have p5 := of_decide_eq_true c4
    have hq6 := placeR_err (n := (L.length : Int)) (i := i) (by omega)
    refine k_seq ?_
    refine k_reg ?_
    refine s_lt (t_pure (.int .i64 ((placeR (L.length : Int) i).2))) ?_
    refine s_lt (t_pure (.int .i64 ((placeR (L.length : Int) i).2))) ?_
    refine s_nil ?_
    refine xs_then ?_
    refine k_ret ?_
    refine xs_ret ?_
    have hp : rotR L i n = ((placeR (L.length : Int) i).2, L) := by
      simp [rotR, p5, hq6]
    refine xs_fin [.int .i64 ((placeR (L.length : Int) i).2)] (stkA 78 b L lim :: F) (SI.tmp 6 SI.nil) (fun _ h => h.re [0] []) ?_
    rw [hp]; exact ⟨rfl, rfl⟩
  ·
    have p7 := Decidable.not_not.1 (of_decide_eq_false c4)
    have hq8 := placeR_lt (n := (L.length : Int)) (i := i) (by omega) (by omega)
    refine k_skip ?_
    refine xs_then ?_
    refine k_seq ?_
    refine k_reg ?_
    refine s_lt (t_pure (.pointer (some ⟨b, 0, none⟩))) ?_
    refine s_lt (t_pure (.pointer (some ⟨b, 0, none⟩))) ?_
    refine s_lt (t_pure (.pointer (some ⟨b, 0, none⟩))) ?_
    refine s_memX (fun H h => stk_open (h.re [0] [])) (fun sv9 hw => ?_)
    obtain ⟨hw10, hw11, hw12⟩ := hw
    refine s_lt (t_load 0 sv9) ?_
    refine s_lt (t_pure (.int .i64 ((placeR (L.length : Int) i).1))) ?_
    refine s_lt (t_suf VlT_ok Tryd.underlying61 (.own 1) ((placeR (L.length : Int) i).1) (((placeR (L.length : Int) i).1).toNat) (by omega) (by (try simp only [List.length_nil, List.length_cons, List.length_append, List.length_take, List.length_drop, List.length_set, List.length_replicate, List.length_reverse]); omega) (by omega)) ?_
    refine s_lt (t_pure (suf VlT.size sv9 (((placeR (L.length : Int) i).1).toNat))) ?_
    refine s_nil ?_
    refine xs_then ?_
    refine k_seq ?_
    refine k_reg ?_
    refine s_lt (t_pure (.int .i64 n)) ?_
    refine s_lt (t_pure (suf VlT.size sv9 (((placeR (L.length : Int) i).1).toNat))) ?_
    refine s_lt (t_len VlT_ok Tryd.underlying61 (Acc.suf (.own 1) VlT_ok (((placeR (L.length : Int) i).1).toNat) (by (try simp only [List.length_nil, List.length_cons, List.length_append, List.length_take, List.length_drop, List.length_set, List.length_replicate, List.length_reverse]); omega))) ?_
    obtain ⟨m13, hm14⟩ : ∃ m : Nat, m = (L.drop (((placeR (L.length : Int) i).1).toNat)).length := ⟨_, rfl⟩
    have hm15 := hm14; simp only [List.length_drop, List.length_take] at hm15
    rw [← hm14]
    have ht16 : (0 : Int) < (m13 : Int) := by omega
    have ht17 := Int.tmod_lt_of_pos n ht16; have ht18 := Int.lt_tmod_of_pos n ht16; have ht19 := tmod_emod n (m13 : Int) ht16
    refine s_lt (t_rem n (m13 : Int) (by omega)) ?_
    refine s_lt (t_pure (.int .i64 (Int.tmod n (m13 : Int)))) ?_
    refine s_nil ?_
    refine xs_then ?_
    refine k_seq ?_
    refine k_seq ?_
    refine k_reg ?_
    refine s_lt (t_pure (.int .i64 (Int.tmod n (m13 : Int)))) ?_
    refine s_lt t_cmp ?_
    refine s_nil ?_
    refine xs_then ?_
    refine k_cond (decide ((Int.tmod n (m13 : Int)) < 0)) (fun c20 => ?_) (fun c20 => ?_)
    ·
      have p21 := of_decide_eq_true c20
      refine k_reg ?_
      refine s_lt (t_pure (.int .i64 (Int.tmod n (m13 : Int)))) ?_
      refine s_lt (t_pure (suf VlT.size sv9 (((placeR (L.length : Int) i).1).toNat))) ?_
      refine s_lt (t_len VlT_ok Tryd.underlying61 (Acc.suf (.own 1) VlT_ok (((placeR (L.length : Int) i).1).toNat) (by (try simp only [List.length_nil, List.length_cons, List.length_append, List.length_take, List.length_drop, List.length_set, List.length_replicate, List.length_reverse]); omega))) ?_
      rw [← hm14]
      refine s_lt (t_add (Int.tmod n (m13 : Int)) (m13 : Int) (by (try simp only [List.length_nil, List.length_cons, List.length_append, List.length_take, List.length_drop, List.length_set, List.length_replicate, List.length_reverse]); omega)) ?_
      refine s_lt (t_pure (.int .i64 ((Int.tmod n (m13 : Int)) + (m13 : Int)))) ?_
      refine s_nil ?_
      refine xs_then ?_
      refine k_seq ?_
      refine k_reg ?_
      refine s_lt (t_pure (suf VlT.size sv9 (((placeR (L.length : Int) i).1).toNat))) ?_
      refine s_pcall (fun _ h => clone_s (Acc.kn (Acc.suf (.own 1) VlT_ok (((placeR (L.length : Int) i).1).toNat) (by (try simp only [List.length_nil, List.length_cons, List.length_append, List.length_take, List.length_drop, List.length_set, List.length_replicate, List.length_reverse]); omega)) h) (by (try simp only [List.length_nil, List.length_cons, List.length_append, List.length_take, List.length_drop, List.length_set, List.length_replicate, List.length_reverse]); omega)) ?_
      rintro v22 _ rfl
      refine s_lt (t_pure v22) ?_
      refine s_nil ?_
      refine xs_then ?_
      refine k_seq ?_
      refine k_reg ?_
      refine s_lt (t_pure (suf VlT.size sv9 (((placeR (L.length : Int) i).1).toNat))) ?_
      refine s_lt (t_pure (.int .i64 ((Int.tmod n (m13 : Int)) + (m13 : Int)))) ?_
      refine s_lt (t_suf VlT_ok Tryd.underlying61 (Acc.suf (.own 2) VlT_ok (((placeR (L.length : Int) i).1).toNat) (by (try simp only [List.length_nil, List.length_cons, List.length_append, List.length_take, List.length_drop, List.length_set, List.length_replicate, List.length_reverse]); omega)) ((Int.tmod n (m13 : Int)) + (m13 : Int)) ((((Int.tmod n (m13 : Int)) + (m13 : Int))).toNat) (by omega) (by (try simp only [List.length_nil, List.length_cons, List.length_append, List.length_take, List.length_drop, List.length_set, List.length_replicate, List.length_reverse]); omega) (by omega)) ?_
      refine s_lt (t_pure v22) ?_
      refine s_copyS (L := L) (u := (suf VlT.size (suf VlT.size sv9 (((placeR (L.length : Int) i).1).toNat)) ((((Int.tmod n (m13 : Int)) + (m13 : Int))).toNat))) 2 ((0 + (((placeR (L.length : Int) i).1).toNat)) + ((((Int.tmod n (m13 : Int)) + (m13 : Int))).toNat)) ((L.length - (((placeR (L.length : Int) i).1).toNat)) - ((((Int.tmod n (m13 : Int)) + (m13 : Int))).toNat)) VlT_ok Tryd.underlying61 (.own 0) (fun _ h => (Sub.suf (Sub.suf (Sub.self h) (by (try simp only [List.length_nil, List.length_cons, List.length_append, List.length_take, List.length_drop, List.length_set, List.length_replicate, List.length_reverse]); omega)) (by (try simp only [List.length_nil, List.length_cons, List.length_append, List.length_take, List.length_drop, List.length_set, List.length_replicate, List.length_reverse]); omega))) (by (try simp only [List.length_nil, List.length_cons, List.length_append, List.length_take, List.length_drop, List.length_set, List.length_replicate, List.length_reverse]); omega) ?_
      obtain ⟨L23, hL24⟩ : ∃ x, x = (L.take ((0 + (((placeR (L.length : Int) i).1).toNat)) + ((((Int.tmod n (m13 : Int)) + (m13 : Int))).toNat)) ++ ((L.drop (((placeR (L.length : Int) i).1).toNat)).take ((L.length - (((placeR (L.length : Int) i).1).toNat)) - ((((Int.tmod n (m13 : Int)) + (m13 : Int))).toNat)) ++ L.drop (((0 + (((placeR (L.length : Int) i).1).toNat)) + ((((Int.tmod n (m13 : Int)) + (m13 : Int))).toNat)) + min (L.drop (((placeR (L.length : Int) i).1).toNat)).length ((L.length - (((placeR (L.length : Int) i).1).toNat)) - ((((Int.tmod n (m13 : Int)) + (m13 : Int))).toNat))))) := ⟨_, rfl⟩
      rw [← hL24]
      have ll25 : L23.length = L.length := by rw [hL24]; (try simp only [List.length_nil, List.length_cons, List.length_append, List.length_take, List.length_drop, List.length_set, List.length_replicate, List.length_reverse]); omega
      refine s_nil ?_
      refine xs_then ?_
      refine k_seq ?_
      refine k_reg ?_
      refine s_lt (t_pure (suf VlT.size sv9 (((placeR (L.length : Int) i).1).toNat))) ?_
      refine s_lt (t_pure v22) ?_
      refine s_lt (t_pure v22) ?_
      refine s_lt (t_len VlT_ok Tryd.underlying61 (.own 0)) ?_
      rw [← hm14]
      refine s_lt (t_pure (.int .i64 ((Int.tmod n (m13 : Int)) + (m13 : Int)))) ?_
      refine s_lt (t_sub (m13 : Int) ((Int.tmod n (m13 : Int)) + (m13 : Int)) (by (try simp only [List.length_nil, List.length_cons, List.length_append, List.length_take, List.length_drop, List.length_set, List.length_replicate, List.length_reverse]); omega)) ?_
      refine s_lt (t_suf VlT_ok Tryd.underlying61 (.own 0) ((m13 : Int) - ((Int.tmod n (m13 : Int)) + (m13 : Int))) ((((m13 : Int) - ((Int.tmod n (m13 : Int)) + (m13 : Int)))).toNat) (by omega) (by (try simp only [List.length_nil, List.length_cons, List.length_append, List.length_take, List.length_drop, List.length_set, List.length_replicate, List.length_reverse]); omega) (by omega)) ?_
      refine s_copyS (L := L23) (u := (suf VlT.size sv9 (((placeR (L.length : Int) i).1).toNat))) 2 (0 + (((placeR (L.length : Int) i).1).toNat)) (L23.length - (((placeR (L.length : Int) i).1).toNat)) VlT_ok Tryd.underlying61 (Acc.suf (.own 0) VlT_ok ((((m13 : Int) - ((Int.tmod n (m13 : Int)) + (m13 : Int)))).toNat) (by (try simp only [List.length_nil, List.length_cons, List.length_append, List.length_take, List.length_drop, List.length_set, List.length_replicate, List.length_reverse]); omega)) (fun _ h => (Sub.suf (Sub.self h) (by (try simp only [List.length_nil, List.length_cons, List.length_append, List.length_take, List.length_drop, List.length_set, List.length_replicate, List.length_reverse]); omega))) (by (try simp only [List.length_nil, List.length_cons, List.length_append, List.length_take, List.length_drop, List.length_set, List.length_replicate, List.length_reverse]); omega) ?_
      obtain ⟨L26, hL27⟩ : ∃ x, x = (L23.take (0 + (((placeR (L.length : Int) i).1).toNat)) ++ (((L.drop (((placeR (L.length : Int) i).1).toNat)).drop ((((m13 : Int) - ((Int.tmod n (m13 : Int)) + (m13 : Int)))).toNat)).take (L23.length - (((placeR (L.length : Int) i).1).toNat)) ++ L23.drop ((0 + (((placeR (L.length : Int) i).1).toNat)) + min ((L.drop (((placeR (L.length : Int) i).1).toNat)).drop ((((m13 : Int) - ((Int.tmod n (m13 : Int)) + (m13 : Int)))).toNat)).length (L23.length - (((placeR (L.length : Int) i).1).toNat))))) := ⟨_, rfl⟩
      rw [← hL27]
      have ll28 : L26.length = L23.length := by rw [hL27]; (try simp only [List.length_nil, List.length_cons, List.length_append, List.length_take, List.length_drop, List.length_set, List.length_replicate, List.length_reverse]); omega
      refine s_nil ?_
      refine xs_then ?_
      refine k_seq ?_
      refine k_reg ?_
      refine s_lt (t_pure (.int .i64 0)) ?_
      refine s_nil ?_
      refine xs_then ?_
      refine k_ret ?_
      have hp : rotR L i n = (0, L26) := by
        exact rot_fin L _ _ i n _ _ (by omega) (by rw [← hm14]; omega) (by rw [← hm14]) hL24 hL27
      refine xs_fin [.int .i64 0] (stkA 78 b L26 lim :: F) (SI.tmp 6 SI.nil) (fun _ h => stk_shut ⟨by omega, by omega, by (try simp only [List.length_nil, List.length_cons, List.length_append, List.length_take, List.length_drop, List.length_set, List.length_replicate, List.length_reverse]); omega⟩ (h.re [1, 1] [2])) ?_
      rw [hp]; exact ⟨rfl, rfl⟩
    ·
      have p29 := of_decide_eq_false c20
      refine k_skip ?_
      refine xs_then ?_
      refine k_seq ?_
      refine k_reg ?_
      refine s_lt (t_pure (suf VlT.size sv9 (((placeR (L.length : Int) i).1).toNat))) ?_
      refine s_pcall (fun _ h => clone_s (Acc.kn (Acc.suf (.own 1) VlT_ok (((placeR (L.length : Int) i).1).toNat) (by (try simp only [List.length_nil, List.length_cons, List.length_append, List.length_take, List.length_drop, List.length_set, List.length_replicate, List.length_reverse]); omega)) h) (by (try simp only [List.length_nil, List.length_cons, List.length_append, List.length_take, List.length_drop, List.length_set, List.length_replicate, List.length_reverse]); omega)) ?_
      rintro v30 _ rfl
      refine s_lt (t_pure v30) ?_
      refine s_nil ?_
      refine xs_then ?_
      refine k_seq ?_
      refine k_reg ?_
      refine s_lt (t_pure (suf VlT.size sv9 (((placeR (L.length : Int) i).1).toNat))) ?_
      refine s_lt (t_pure (.int .i64 (Int.tmod n (m13 : Int)))) ?_
      refine s_lt (t_suf VlT_ok Tryd.underlying61 (Acc.suf (.own 2) VlT_ok (((placeR (L.length : Int) i).1).toNat) (by (try simp only [List.length_nil, List.length_cons, List.length_append, List.length_take, List.length_drop, List.length_set, List.length_replicate, List.length_reverse]); omega)) (Int.tmod n (m13 : Int)) (((Int.tmod n (m13 : Int))).toNat) (by omega) (by (try simp only [List.length_nil, List.length_cons, List.length_append, List.length_take, List.length_drop, List.length_set, List.length_replicate, List.length_reverse]); omega) (by omega)) ?_
      refine s_lt (t_pure v30) ?_
      refine s_copyS (L := L) (u := (suf VlT.size (suf VlT.size sv9 (((placeR (L.length : Int) i).1).toNat)) (((Int.tmod n (m13 : Int))).toNat))) 2 ((0 + (((placeR (L.length : Int) i).1).toNat)) + (((Int.tmod n (m13 : Int))).toNat)) ((L.length - (((placeR (L.length : Int) i).1).toNat)) - (((Int.tmod n (m13 : Int))).toNat)) VlT_ok Tryd.underlying61 (.own 0) (fun _ h => (Sub.suf (Sub.suf (Sub.self h) (by (try simp only [List.length_nil, List.length_cons, List.length_append, List.length_take, List.length_drop, List.length_set, List.length_replicate, List.length_reverse]); omega)) (by (try simp only [List.length_nil, List.length_cons, List.length_append, List.length_take, List.length_drop, List.length_set, List.length_replicate, List.length_reverse]); omega))) (by (try simp only [List.length_nil, List.length_cons, List.length_append, List.length_take, List.length_drop, List.length_set, List.length_replicate, List.length_reverse]); omega) ?_
      obtain ⟨L31, hL32⟩ : ∃ x, x = (L.take ((0 + (((placeR (L.length : Int) i).1).toNat)) + (((Int.tmod n (m13 : Int))).toNat)) ++ ((L.drop (((placeR (L.length : Int) i).1).toNat)).take ((L.length - (((placeR (L.length : Int) i).1).toNat)) - (((Int.tmod n (m13 : Int))).toNat)) ++ L.drop (((0 + (((placeR (L.length : Int) i).1).toNat)) + (((Int.tmod n (m13 : Int))).toNat)) + min (L.drop (((placeR (L.length : Int) i).1).toNat)).length ((L.length - (((placeR (L.length : Int) i).1).toNat)) - (((Int.tmod n (m13 : Int))).toNat))))) := ⟨_, rfl⟩
      rw [← hL32]
      have ll33 : L31.length = L.length := by rw [hL32]; (try simp only [List.length_nil, List.length_cons, List.length_append, List.length_take, List.length_drop, List.length_set, List.length_replicate, List.length_reverse]); omega
      refine s_nil ?_
      refine xs_then ?_
      refine k_seq ?_
      refine k_reg ?_
      refine s_lt (t_pure (suf VlT.size sv9 (((placeR (L.length : Int) i).1).toNat))) ?_
      refine s_lt (t_pure v30) ?_
      refine s_lt (t_pure v30) ?_
      refine s_lt (t_len VlT_ok Tryd.underlying61 (.own 0)) ?_
      rw [← hm14]
      refine s_lt (t_pure (.int .i64 (Int.tmod n (m13 : Int)))) ?_
      refine s_lt (t_sub (m13 : Int) (Int.tmod n (m13 : Int)) (by (try simp only [List.length_nil, List.length_cons, List.length_append, List.length_take, List.length_drop, List.length_set, List.length_replicate, List.length_reverse]); omega)) ?_
      refine s_lt (t_suf VlT_ok Tryd.underlying61 (.own 0) ((m13 : Int) - (Int.tmod n (m13 : Int))) ((((m13 : Int) - (Int.tmod n (m13 : Int)))).toNat) (by omega) (by (try simp only [List.length_nil, List.length_cons, List.length_append, List.length_take, List.length_drop, List.length_set, List.length_replicate, List.length_reverse]); omega) (by omega)) ?_
      refine s_copyS (L := L31) (u := (suf VlT.size sv9 (((placeR (L.length : Int) i).1).toNat))) 2 (0 + (((placeR (L.length : Int) i).1).toNat)) (L31.length - (((placeR (L.length : Int) i).1).toNat)) VlT_ok Tryd.underlying61 (Acc.suf (.own 0) VlT_ok ((((m13 : Int) - (Int.tmod n (m13 : Int)))).toNat) (by (try simp only [List.length_nil, List.length_cons, List.length_append, List.length_take, List.length_drop, List.length_set, List.length_replicate, List.length_reverse]); omega)) (fun _ h => (Sub.suf (Sub.self h) (by (try simp only [List.length_nil, List.length_cons, List.length_append, List.length_take, List.length_drop, List.length_set, List.length_replicate, List.length_reverse]); omega))) (by (try simp only [List.length_nil, List.length_cons, List.length_append, List.length_take, List.length_drop, List.length_set, List.length_replicate, List.length_reverse]); omega) ?_
      obtain ⟨L34, hL35⟩ : ∃ x, x = (L31.take (0 + (((placeR (L.length : Int) i).1).toNat)) ++ (((L.drop (((placeR (L.length : Int) i).1).toNat)).drop ((((m13 : Int) - (Int.tmod n (m13 : Int)))).toNat)).take (L31.length - (((placeR (L.length : Int) i).1).toNat)) ++ L31.drop ((0 + (((placeR (L.length : Int) i).1).toNat)) + min ((L.drop (((placeR (L.length : Int) i).1).toNat)).drop ((((m13 : Int) - (Int.tmod n (m13 : Int)))).toNat)).length (L31.length - (((placeR (L.length : Int) i).1).toNat))))) := ⟨_, rfl⟩
      rw [← hL35]
      have ll36 : L34.length = L31.length := by rw [hL35]; (try simp only [List.length_nil, List.length_cons, List.length_append, List.length_take, List.length_drop, List.length_set, List.length_replicate, List.length_reverse]); omega
      refine s_nil ?_
      refine xs_then ?_
      refine k_seq ?_
      refine k_reg ?_
      refine s_lt (t_pure (.int .i64 0)) ?_
      refine s_nil ?_
      refine xs_then ?_
      refine k_ret ?_
      have hp : rotR L i n = (0, L34) := by
        exact rot_fin L _ _ i n _ _ (by omega) (by rw [← hm14]; omega) (by rw [← hm14]) hL32 hL35
      refine xs_fin [.int .i64 0] (stkA 78 b L34 lim :: F) (SI.tmp 6 SI.nil) (fun _ h => stk_shut ⟨by omega, by omega, by (try simp only [List.length_nil, List.length_cons, List.length_append, List.length_take, List.length_drop, List.length_set, List.length_replicate, List.length_reverse]); omega⟩ (h.re [1, 1] [2])) ?_
      rw [hp]; exact ⟨rfl, rfl⟩
theorem rot_n {Z : Zone} (i n : Int) : SF Tryd.prog 46 #[.pointer none, .int .i64 i, .int .i64 n] Z [] fun r Bs => r = .int .i64 1 ∧ Bs = [] := by
  refine sf_enter Tryd.func46 52 [(0, .pointer none), (1, .int .i64 i), (2, .int .i64 n)] (fun w0 => ?_)
  refine k_seq ?_
  refine k_reg ?_
  refine s_lt (t_pure (.int .i64 0)) ?_
  refine s_nil ?_
  refine xs_then ?_
  refine k_seq ?_
  refine k_reg ?_
  refine s_lt (t_pure (.pointer none)) ?_
  refine s_lt (t_pure (.int .i64 i)) ?_
  refine s_vcall (fun _ h => place_n i) ?_
  rintro _ rfl
  refine s_lt (t_pure (.tuple #[.int .i64 0, .int .i64 1])) ?_
  refine s_lt (t_pure (.int .i64 0)) ?_
  refine s_lt (t_pure (.int .i64 1)) ?_
  refine s_lt (t_pure (.int .i64 0)) ?_
  refine s_lt (t_pure (.int .i64 1)) ?_
  refine s_nil ?_
  refine xs_then ?_
  refine k_seq ?_
  refine k_seq ?_
  refine k_reg ?_
  refine s_lt (t_pure (.int .i64 1)) ?_
  refine s_lt (t_cmp (c := true)) ?_
  refine s_nil ?_
  refine xs_then ?_
  refine k_true ?_
  refine k_seq ?_
  refine k_reg ?_
  refine s_lt (t_pure (.int .i64 1)) ?_
  refine s_lt (t_pure (.int .i64 1)) ?_
  refine s_nil ?_
  refine xs_then ?_
  refine k_ret ?_
  refine xs_ret ?_
  refine xs_fin [.int .i64 1] [] (SI.tmp 6 SI.nil) (fun _ h => h.re [] []) ⟨?_, rfl⟩
  rfl
theorem ins_s {Z : Zone} {F : List Asr} {b : Nat} {L : List Vl} {lim : Int} (i : Int) : SF Tryd.prog 35 #[.pointer (some ⟨b, 0, none⟩), .int .i64 i] Z (stkA 78 b L lim :: F) fun r Bs => r = .int .i64 (rotR L i 1).1 ∧ Bs = stkA 78 b (rotR L i 1).2 lim :: F := by
  refine sf_enter Tryd.func35 8 [(0, .pointer (some ⟨b, 0, none⟩)), (1, .int .i64 i)] (fun w0 => ?_)
  refine k_fact (fun H h => stk_len (h.re [0] [])) (fun hl => ?_)
  obtain ⟨hl1, hl2, hl3⟩ := hl
  refine k_seq ?_
  refine k_reg ?_
  refine s_lt (t_pure (.int .i64 0)) ?_
  refine s_nil ?_
  refine xs_then ?_
  refine k_seq ?_
  refine k_reg ?_
  refine s_lt (t_pure (.pointer (some ⟨b, 0, none⟩))) ?_
  refine s_lt (t_pure (.int .i64 i)) ?_
  refine s_call [0] (rot_s i 1) ?_
  rintro _ _ ⟨rfl, rfl⟩
  refine s_lt (t_pure (.int .i64 ((rotR L i 1).1))) ?_
  refine s_nil ?_
  refine xs_then ?_
  refine k_ret ?_
  have hp : rotR L i 1 = ((rotR L i 1).1, (rotR L i 1).2) := by
    rfl
  refine xs_fin [.int .i64 ((rotR L i 1).1)] (stkA 78 b ((rotR L i 1).2) lim :: F) (SI.tmp 4 SI.nil) (fun _ h => h.re [0] []) ?_
  rw [hp]; exact ⟨rfl, rfl⟩
theorem ins_n {Z : Zone} (i : Int) : SF Tryd.prog 35 #[.pointer none, .int .i64 i] Z [] fun r Bs => r = .int .i64 1 ∧ Bs = [] := by
  refine sf_enter Tryd.func35 8 [(0, .pointer none), (1, .int .i64 i)] (fun w0 => ?_)
  refine k_seq ?_
  refine k_reg ?_
  refine s_lt (t_pure (.int .i64 0)) ?_
  refine s_nil ?_
  refine xs_then ?_
  refine k_seq ?_
  refine k_reg ?_
  refine s_lt (t_pure (.pointer none)) ?_
  refine s_lt (t_pure (.int .i64 i)) ?_
  refine s_vcall (fun _ h => rot_n i 1) ?_
  rintro _ rfl
  refine s_lt (t_pure (.int .i64 1)) ?_
  refine s_nil ?_
  refine xs_then ?_
  refine k_ret ?_
  refine xs_fin [.int .i64 1] [] (SI.tmp 4 SI.nil) (fun _ h => h.re [] []) ⟨?_, rfl⟩
  rfl
end Go.Proofs.YtdakfjdbdopmbaaDoor.St
