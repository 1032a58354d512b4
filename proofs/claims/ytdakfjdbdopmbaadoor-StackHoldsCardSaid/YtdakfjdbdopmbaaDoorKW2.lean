/-
  A stack in memory; the methods that read it or change its length.
-/
import Derived.Test.YtdakfjdbdopmbaaDoorKW1
import Derived.Test.YtdakfjdbdopmbaaDoorSQ
set_option linter.unusedSimpArgs false
set_option linter.unusedVariables false
set_option maxRecDepth 100000
namespace Go.Proofs.YtdakfjdbdopmbaaDoor.St
open Go.Hp Go.J Go.S
open Go.Mem (Ty KTy blk elemAt pre suf blk_pre blk_suf aget aset strK aggDesc)

/-- A stack (of the program, or of the reference) in memory. -/
def stkA (t : TypeId) (b : Nat) (L : List Vl) (lim : Int) : Asr := exA fun sv => stA (1 ≤ lim ∧ lim ≤ 1000 ∧ (L.length : Int) ≤ lim) [blkA b #[sv, .int .i64 lim] t, own VlT sv L]
theorem stk_open {t : TypeId} {b : Nat} {L : List Vl} {lim : Int} {Z : Zone} {F : List Asr} {H : Heap} (h : Holds Z (stkA t b L lim :: F) H) : ∃ sv, (1 ≤ lim ∧ lim ≤ 1000 ∧ (L.length : Int) ≤ lim) ∧ Holds Z (blkA b #[sv, .int .i64 lim] t :: own VlT sv L :: F) H := by
  obtain ⟨sv, h⟩ := h.open_ex
  exact ⟨sv, h.open_st⟩
theorem stk_shut {t : TypeId} {b : Nat} {L : List Vl} {lim : Int} {Z : Zone} {F : List Asr} {H : Heap} {sv : Value} (hp : 1 ≤ lim ∧ lim ≤ 1000 ∧ (L.length : Int) ≤ lim) (h : Holds Z (blkA b #[sv, .int .i64 lim] t :: own VlT sv L :: F) H) : Holds Z (stkA t b L lim :: F) H :=
  Holds.shut_ex sv (Holds.shut_st hp h)
theorem stk_len {t : TypeId} {b : Nat} {L : List Vl} {lim : Int} {Z : Zone} {F : List Asr} {H : Heap} (h : Holds Z (stkA t b L lim :: F) H) : 1 ≤ lim ∧ lim ≤ 1000 ∧ (L.length : Int) ≤ lim := by
  obtain ⟨_, h, _⟩ := stk_open h; exact h
theorem pop_s {Z : Zone} {F : List Asr} {b : Nat} {L : List Vl} {lim : Int} (n : Int) : SF Tryd.prog 34 #[.pointer (some ⟨b, 0, none⟩), .int .i64 n] Z (stkA 78 b L lim :: F) fun r Bs => r = .int .i64 (popR L n).1 ∧ Bs = stkA 78 b (popR L n).2 lim :: F := by
  refine sf_enter Tryd.func34 34 [(0, .pointer (some ⟨b, 0, none⟩)), (1, .int .i64 n)] (fun w0 => ?_)
  refine k_fact (fun H h => stk_len (h.re [0] [])) (fun hl => ?_)
  obtain ⟨hl1, hl2, hl3⟩ := hl
  refine k_seq ?_
  refine k_reg ?_
  refine s_lt (t_pure (.int .i64 0)) ?_
  refine s_nil ?_
  refine xs_then ?_
  refine k_seq ?_
  refine k_block ?_
  refine k_seq ?_
  refine k_reg ?_
  refine s_lt (t_pure (.pointer (some ⟨b, 0, none⟩))) ?_
  refine s_lt (t_pure (.bool false)) ?_
  refine s_lt (t_pure (.bool false)) ?_
  refine s_nil ?_
  refine xs_then ?_
  refine k_false ?_
  refine k_seq ?_
  refine k_reg ?_
  refine s_lt (t_pure (.int .i64 n)) ?_
  refine s_lt t_cmp ?_
  refine s_lt (t_pure (.bool (decide (n < 0)))) ?_
  refine s_nil ?_
  refine xs_then ?_
  refine k_cond (decide (n < 0)) (fun c4 => ?_) (fun c4 => ?_)
  ·
    have p5 := of_decide_eq_true c4
    refine k_seq ?_
    refine k_reg ?_
    refine s_lt (t_pure (.int .i64 2)) ?_
    refine s_nil ?_
    refine xs_then ?_
    refine k_ret ?_
    refine xs_retBlock ?_
    refine xs_ret ?_
    have hp : popR L n = (2, L) := by
      first | (simp [popR, p5]; done) | (simp [popR, p5]; omega) | (unfold popR; simp only [p5]; done) | (unfold popR; rw [if_neg (by omega), if_neg (by omega)])
    refine xs_fin [.int .i64 2] (stkA 78 b L lim :: F) (SI.tmp 4 SI.nil) (fun _ h => h.re [0] []) ?_
    rw [hp]; exact ⟨rfl, rfl⟩
  ·
    have p6 := of_decide_eq_false c4
    refine k_seq ?_
    refine k_reg ?_
    refine s_lt (t_pure (.int .i64 n)) ?_
    refine s_lt (t_pure (.pointer (some ⟨b, 0, none⟩))) ?_
    refine s_lt (t_pure (.pointer (some ⟨b, 0, none⟩))) ?_
    refine s_lt (t_pure (.pointer (some ⟨b, 0, none⟩))) ?_
    refine s_memX (fun H h => stk_open (h.re [0] [])) (fun sv7 hw => ?_)
    obtain ⟨hw8, hw9, hw10⟩ := hw
    refine s_lt (t_load 0 sv7) ?_
    refine s_lt (t_len VlT_ok Tryd.underlying61 (.own 1)) ?_
    refine s_lt t_cmp ?_
    refine s_lt (t_pure (.bool (decide ((L.length : Int) < n)))) ?_
    refine s_nil ?_
    refine xs_then ?_
    refine k_cond (decide ((L.length : Int) < n)) (fun c11 => ?_) (fun c11 => ?_)
    ·
      have p12 := of_decide_eq_true c11
      refine k_seq ?_
      refine k_reg ?_
      refine s_lt (t_pure (.int .i64 18)) ?_
      refine s_nil ?_
      refine xs_then ?_
      refine k_ret ?_
      refine xs_retBlock ?_
      refine xs_ret ?_
      have hp : popR L n = (18, L) := by
        first | (simp [popR, p6, p12]; done) | (simp [popR, p6, p12]; omega) | (unfold popR; simp only [p6, p12]; done) | (unfold popR; rw [if_neg (by omega), if_neg (by omega)])
      refine xs_fin [.int .i64 18] (stkA 78 b L lim :: F) (SI.tmp 4 SI.nil) (fun _ h => stk_shut ⟨by omega, by omega, by (try simp only [List.length_nil, List.length_cons, List.length_append, List.length_take, List.length_drop, List.length_set, List.length_replicate, List.length_reverse]); omega⟩ (h.re [0, 0] [])) ?_
      rw [hp]; exact ⟨rfl, rfl⟩
    ·
      have p13 := of_decide_eq_false c11
      refine k_skip ?_
      refine xs_block ?_
      refine xs_then ?_
      refine k_seq ?_
      refine k_draw ?_
      refine s_lt (t_pure (.pointer (some ⟨b, 0, none⟩))) ?_
      refine s_lt (t_pure (.pointer (some ⟨b, 0, none⟩))) ?_
      refine s_lt (t_pure (.pointer (some ⟨b, 0, none⟩))) ?_
      refine s_lt (t_pure (.pointer (some ⟨b, 0, none⟩))) ?_
      refine s_lt (t_load 0 sv7) ?_
      refine s_lt (t_pure (.pointer (some ⟨b, 0, none⟩))) ?_
      refine s_lt (t_pure (.pointer (some ⟨b, 0, none⟩))) ?_
      refine s_lt (t_pure (.pointer (some ⟨b, 0, none⟩))) ?_
      refine s_lt (t_load 0 sv7) ?_
      refine s_fact (fun H h => ((Acc.own (T := VlT) (L := L) 1 rfl) H h).form) (fun hf14 => ?_)
      refine s_lt (t_len VlT_ok Tryd.underlying61 (.own 1)) ?_
      refine s_lt (t_pure (.int .i64 n)) ?_
      refine s_lt (t_sub (L.length : Int) n (by (try simp only [List.length_nil, List.length_cons, List.length_append, List.length_take, List.length_drop, List.length_set, List.length_replicate, List.length_reverse]); omega)) ?_
      refine s_lt (t_pre VlT_ok Tryd.underlying61 (.own 1) ((L.length : Int) - n) ((((L.length : Int) - n)).toNat) (by omega) (by (try simp only [List.length_nil, List.length_cons, List.length_append, List.length_take, List.length_drop, List.length_set, List.length_replicate, List.length_reverse]); omega) (by omega)) ?_
      refine s_lt (t_pure (.pointer (some ⟨b, 0, none⟩))) ?_
      refine s_lt (t_pure (.pointer (some ⟨b, 0, none⟩))) ?_
      refine s_mem (fun _ h => Holds.pre (i := 1) h VlT_ok ((((L.length : Int) - n)).toNat) rfl (by (try simp only [List.length_nil, List.length_cons, List.length_append, List.length_take, List.length_drop, List.length_set, List.length_replicate, List.length_reverse]); omega)) ?_
      refine s_fact (fun H h => ((Acc.own (T := VlT) (L := (L.take ((((L.length : Int) - n)).toNat))) 1 rfl) H h).form) (fun hf15 => ?_)
      refine s_store (u := (pre sv7 ((((L.length : Int) - n)).toNat))) (m := 1) 0 #[(pre sv7 ((((L.length : Int) - n)).toNat)), .int .i64 lim] ?_ (hm := by (obtain ⟨_, _, e⟩ := hf15; rw [e]; rfl)) (h1 := by (obtain ⟨_, _, e⟩ := hf15; rw [e]; rfl)) (ha' := by (obtain ⟨_, _, e⟩ := hf15; rw [e]; rfl))
      refine s_nil ?_
      refine x_dynS (fun _ h => by obtain ⟨_, _, e⟩ := hf14; subst e; kernel_rfl) ?_
      refine xs_then ?_
      refine k_seq ?_
      refine k_reg ?_
      refine s_lt (t_pure (.int .i64 0)) ?_
      refine s_nil ?_
      refine xs_then ?_
      refine k_ret ?_
      have hp : popR L n = (0, (L.take ((((L.length : Int) - n)).toNat))) := by
        first | (simp [popR, p6, p13]; done) | (simp [popR, p6, p13]; omega) | (unfold popR; simp only [p6, p13]; done) | (unfold popR; rw [if_neg (by omega), if_neg (by omega)])
      refine xs_fin [.int .i64 0] (stkA 78 b (L.take ((((L.length : Int) - n)).toNat)) lim :: F) (SI.tmp 4 SI.nil) (fun _ h => stk_shut ⟨by omega, by omega, by (try simp only [List.length_nil, List.length_cons, List.length_append, List.length_take, List.length_drop, List.length_set, List.length_replicate, List.length_reverse]); omega⟩ (h.re [0, 0] [])) ?_
      rw [hp]; exact ⟨rfl, rfl⟩
theorem pop_n {Z : Zone} (n : Int) : SF Tryd.prog 34 #[.pointer none, .int .i64 n] Z [] fun r Bs => r = .int .i64 1 ∧ Bs = [] := by
  refine sf_enter Tryd.func34 34 [(0, .pointer none), (1, .int .i64 n)] (fun w0 => ?_)
  refine k_seq ?_
  refine k_reg ?_
  refine s_lt (t_pure (.int .i64 0)) ?_
  refine s_nil ?_
  refine xs_then ?_
  refine k_seq ?_
  refine k_block ?_
  refine k_seq ?_
  refine k_reg ?_
  refine s_lt (t_pure (.pointer none)) ?_
  refine s_lt (t_pure (.bool true)) ?_
  refine s_lt (t_pure (.bool true)) ?_
  refine s_nil ?_
  refine xs_then ?_
  refine k_true ?_
  refine k_seq ?_
  refine k_reg ?_
  refine s_lt (t_pure (.int .i64 1)) ?_
  refine s_nil ?_
  refine xs_then ?_
  refine k_ret ?_
  refine xs_retBlock ?_
  refine xs_ret ?_
  refine xs_fin [.int .i64 1] [] (SI.tmp 4 SI.nil) (fun _ h => h.re [] []) ⟨?_, rfl⟩
  rfl
theorem place_s {Z : Zone} {F : List Asr} {b : Nat} {L : List Vl} {lim : Int} (i : Int) : SF Tryd.prog 42 #[.pointer (some ⟨b, 0, none⟩), .int .i64 i] Z (stkA 78 b L lim :: F) fun r Bs => r = .tuple #[.int .i64 (placeR (L.length : Int) i).1, .int .i64 (placeR (L.length : Int) i).2] ∧ Bs = stkA 78 b L lim :: F := by
  refine sf_enter Tryd.func42 43 [(0, .pointer (some ⟨b, 0, none⟩)), (1, .int .i64 i)] (fun w0 => ?_)
  refine k_fact (fun H h => stk_len (h.re [0] [])) (fun hl => ?_)
  obtain ⟨hl1, hl2, hl3⟩ := hl
  refine k_seq ?_
  refine k_reg ?_
  refine s_lt (t_pure (.int .i64 0)) ?_
  refine s_lt (t_pure (.int .i64 0)) ?_
  refine s_nil ?_
  refine xs_then ?_
  refine k_seq ?_
  refine k_block ?_
  refine k_seq ?_
  refine k_reg ?_
  refine s_lt (t_pure (.pointer (some ⟨b, 0, none⟩))) ?_
  refine s_lt (t_pure (.bool false)) ?_
  refine s_lt (t_pure (.bool false)) ?_
  refine s_nil ?_
  refine xs_then ?_
  refine k_false ?_
  refine k_seq ?_
  refine k_reg ?_
  refine s_lt (t_pure (.int .i64 i)) ?_
  refine s_lt t_cmp ?_
  refine s_lt (t_pure (.bool (decide ((1 : Int) ≤ i)))) ?_
  refine s_fork 12 (decide ((1 : Int) ≤ i)) (fun c4 => ?_) (fun c4 => ?_)
  ·
    have p5 := of_decide_eq_true c4
    refine s_lt (t_pure (.int .i64 i)) ?_
    refine s_lt (t_pure (.pointer (some ⟨b, 0, none⟩))) ?_
    refine s_lt (t_pure (.pointer (some ⟨b, 0, none⟩))) ?_
    refine s_lt (t_pure (.pointer (some ⟨b, 0, none⟩))) ?_
    refine s_memX (fun H h => stk_open (h.re [0] [])) (fun sv6 hw => ?_)
    obtain ⟨hw7, hw8, hw9⟩ := hw
    refine s_lt (t_load 0 sv6) ?_
    refine s_lt (t_len VlT_ok Tryd.underlying61 (.own 1)) ?_
    refine s_lt t_cmp ?_
    refine s_lt (t_pure (.bool (decide (i ≤ (L.length : Int))))) ?_
    refine s_lt (t_pure (.bool (decide (i ≤ (L.length : Int))))) ?_
    refine s_nil ?_
    refine xs_then ?_
    refine k_cond (decide (i ≤ (L.length : Int))) (fun c10 => ?_) (fun c10 => ?_)
    ·
      have p11 := of_decide_eq_true c10
      refine k_seq ?_
      refine k_reg ?_
      refine s_lt (t_pure (.int .i64 i)) ?_
      refine s_lt (t_sub i 1 (by (try simp only [List.length_nil, List.length_cons, List.length_append, List.length_take, List.length_drop, List.length_set, List.length_replicate, List.length_reverse]); omega)) ?_
      refine s_lt (t_pure (.int .i64 (i - 1))) ?_
      refine s_lt (t_pure (.int .i64 0)) ?_
      refine s_nil ?_
      refine xs_then ?_
      refine k_ret ?_
      refine xs_retBlock ?_
      refine xs_ret ?_
      have hp : placeR (L.length : Int) i = ((i - 1), 0) := by
        first | (simp [placeR, zVl, p5, p11]; done) | (simp [placeR, p5, p11]; omega) | (unfold placeR; rw [if_pos (by simp only [okP]; omega)]; done)  | (unfold placeR; rw [if_neg (by simp only [okP]; omega)]; done) | (unfold placeR; rw [if_pos (by simp only [okP]; omega)]; simp [atP, List.getD])
      refine xs_fin [.int .i64 (i - 1), .int .i64 0] (stkA 78 b L lim :: F) (SI.tmp 4 (SI.tmp 5 SI.nil)) (fun _ h => stk_shut ⟨by omega, by omega, by (try simp only [List.length_nil, List.length_cons, List.length_append, List.length_take, List.length_drop, List.length_set, List.length_replicate, List.length_reverse]); omega⟩ (h.re [0, 0] [])) ?_
      rw [hp]; exact ⟨rfl, rfl⟩
    ·
      have p12 := of_decide_eq_false c10
      refine k_cut (ι := Unit) (fun _ => True) (fun _ => [(0, .pointer (some ⟨b, 0, none⟩)), (1, .int .i64 i), (4, .int .i64 0), (5, .int .i64 0), (23, .bool ((decide (i ≤ (-1))) && (decide ((-(L.length : Int)) ≤ i))))]) (fun _ => blkA b #[sv6, .int .i64 lim] 78 :: own VlT sv6 L :: F) ?_ (fun _ _ => ?_)
      ·
        refine k_reg ?_
        refine s_lt (t_pure (.int .i64 i)) ?_
        refine s_lt t_cmp ?_
        refine s_lt (t_pure (.bool (decide (i ≤ (-1))))) ?_
        refine s_fork 26 (decide (i ≤ (-1))) (fun c13 => ?_) (fun c13 => ?_)
        ·
          have p14 := of_decide_eq_true c13
          refine s_lt (t_pure (.int .i64 i)) ?_
          refine s_lt (t_pure (.pointer (some ⟨b, 0, none⟩))) ?_
          refine s_lt (t_pure (.pointer (some ⟨b, 0, none⟩))) ?_
          refine s_lt (t_pure (.pointer (some ⟨b, 0, none⟩))) ?_
          refine s_lt (t_load 0 sv6) ?_
          refine s_lt (t_len VlT_ok Tryd.underlying61 (.own 1)) ?_
          refine s_lt (t_neg (L.length : Int) (by omega)) ?_
          refine s_lt t_cmp ?_
          refine s_lt (t_pure (.bool (decide ((-(L.length : Int)) ≤ i)))) ?_
          refine s_lt (t_pure (.bool (decide ((-(L.length : Int)) ≤ i)))) ?_
          refine s_nil ?_
          exact xs_cut () trivial (sub_of rfl ⟨⟨rfl, rfl⟩, ⟨⟨rfl, rfl⟩, ⟨⟨rfl, rfl⟩, ⟨⟨rfl, rfl⟩, ⟨⟨rfl, show Value.bool (decide ((-(L.length : Int)) ≤ i)) = Value.bool ((decide (i ≤ (-1))) && (decide ((-(L.length : Int)) ≤ i))) by first | (simp only [c13, Bool.true_and, Bool.false_and, Bool.and_true, Bool.and_false, Bool.true_or, Bool.or_true, Bool.false_or, Bool.or_false, Bool.not_true, Bool.not_false]; done) | simp [c13]⟩, trivial⟩⟩⟩⟩⟩) (fun _ h => h.re [0, 0] [])
        ·
          have p15 := of_decide_eq_false c13
          refine s_skip ?_
          refine s_skip ?_
          refine s_skip ?_
          refine s_skip ?_
          refine s_skip ?_
          refine s_skip ?_
          refine s_skip ?_
          refine s_skip ?_
          refine s_lt (t_pure (.bool false)) ?_
          refine s_lt (t_pure (.bool false)) ?_
          refine s_nil ?_
          exact xs_cut () trivial (sub_of rfl ⟨⟨rfl, rfl⟩, ⟨⟨rfl, rfl⟩, ⟨⟨rfl, rfl⟩, ⟨⟨rfl, rfl⟩, ⟨⟨rfl, show Value.bool false = Value.bool ((decide (i ≤ (-1))) && (decide ((-(L.length : Int)) ≤ i))) by first | (simp only [c13, Bool.true_and, Bool.false_and, Bool.and_true, Bool.and_false, Bool.true_or, Bool.or_true, Bool.false_or, Bool.or_false, Bool.not_true, Bool.not_false]; done) | simp [c13]⟩, trivial⟩⟩⟩⟩⟩) (fun _ h => h.re [0, 0] [])
      ·
        refine k_cond ((decide (i ≤ (-1))) && (decide ((-(L.length : Int)) ≤ i))) (fun c16 => ?_) (fun c16 => ?_)
        ·
          obtain ⟨c17, c18⟩ := and_t c16
          have p19 := of_decide_eq_true c17
          have p20 := of_decide_eq_true c18
          refine k_seq ?_
          refine k_reg ?_
          refine s_lt (t_pure (.pointer (some ⟨b, 0, none⟩))) ?_
          refine s_lt (t_pure (.pointer (some ⟨b, 0, none⟩))) ?_
          refine s_lt (t_pure (.pointer (some ⟨b, 0, none⟩))) ?_
          refine s_lt (t_load 0 sv6) ?_
          refine s_lt (t_len VlT_ok Tryd.underlying61 (.own 1)) ?_
          refine s_lt (t_pure (.int .i64 i)) ?_
          refine s_lt (t_add (L.length : Int) i (by (try simp only [List.length_nil, List.length_cons, List.length_append, List.length_take, List.length_drop, List.length_set, List.length_replicate, List.length_reverse]); omega)) ?_
          refine s_lt (t_pure (.int .i64 ((L.length : Int) + i))) ?_
          refine s_lt (t_pure (.int .i64 0)) ?_
          refine s_nil ?_
          refine xs_then ?_
          refine k_ret ?_
          refine xs_retBlock ?_
          refine xs_ret ?_
          have hp : placeR (L.length : Int) i = (((L.length : Int) + i), 0) := by
            first | (simp [placeR, zVl, p5, p12, p19, p20]; done) | (simp [placeR, p5, p12, p19, p20]; omega) | (unfold placeR; rw [if_pos (by simp only [okP]; omega)]; done)  | (unfold placeR; rw [if_neg (by simp only [okP]; omega)]; done) | (unfold placeR; rw [if_pos (by simp only [okP]; omega)]; simp [atP, List.getD])
          refine xs_fin [.int .i64 ((L.length : Int) + i), .int .i64 0] (stkA 78 b L lim :: F) (SI.tmp 4 (SI.tmp 5 SI.nil)) (fun _ h => stk_shut ⟨by omega, by omega, by (try simp only [List.length_nil, List.length_cons, List.length_append, List.length_take, List.length_drop, List.length_set, List.length_replicate, List.length_reverse]); omega⟩ (h.re [0, 0] [])) ?_
          rw [hp]; exact ⟨rfl, rfl⟩
        ·
          have p21 := c16
          simp only [Bool.and_eq_true, Bool.or_eq_true, Bool.and_eq_false_iff, Bool.or_eq_false_iff, Bool.not_eq_true', Bool.not_eq_false', decide_eq_true_eq, decide_eq_false_iff_not] at p21
          refine k_skip ?_
          refine xs_block ?_
          refine xs_then ?_
          refine k_seq ?_
          refine k_reg ?_
          refine s_lt (t_pure (.int .i64 0)) ?_
          refine s_lt (t_pure (.int .i64 6)) ?_
          refine s_nil ?_
          refine xs_then ?_
          refine k_ret ?_
          have hp : placeR (L.length : Int) i = (0, 6) := by
            first | (simp [placeR, zVl, p5, p12, p21]; done) | (simp [placeR, p5, p12, p21]; omega) | (unfold placeR; rw [if_pos (by simp only [okP]; omega)]; done)  | (unfold placeR; rw [if_neg (by simp only [okP]; omega)]; done) | (unfold placeR; rw [if_pos (by simp only [okP]; omega)]; simp [atP, List.getD])
          refine xs_fin [.int .i64 0, .int .i64 6] (stkA 78 b L lim :: F) (SI.tmp 4 (SI.tmp 5 SI.nil)) (fun _ h => stk_shut ⟨by omega, by omega, by (try simp only [List.length_nil, List.length_cons, List.length_append, List.length_take, List.length_drop, List.length_set, List.length_replicate, List.length_reverse]); omega⟩ (h.re [0, 0] [])) ?_
          rw [hp]; exact ⟨rfl, rfl⟩
  ·
    have p22 := of_decide_eq_false c4
    refine s_skip ?_
    refine s_skip ?_
    refine s_skip ?_
    refine s_skip ?_
    refine s_skip ?_
    refine s_skip ?_
    refine s_skip ?_
    refine s_lt (t_pure (.bool false)) ?_
    refine s_lt (t_pure (.bool false)) ?_
    refine s_nil ?_
    refine xs_then ?_
    refine k_false ?_
    refine k_seq ?_
    refine k_reg ?_
    refine s_lt (t_pure (.int .i64 i)) ?_
    refine s_lt t_cmp ?_
    refine s_lt (t_pure (.bool (decide (i ≤ (-1))))) ?_
    refine s_fork 26 (decide (i ≤ (-1))) (fun c23 => ?_) (fun c23 => ?_)
    ·
      have p24 := of_decide_eq_true c23
      refine s_lt (t_pure (.int .i64 i)) ?_
      refine s_lt (t_pure (.pointer (some ⟨b, 0, none⟩))) ?_
      refine s_lt (t_pure (.pointer (some ⟨b, 0, none⟩))) ?_
      refine s_lt (t_pure (.pointer (some ⟨b, 0, none⟩))) ?_
      refine s_memX (fun H h => stk_open (h.re [0] [])) (fun sv25 hw => ?_)
      obtain ⟨hw26, hw27, hw28⟩ := hw
      refine s_lt (t_load 0 sv25) ?_
      refine s_lt (t_len VlT_ok Tryd.underlying61 (.own 1)) ?_
      refine s_lt (t_neg (L.length : Int) (by omega)) ?_
      refine s_lt t_cmp ?_
      refine s_lt (t_pure (.bool (decide ((-(L.length : Int)) ≤ i)))) ?_
      refine s_lt (t_pure (.bool (decide ((-(L.length : Int)) ≤ i)))) ?_
      refine s_nil ?_
      refine xs_then ?_
      refine k_cond (decide ((-(L.length : Int)) ≤ i)) (fun c29 => ?_) (fun c29 => ?_)
      ·
        have p30 := of_decide_eq_true c29
        refine k_seq ?_
        refine k_reg ?_
        refine s_lt (t_pure (.pointer (some ⟨b, 0, none⟩))) ?_
        refine s_lt (t_pure (.pointer (some ⟨b, 0, none⟩))) ?_
        refine s_lt (t_pure (.pointer (some ⟨b, 0, none⟩))) ?_
        refine s_lt (t_load 0 sv25) ?_
        refine s_lt (t_len VlT_ok Tryd.underlying61 (.own 1)) ?_
        refine s_lt (t_pure (.int .i64 i)) ?_
        refine s_lt (t_add (L.length : Int) i (by (try simp only [List.length_nil, List.length_cons, List.length_append, List.length_take, List.length_drop, List.length_set, List.length_replicate, List.length_reverse]); omega)) ?_
        refine s_lt (t_pure (.int .i64 ((L.length : Int) + i))) ?_
        refine s_lt (t_pure (.int .i64 0)) ?_
        refine s_nil ?_
        refine xs_then ?_
        refine k_ret ?_
        refine xs_retBlock ?_
        refine xs_ret ?_
        have hp : placeR (L.length : Int) i = (((L.length : Int) + i), 0) := by
          first | (simp [placeR, zVl, p22, p24, p30]; done) | (simp [placeR, p22, p24, p30]; omega) | (unfold placeR; rw [if_pos (by simp only [okP]; omega)]; done)  | (unfold placeR; rw [if_neg (by simp only [okP]; omega)]; done) | (unfold placeR; rw [if_pos (by simp only [okP]; omega)]; simp [atP, List.getD])
        refine xs_fin [.int .i64 ((L.length : Int) + i), .int .i64 0] (stkA 78 b L lim :: F) (SI.tmp 4 (SI.tmp 5 SI.nil)) (fun _ h => stk_shut ⟨by omega, by omega, by (try simp only [List.length_nil, List.length_cons, List.length_append, List.length_take, List.length_drop, List.length_set, List.length_replicate, List.length_reverse]); omega⟩ (h.re [0, 0] [])) ?_
        rw [hp]; exact ⟨rfl, rfl⟩
      ·
        have p31 := of_decide_eq_false c29
        refine k_skip ?_
        refine xs_block ?_
        refine xs_then ?_
        refine k_seq ?_
        refine k_reg ?_
        refine s_lt (t_pure (.int .i64 0)) ?_
        refine s_lt (t_pure (.int .i64 6)) ?_
        refine s_nil ?_
        refine xs_then ?_
        refine k_ret ?_
        have hp : placeR (L.length : Int) i = (0, 6) := by
          first | (simp [placeR, zVl, p22, p24, p31]; done) | (simp [placeR, p22, p24, p31]; omega) | (unfold placeR; rw [if_pos (by simp only [okP]; omega)]; done)  | (unfold placeR; rw [if_neg (by simp only [okP]; omega)]; done) | (unfold placeR; rw [if_pos (by simp only [okP]; omega)]; simp [atP, List.getD])
        refine xs_fin [.int .i64 0, .int .i64 6] (stkA 78 b L lim :: F) (SI.tmp 4 (SI.tmp 5 SI.nil)) (fun _ h => stk_shut ⟨by omega, by omega, by (try simp only [List.length_nil, List.length_cons, List.length_append, List.length_take, List.length_drop, List.length_set, List.length_replicate, List.length_reverse]); omega⟩ (h.re [0, 0] [])) ?_
        rw [hp]; exact ⟨rfl, rfl⟩
    ·
      have p32 := of_decide_eq_false c23
      refine s_skip ?_
      refine s_skip ?_
      refine s_skip ?_
      refine s_skip ?_
      refine s_skip ?_
      refine s_skip ?_
      refine s_skip ?_
      refine s_skip ?_
      refine s_lt (t_pure (.bool false)) ?_
      refine s_lt (t_pure (.bool false)) ?_
      refine s_nil ?_
      refine xs_then ?_
      refine k_false ?_
      refine k_skip ?_
      refine xs_block ?_
      refine xs_then ?_
      refine k_seq ?_
      refine k_reg ?_
      refine s_lt (t_pure (.int .i64 0)) ?_
      refine s_lt (t_pure (.int .i64 6)) ?_
      refine s_nil ?_
      refine xs_then ?_
      refine k_ret ?_
      have hp : placeR (L.length : Int) i = (0, 6) := by
        first | (simp [placeR, zVl, p22, p32]; done) | (simp [placeR, p22, p32]; omega) | (unfold placeR; rw [if_pos (by simp only [okP]; omega)]; done)  | (unfold placeR; rw [if_neg (by simp only [okP]; omega)]; done) | (unfold placeR; rw [if_pos (by simp only [okP]; omega)]; simp [atP, List.getD])
      refine xs_fin [.int .i64 0, .int .i64 6] (stkA 78 b L lim :: F) (SI.tmp 4 (SI.tmp 5 SI.nil)) (fun _ h => h.re [0] []) ?_
      rw [hp]; exact ⟨rfl, rfl⟩
theorem place_n {Z : Zone} (i : Int) : SF Tryd.prog 42 #[.pointer none, .int .i64 i] Z [] fun r Bs => r = .tuple #[.int .i64 0, .int .i64 1] ∧ Bs = [] := by
  refine sf_enter Tryd.func42 43 [(0, .pointer none), (1, .int .i64 i)] (fun w0 => ?_)
  refine k_seq ?_
  refine k_reg ?_
  refine s_lt (t_pure (.int .i64 0)) ?_
  refine s_lt (t_pure (.int .i64 0)) ?_
  refine s_nil ?_
  refine xs_then ?_
  refine k_seq ?_
  refine k_block ?_
  refine k_seq ?_
  refine k_reg ?_
  refine s_lt (t_pure (.pointer none)) ?_
  refine s_lt (t_pure (.bool true)) ?_
  refine s_lt (t_pure (.bool true)) ?_
  refine s_nil ?_
  refine xs_then ?_
  refine k_true ?_
  refine k_seq ?_
  refine k_reg ?_
  refine s_lt (t_pure (.int .i64 0)) ?_
  refine s_lt (t_pure (.int .i64 1)) ?_
  refine s_nil ?_
  refine xs_then ?_
  refine k_ret ?_
  refine xs_retBlock ?_
  refine xs_ret ?_
  refine xs_fin [.int .i64 0, .int .i64 1] [] (SI.tmp 4 (SI.tmp 5 SI.nil)) (fun _ h => h.re [] []) ⟨?_, rfl⟩
  rfl
theorem ab_s {Z : Zone} {F : List Asr} {b : Nat} {L : List Vl} {lim : Int} (i : Int) : SF Tryd.prog 38 #[.pointer (some ⟨b, 0, none⟩), .int .i64 i] Z (stkA 78 b L lim :: F) fun r Bs => r = .tuple #[.int .i64 (absR L i).1, .int .i64 (absR L i).2] ∧ Bs = stkA 78 b L lim :: F := by
  refine sf_enter Tryd.func38 19 [(0, .pointer (some ⟨b, 0, none⟩)), (1, .int .i64 i)] (fun w0 => ?_)
  refine k_fact (fun H h => stk_len (h.re [0] [])) (fun hl => ?_)
  obtain ⟨hl1, hl2, hl3⟩ := hl
  refine k_seq ?_
  refine k_reg ?_
  refine s_lt (t_pure (.int .i64 0)) ?_
  refine s_lt (t_pure (.int .i64 0)) ?_
  refine s_nil ?_
  refine xs_then ?_
  refine k_seq ?_
  refine k_reg ?_
  refine s_lt (t_pure (.pointer (some ⟨b, 0, none⟩))) ?_
  refine s_lt (t_pure (.int .i64 i)) ?_
  refine s_call [0] (place_s i) ?_
  rintro _ _ ⟨rfl, rfl⟩
  refine s_lt (t_pure (.tuple #[.int .i64 ((placeR (L.length : Int) i).1), .int .i64 ((placeR (L.length : Int) i).2)])) ?_
  refine s_lt (t_pure (.int .i64 ((placeR (L.length : Int) i).1))) ?_
  refine s_lt (t_pure (.int .i64 ((placeR (L.length : Int) i).2))) ?_
  refine s_lt (t_pure (.int .i64 ((placeR (L.length : Int) i).1))) ?_
  refine s_lt (t_pure (.int .i64 ((placeR (L.length : Int) i).2))) ?_
  refine s_nil ?_
  refine xs_then ?_
  refine k_seq ?_
  refine k_seq ?_
  refine k_reg ?_
  refine s_lt (t_pure (.int .i64 ((placeR (L.length : Int) i).2))) ?_
  refine s_lt t_cmp ?_
  refine s_nil ?_
  refine xs_then ?_
  refine k_cond (decide ((placeR (L.length : Int) i).2 ≠ 0)) (fun c4 => ?_) (fun c4 => ?_)
  ·
    have p5 := of_decide_eq_true c4
    have hq6 := placeR_err (n := (L.length : Int)) (i := i) (by omega)
    refine k_seq ?_
    refine k_reg ?_
    refine s_lt (t_pure (.int .i64 ((placeR (L.length : Int) i).2))) ?_
    refine s_lt (t_pure (.int .i64 0)) ?_
    refine s_lt (t_pure (.int .i64 ((placeR (L.length : Int) i).2))) ?_
    refine s_nil ?_
    refine xs_then ?_
    refine k_ret ?_
    refine xs_ret ?_
    have hp : absR L i = (0, (placeR (L.length : Int) i).2) := by
      first | (simp [absR, zVl, p5, hq6]; done) | (simp [absR, p5, hq6]; omega) | (unfold absR; rw [if_pos (by simp only [okP]; omega)]; done)  | (unfold absR; rw [if_neg (by simp only [okP]; omega)]; done) | (unfold absR; rw [if_pos (by simp only [okP]; omega)]; simp [atP, List.getD])
    refine xs_fin [.int .i64 0, .int .i64 ((placeR (L.length : Int) i).2)] (stkA 78 b L lim :: F) (SI.tmp 4 (SI.tmp 5 SI.nil)) (fun _ h => h.re [0] []) ?_
    rw [hp]; exact ⟨rfl, rfl⟩
  ·
    have p7 := Decidable.not_not.1 (of_decide_eq_false c4)
    have hq8 := placeR_lt (n := (L.length : Int)) (i := i) (by omega) (by omega)
    refine k_skip ?_
    refine xs_then ?_
    refine k_seq ?_
    refine k_reg ?_
    refine s_lt (t_pure (.int .i64 ((placeR (L.length : Int) i).1))) ?_
    refine s_lt (t_add ((placeR (L.length : Int) i).1) 1 (by (try simp only [List.length_nil, List.length_cons, List.length_append, List.length_take, List.length_drop, List.length_set, List.length_replicate, List.length_reverse]); omega)) ?_
    refine s_lt (t_pure (.int .i64 ((placeR (L.length : Int) i).1 + 1))) ?_
    refine s_lt (t_pure (.int .i64 0)) ?_
    refine s_nil ?_
    refine xs_then ?_
    refine k_ret ?_
    have hp : absR L i = (((placeR (L.length : Int) i).1 + 1), 0) := by
      first | (simp [absR, zVl, p7]; done) | (simp [absR, p7]; omega) | (unfold absR; rw [if_pos (by simp only [okP]; omega)]; done)  | (unfold absR; rw [if_neg (by simp only [okP]; omega)]; done) | (unfold absR; rw [if_pos (by simp only [okP]; omega)]; simp [atP, List.getD])
    refine xs_fin [.int .i64 ((placeR (L.length : Int) i).1 + 1), .int .i64 0] (stkA 78 b L lim :: F) (SI.tmp 4 (SI.tmp 5 SI.nil)) (fun _ h => h.re [0] []) ?_
    rw [hp]; exact ⟨rfl, rfl⟩
theorem ab_n {Z : Zone} (i : Int) : SF Tryd.prog 38 #[.pointer none, .int .i64 i] Z [] fun r Bs => r = .tuple #[.int .i64 0, .int .i64 1] ∧ Bs = [] := by
  refine sf_enter Tryd.func38 19 [(0, .pointer none), (1, .int .i64 i)] (fun w0 => ?_)
  refine k_seq ?_
  refine k_reg ?_
  refine s_lt (t_pure (.int .i64 0)) ?_
  refine s_lt (t_pure (.int .i64 0)) ?_
  refine s_nil ?_
  refine xs_then ?_
  refine k_seq ?_
  refine k_reg ?_
  refine s_lt (t_pure (.pointer none)) ?_
  refine s_lt (t_pure (.int .i64 i)) ?_
  refine s_vcall (fun _ h => place_n i) ?_
  rintro _ rfl
  refine s_lt (t_pure (.tuple #[.int .i64 0, .int .i64 1])) ?_
  refine s_lt (t_pure (.int .i64 0)) ?_
  refine s_lt (t_pure (.int .i64 1)) ?_
  refine s_lt (t_pure (.int .i64 0)) ?_
  refine s_lt (t_pure (.int .i64 1)) ?_
  refine s_nil ?_
  refine xs_then ?_
  refine k_seq ?_
  refine k_seq ?_
  refine k_reg ?_
  refine s_lt (t_pure (.int .i64 1)) ?_
  refine s_lt (t_cmp (c := true)) ?_
  refine s_nil ?_
  refine xs_then ?_
  refine k_true ?_
  refine k_seq ?_
  refine k_reg ?_
  refine s_lt (t_pure (.int .i64 1)) ?_
  refine s_lt (t_pure (.int .i64 0)) ?_
  refine s_lt (t_pure (.int .i64 1)) ?_
  refine s_nil ?_
  refine xs_then ?_
  refine k_ret ?_
  refine xs_ret ?_
  refine xs_fin [.int .i64 0, .int .i64 1] [] (SI.tmp 4 (SI.tmp 5 SI.nil)) (fun _ h => h.re [] []) ⟨?_, rfl⟩
  rfl
theorem at_s {Z : Zone} {F : List Asr} {b : Nat} {L : List Vl} {lim : Int} (i : Int) : SF Tryd.prog 18 #[.pointer (some ⟨b, 0, none⟩), .int .i64 i] Z (stkA 78 b L lim :: F) fun r Bs => r = .tuple #[(atR L i).1.v, .int .i64 (atR L i).2] ∧ Bs = stkA 78 b L lim :: F := by
  refine sf_enter Tryd.func18 25 [(0, .pointer (some ⟨b, 0, none⟩)), (1, .int .i64 i)] (fun w0 => ?_)
  refine k_fact (fun H h => stk_len (h.re [0] [])) (fun hl => ?_)
  obtain ⟨hl1, hl2, hl3⟩ := hl
  refine k_seq ?_
  refine k_reg ?_
  refine s_alloc (.agg #[.int .i64 0, .int .i64 0, .int .i64 0, .string ByteArray.empty, .int .i64 0]) #[.int .i64 0, .int .i64 0, .int .i64 0, .string ByteArray.empty, .int .i64 0] (fun g4 => ?_)
  refine s_lt (t_pure (.int .i64 0)) ?_
  refine s_nil ?_
  refine xs_then ?_
  refine k_seq ?_
  refine k_reg ?_
  refine s_lt (t_pure (.pointer (some ⟨b, 0, none⟩))) ?_
  refine s_lt (t_pure (.int .i64 i)) ?_
  refine s_call [1] (place_s i) ?_
  rintro _ _ ⟨rfl, rfl⟩
  refine s_lt (t_pure (.tuple #[.int .i64 ((placeR (L.length : Int) i).1), .int .i64 ((placeR (L.length : Int) i).2)])) ?_
  refine s_lt (t_pure (.int .i64 ((placeR (L.length : Int) i).1))) ?_
  refine s_lt (t_pure (.int .i64 ((placeR (L.length : Int) i).2))) ?_
  refine s_lt (t_pure (.int .i64 ((placeR (L.length : Int) i).1))) ?_
  refine s_lt (t_pure (.int .i64 ((placeR (L.length : Int) i).2))) ?_
  refine s_nil ?_
  refine xs_then ?_
  refine k_seq ?_
  refine k_seq ?_
  refine k_reg ?_
  refine s_lt (t_pure (.int .i64 ((placeR (L.length : Int) i).2))) ?_
  refine s_lt t_cmp ?_
  refine s_nil ?_
  refine xs_then ?_
  refine k_cond (decide ((placeR (L.length : Int) i).2 ≠ 0)) (fun c5 => ?_) (fun c5 => ?_)
  ·
    have p6 := of_decide_eq_true c5
    have hq7 := placeR_err (n := (L.length : Int)) (i := i) (by omega)
    refine k_seq ?_
    refine k_reg ?_
    refine s_lt (t_kern (.agg #[.int .i64 0, .int .i64 0, .int .i64 0, .string ByteArray.empty, .int .i64 0])) ?_
    refine s_lt (t_pure (.int .i64 ((placeR (L.length : Int) i).2))) ?_
    refine s_store 1 #[.int .i64 0, .int .i64 0, .int .i64 0, .string ByteArray.empty, .int .i64 0] ?_
    refine s_lt (t_pure (.int .i64 ((placeR (L.length : Int) i).2))) ?_
    refine s_nil ?_
    refine xs_then ?_
    refine k_ret ?_
    refine xs_ret ?_
    have hp : atR L i = ((⟨0, 0, 0, ByteArray.empty, 0⟩ : Vl), (placeR (L.length : Int) i).2) := by
      first | (simp [atR, zVl, p6, hq7]; done) | (simp [atR, p6, hq7]; omega) | (unfold atR; rw [if_pos (by simp only [okP]; omega)]; done)  | (unfold atR; rw [if_neg (by simp only [okP]; omega)]; done) | (unfold atR; rw [if_pos (by simp only [okP]; omega)]; simp [atP, List.getD])
    refine xs_fin [.agg #[.int .i64 0, .int .i64 0, .int .i64 0, .string ByteArray.empty, .int .i64 0], .int .i64 ((placeR (L.length : Int) i).2)] (stkA 78 b L lim :: F) (SI.agg 4 39 1 (SI.tmp 5 SI.nil)) (fun _ h => h.re [0] [1]) ?_
    rw [hp]; exact ⟨rfl, rfl⟩
  ·
    have p8 := Decidable.not_not.1 (of_decide_eq_false c5)
    have hq9 := placeR_lt (n := (L.length : Int)) (i := i) (by omega) (by omega)
    refine k_skip ?_
    refine xs_then ?_
    refine k_seq ?_
    refine k_reg ?_
    refine s_lt (t_pure (.pointer (some ⟨b, 0, none⟩))) ?_
    refine s_lt (t_pure (.pointer (some ⟨b, 0, none⟩))) ?_
    refine s_lt (t_pure (.pointer (some ⟨b, 0, none⟩))) ?_
    refine s_memX (fun H h => stk_open (h.re [0] [])) (fun sv10 hw => ?_)
    obtain ⟨hw11, hw12, hw13⟩ := hw
    refine s_lt (t_load 0 sv10) ?_
    refine s_lt (t_pure (.int .i64 ((placeR (L.length : Int) i).1))) ?_
    refine s_lt (t_index VlT_ok Tryd.underlying61 (.own 1) ((placeR (L.length : Int) i).1) (((placeR (L.length : Int) i).1).toNat) (by omega) (by (try simp only [List.length_nil, List.length_cons, List.length_append, List.length_take, List.length_drop, List.length_set, List.length_replicate, List.length_reverse]); omega) (by omega)) ?_
    obtain ⟨y14, hy15⟩ : ∃ y, L[((placeR (L.length : Int) i).1).toNat]? = some y := ⟨_, List.getElem?_eq_getElem (by (try simp only [List.length_nil, List.length_cons, List.length_append, List.length_take, List.length_drop, List.length_set, List.length_replicate, List.length_reverse]); omega)⟩
    refine s_lt (t_loadE VlT_ok (.own 1) hy15) ?_
    refine s_store 2 #[.int .i64 y14.kind, .int .i64 y14.p, .int .i64 y14.q, .string y14.str, .int .i64 y14.ref] ?_
    refine s_lt (t_pure (.int .i64 0)) ?_
    refine s_nil ?_
    refine xs_then ?_
    refine k_ret ?_
    have hp : atR L i = (y14, 0) := by
      first | (simp [atR, zVl, p8]; done) | (simp [atR, p8]; omega) | (unfold atR; rw [if_pos (by simp only [okP]; omega)]; done)  | (unfold atR; rw [if_neg (by simp only [okP]; omega)]; done) | (unfold atR; rw [if_pos (by simp only [okP]; omega)]; simp [atP, List.getD, hy15])
    refine xs_fin [.agg #[.int .i64 y14.kind, .int .i64 y14.p, .int .i64 y14.q, .string y14.str, .int .i64 y14.ref], .int .i64 0] (stkA 78 b L lim :: F) (SI.agg 4 39 2 (SI.tmp 5 SI.nil)) (fun _ h => stk_shut ⟨by omega, by omega, by (try simp only [List.length_nil, List.length_cons, List.length_append, List.length_take, List.length_drop, List.length_set, List.length_replicate, List.length_reverse]); omega⟩ (h.re [0, 0] [2])) ?_
    rw [hp]; exact ⟨rfl, rfl⟩
theorem at_n {Z : Zone} (i : Int) : SF Tryd.prog 18 #[.pointer none, .int .i64 i] Z [] fun r Bs => r = .tuple #[zVl.v, .int .i64 1] ∧ Bs = [] := by
  refine sf_enter Tryd.func18 25 [(0, .pointer none), (1, .int .i64 i)] (fun w0 => ?_)
  refine k_seq ?_
  refine k_reg ?_
  refine s_alloc (.agg #[.int .i64 0, .int .i64 0, .int .i64 0, .string ByteArray.empty, .int .i64 0]) #[.int .i64 0, .int .i64 0, .int .i64 0, .string ByteArray.empty, .int .i64 0] (fun g1 => ?_)
  refine s_lt (t_pure (.int .i64 0)) ?_
  refine s_nil ?_
  refine xs_then ?_
  refine k_seq ?_
  refine k_reg ?_
  refine s_lt (t_pure (.pointer none)) ?_
  refine s_lt (t_pure (.int .i64 i)) ?_
  refine s_vcall (fun _ h => place_n i) ?_
  rintro _ rfl
  refine s_lt (t_pure (.tuple #[.int .i64 0, .int .i64 1])) ?_
  refine s_lt (t_pure (.int .i64 0)) ?_
  refine s_lt (t_pure (.int .i64 1)) ?_
  refine s_lt (t_pure (.int .i64 0)) ?_
  refine s_lt (t_pure (.int .i64 1)) ?_
  refine s_nil ?_
  refine xs_then ?_
  refine k_seq ?_
  refine k_seq ?_
  refine k_reg ?_
  refine s_lt (t_pure (.int .i64 1)) ?_
  refine s_lt (t_cmp (c := true)) ?_
  refine s_nil ?_
  refine xs_then ?_
  refine k_true ?_
  refine k_seq ?_
  refine k_reg ?_
  refine s_lt (t_kern (.agg #[.int .i64 0, .int .i64 0, .int .i64 0, .string ByteArray.empty, .int .i64 0])) ?_
  refine s_lt (t_pure (.int .i64 1)) ?_
  refine s_store 0 #[.int .i64 0, .int .i64 0, .int .i64 0, .string ByteArray.empty, .int .i64 0] ?_
  refine s_lt (t_pure (.int .i64 1)) ?_
  refine s_nil ?_
  refine xs_then ?_
  refine k_ret ?_
  refine xs_ret ?_
  refine xs_fin [.agg #[.int .i64 0, .int .i64 0, .int .i64 0, .string ByteArray.empty, .int .i64 0], .int .i64 1] [] (SI.agg 4 39 0 (SI.tmp 5 SI.nil)) (fun _ h => h.re [] [0]) ⟨?_, rfl⟩
  rfl
theorem push0_s {Z : Zone} {F : List Asr} {b : Nat} {L : List Vl} {lim : Int} {lv : Value} {M : List Vl} (hM : (L.length : Int) + M.length ≤ lim) : SF Tryd.prog 40 #[.pointer (some ⟨b, 0, none⟩), lv] Z (stkA 78 b L lim :: own VlT lv M :: F) fun r Bs => r = .tuple #[] ∧ Bs = stkA 78 b (L ++ M) lim :: own VlT lv M :: F := by
  refine sf_enter Tryd.func40 13 [(0, .pointer (some ⟨b, 0, none⟩)), (1, lv)] (fun w0 => ?_)
  refine k_fact (fun H h => stk_len (h.re [0] [])) (fun hl => ?_)
  obtain ⟨hl1, hl2, hl3⟩ := hl
  refine k_reg ?_
  refine s_lt (t_pure (.pointer (some ⟨b, 0, none⟩))) ?_
  refine s_lt (t_pure (.pointer (some ⟨b, 0, none⟩))) ?_
  refine s_lt (t_pure (.pointer (some ⟨b, 0, none⟩))) ?_
  refine s_lt (t_pure (.pointer (some ⟨b, 0, none⟩))) ?_
  refine s_memX (fun H h => stk_open (h.re [0] [])) (fun sv4 hw => ?_)
  obtain ⟨hw5, hw6, hw7⟩ := hw
  refine s_lt (t_load 0 sv4) ?_
  refine s_lt (t_pure lv) ?_
  refine s_append (L := L) 1 VlT_ok Tryd.underlying61 (.own 2) (by show _ * 48 ≤ _; (try simp only [List.length_nil, List.length_cons, List.length_append, List.length_take, List.length_drop, List.length_set, List.length_replicate, List.length_reverse]); omega) (by (try simp only [List.length_nil, List.length_cons, List.length_append, List.length_take, List.length_drop, List.length_set, List.length_replicate, List.length_reverse]); omega) (fun v8 => ?_)
  refine s_lt (t_pure (.pointer (some ⟨b, 0, none⟩))) ?_
  refine s_lt (t_pure (.pointer (some ⟨b, 0, none⟩))) ?_
  refine s_fact (fun H h => ((Acc.own (T := VlT) (L := (L ++ M)) 1 rfl) H h).form) (fun hf9 => ?_)
  refine s_store (u := v8) (m := 1) 0 #[v8, .int .i64 lim] ?_ (hm := by (obtain ⟨_, _, e⟩ := hf9; rw [e]; rfl)) (h1 := by (obtain ⟨_, _, e⟩ := hf9; rw [e]; rfl)) (ha' := by (obtain ⟨_, _, e⟩ := hf9; rw [e]; rfl))
  refine s_nil ?_
  exact xs_finN [] (stkA 78 b (L ++ M) lim :: own VlT lv M :: F) SI.nil (fun _ h => stk_shut ⟨by omega, by omega, by (try simp only [List.length_nil, List.length_cons, List.length_append, List.length_take, List.length_drop, List.length_set, List.length_replicate, List.length_reverse]); omega⟩ (h.re [0, 0, 0] [])) ⟨rfl, rfl⟩
theorem push_s {Z : Zone} {F : List Asr} {b : Nat} {L : List Vl} {lim : Int} (v : Vl) : SF Tryd.prog 16 #[.pointer (some ⟨b, 0, none⟩), .agg #[.int .i64 v.kind, .int .i64 v.p, .int .i64 v.q, .string v.str, .int .i64 v.ref]] Z (stkA 78 b L lim :: F) fun r Bs => r = .int .i64 (pushR L lim v).1 ∧ Bs = stkA 78 b (pushR L lim v).2 lim :: F := by
  refine sf_enter Tryd.func16 27 [(0, .pointer (some ⟨b, 0, none⟩)), (1, .agg #[.int .i64 v.kind, .int .i64 v.p, .int .i64 v.q, .string v.str, .int .i64 v.ref])] (fun w0 => ?_)
  refine k_fact (fun H h => stk_len (h.re [0] [])) (fun hl => ?_)
  obtain ⟨hl1, hl2, hl3⟩ := hl
  refine k_seq ?_
  refine k_reg ?_
  refine s_box #[.int .i64 v.kind, .int .i64 v.p, .int .i64 v.q, .string v.str, .int .i64 v.ref] (fun g4 => ?_)
  refine s_lt (t_pure (.int .i64 0)) ?_
  refine s_nil ?_
  refine xs_then ?_
  refine k_seq ?_
  refine k_block ?_
  refine k_seq ?_
  refine k_reg ?_
  refine s_lt (t_pure (.pointer (some ⟨b, 0, none⟩))) ?_
  refine s_lt (t_pure (.bool false)) ?_
  refine s_lt (t_pure (.bool false)) ?_
  refine s_nil ?_
  refine xs_then ?_
  refine k_false ?_
  refine k_seq ?_
  refine k_reg ?_
  refine s_lt (t_loadA 0 #[.int .i64 v.kind, .int .i64 v.p, .int .i64 v.q, .string v.str, .int .i64 v.ref]) ?_
  refine s_vcall (fun _ h => valid_s v) ?_
  rintro _ rfl
  refine s_lt (t_pure (.bool (!(validB v)))) ?_
  refine s_lt (t_pure (.bool (!(validB v)))) ?_
  refine s_nil ?_
  refine xs_then ?_
  refine k_cond (!(validB v)) (fun c5 => ?_) (fun c5 => ?_)
  ·
    have c6 := not_t c5
    refine k_seq ?_
    refine k_reg ?_
    refine s_lt (t_pure (.int .i64 2)) ?_
    refine s_nil ?_
    refine xs_then ?_
    refine k_ret ?_
    refine xs_retBlock ?_
    refine xs_ret ?_
    have hp : pushR L lim v = (2, L) := by
      first | (simp [pushR, c6]; done) | (simp [pushR, c6]; omega)
    refine xs_fin [.int .i64 2] (stkA 78 b L lim :: F) (SI.tmp 4 SI.nil) (fun _ h => h.re [1] [1]) ?_
    rw [hp]; exact ⟨rfl, rfl⟩
  ·
    have c7 := not_f c5
    refine k_seq ?_
    refine k_draw ?_
    refine s_lt (t_pure (.pointer (some ⟨b, 0, none⟩))) ?_
    refine s_lt (t_pure (.pointer (some ⟨b, 0, none⟩))) ?_
    refine s_lt (t_pure (.pointer (some ⟨b, 0, none⟩))) ?_
    refine s_memX (fun H h => stk_open (h.re [1] [])) (fun sv8 hw => ?_)
    obtain ⟨hw9, hw10, hw11⟩ := hw
    refine s_lt (t_load 0 sv8) ?_
    refine s_fact (fun H h => ((Acc.own (T := VlT) (L := L) 1 rfl) H h).form) (fun hf12 => ?_)
    refine s_lt (t_len VlT_ok Tryd.underlying61 (.own 1)) ?_
    refine s_lt (t_pure (.pointer (some ⟨b, 0, none⟩))) ?_
    refine s_lt (t_pure (.pointer (some ⟨b, 0, none⟩))) ?_
    refine s_lt (t_pure (.pointer (some ⟨b, 1, none⟩))) ?_
    refine s_lt (t_load 0 (.int .i64 lim)) ?_
    refine s_lt t_cmp ?_
    refine s_lt (t_pure (.bool (decide (lim ≤ (L.length : Int))))) ?_
    refine s_nil ?_
    refine x_dynS (fun _ h => by obtain ⟨_, _, e⟩ := hf12; subst e; kernel_rfl) ?_
    refine xs_then ?_
    refine k_cond (decide (lim ≤ (L.length : Int))) (fun c13 => ?_) (fun c13 => ?_)
    ·
      have p14 := of_decide_eq_true c13
      refine k_seq ?_
      refine k_reg ?_
      refine s_lt (t_pure (.int .i64 17)) ?_
      refine s_nil ?_
      refine xs_then ?_
      refine k_ret ?_
      refine xs_retBlock ?_
      refine xs_ret ?_
      have hp : pushR L lim v = (17, L) := by
        first | (simp [pushR, c7, p14]; done) | (simp [pushR, c7, p14]; omega)
      refine xs_fin [.int .i64 17] (stkA 78 b L lim :: F) (SI.tmp 4 SI.nil) (fun _ h => stk_shut ⟨by omega, by omega, by (try simp only [List.length_nil, List.length_cons, List.length_append, List.length_take, List.length_drop, List.length_set, List.length_replicate, List.length_reverse]); omega⟩ (h.re [0, 0] [2])) ?_
      rw [hp]; exact ⟨rfl, rfl⟩
    ·
      have p15 := of_decide_eq_false c13
      refine k_skip ?_
      refine xs_block ?_
      refine xs_then ?_
      refine k_seq ?_
      refine k_reg ?_
      refine s_lt (t_pure (.pointer (some ⟨b, 0, none⟩))) ?_
      refine s_lt (t_loadA 2 #[.int .i64 v.kind, .int .i64 v.p, .int .i64 v.q, .string v.str, .int .i64 v.ref]) ?_
      refine s_buildSlice (e := 39) [(0, .agg #[.int .i64 v.kind, .int .i64 v.p, .int .i64 v.q, .string v.str, .int .i64 v.ref])] #[.int .i64 v.kind, .int .i64 v.p, .int .i64 v.q, .string v.str, .int .i64 v.ref] (fun g16 => ?_) (hb := by kernel_rfl)
      refine s_mem (fun _ h => stk_shut ⟨by omega, by omega, by (try simp only [List.length_nil, List.length_cons, List.length_append, List.length_take, List.length_drop, List.length_set, List.length_replicate, List.length_reverse]); omega⟩ (h.re [1, 1] [])) ?_
      refine s_mem (fun _ h => Holds.slice 1 h VlT_ok [v]) ?_
      refine s_call [0, 0] (push0_s (L := L) (M := [v]) (lim := lim) (by (try simp only [List.length_nil, List.length_cons, List.length_append, List.length_take, List.length_drop, List.length_set, List.length_replicate, List.length_reverse]); omega)) ?_
      rintro _ _ ⟨rfl, rfl⟩
      refine s_nil ?_
      refine xs_then ?_
      refine k_seq ?_
      refine k_reg ?_
      refine s_lt (t_pure (.int .i64 0)) ?_
      refine s_nil ?_
      refine xs_then ?_
      refine k_ret ?_
      have hp : pushR L lim v = (0, (L ++ [v])) := by
        first | (simp [pushR, c7, p15]; done) | (simp [pushR, c7, p15]; omega)
      refine xs_fin [.int .i64 0] (stkA 78 b (L ++ [v]) lim :: F) (SI.tmp 4 SI.nil) (fun _ h => h.re [0] [1, 1]) ?_
      rw [hp]; exact ⟨rfl, rfl⟩
theorem push_n {Z : Zone} (v : Vl) : SF Tryd.prog 16 #[.pointer none, .agg #[.int .i64 v.kind, .int .i64 v.p, .int .i64 v.q, .string v.str, .int .i64 v.ref]] Z [] fun r Bs => r = .int .i64 1 ∧ Bs = [] := by
  refine sf_enter Tryd.func16 27 [(0, .pointer none), (1, .agg #[.int .i64 v.kind, .int .i64 v.p, .int .i64 v.q, .string v.str, .int .i64 v.ref])] (fun w0 => ?_)
  refine k_seq ?_
  refine k_reg ?_
  refine s_box #[.int .i64 v.kind, .int .i64 v.p, .int .i64 v.q, .string v.str, .int .i64 v.ref] (fun g1 => ?_)
  refine s_lt (t_pure (.int .i64 0)) ?_
  refine s_nil ?_
  refine xs_then ?_
  refine k_seq ?_
  refine k_block ?_
  refine k_seq ?_
  refine k_reg ?_
  refine s_lt (t_pure (.pointer none)) ?_
  refine s_lt (t_pure (.bool true)) ?_
  refine s_lt (t_pure (.bool true)) ?_
  refine s_nil ?_
  refine xs_then ?_
  refine k_true ?_
  refine k_seq ?_
  refine k_reg ?_
  refine s_lt (t_pure (.int .i64 1)) ?_
  refine s_nil ?_
  refine xs_then ?_
  refine k_ret ?_
  refine xs_retBlock ?_
  refine xs_ret ?_
  refine xs_fin [.int .i64 1] [] (SI.tmp 4 SI.nil) (fun _ h => h.re [] [0]) ⟨?_, rfl⟩
  rfl
theorem clone_s {Z : Zone} {lv : Value} {M : List Vl} (hM : Kn Z VlT lv M) (hl : M.length ≤ 100000) : SF Tryd.prog 47 #[lv] Z [] fun r Bs => Bs = [own VlT r M] := by
  refine sf_enter Tryd.func47 8 [(0, lv)] (fun w0 => ?_)
  refine k_seq ?_
  refine k_reg ?_
  refine s_lt (t_pure (.slice none 0 0)) ?_
  refine s_nil ?_
  refine xs_then ?_
  refine k_seq ?_
  refine k_seq ?_
  refine k_reg ?_
  refine s_lt (t_pure lv) ?_
  refine s_lt (t_nilS Tryd.underlying61 (.zn hM)) ?_
  refine s_nil ?_
  refine xs_then ?_
  refine k_cond (nilS lv) (fun c1 => ?_) (fun c1 => ?_)
  ·
    refine k_seq ?_
    refine k_reg ?_
    refine s_lt (t_pure (.slice none 0 0)) ?_
    refine s_nil ?_
    refine xs_then ?_
    refine k_ret ?_
    refine xs_ret ?_
    refine xs_fact (fun H h => nilS_spec (hM.get h) c1) (fun hn => ?_)
    obtain ⟨rfl, rfl⟩ := hn
    exact xs_fin [.slice none 0 0] [own VlT (.slice none 0 0) []] (SI.tmp 2 SI.nil) (fun _ h => h.nilS) rfl
  ·
    refine k_skip ?_
    refine xs_then ?_
    refine k_seq ?_
    refine k_reg ?_
    refine s_buildSlice (e := 39) [] #[] (fun g2 => ?_) (hb := by kernel_rfl)
    refine s_lt (t_pure lv) ?_
    refine s_mem (fun _ h => Holds.slice 0 h VlT_ok []) ?_
    refine s_append (L := []) 0 VlT_ok Tryd.underlying61 (.zn hM) (by show _ * 48 ≤ _; (try simp only [List.length_nil, List.length_cons, List.length_append, List.length_take, List.length_drop, List.length_set, List.length_replicate, List.length_reverse]); omega) (by (try simp only [List.length_nil, List.length_cons, List.length_append, List.length_take, List.length_drop, List.length_set, List.length_replicate, List.length_reverse]); omega) (fun v3 => ?_)
    refine s_lt (t_pure v3) ?_
    refine s_nil ?_
    refine xs_then ?_
    refine k_ret ?_
    exact xs_fin [v3] [own VlT v3 M] (SI.tmp 2 SI.nil) (fun _ h => h.re [] []) rfl
end Go.Proofs.YtdakfjdbdopmbaaDoor.St
