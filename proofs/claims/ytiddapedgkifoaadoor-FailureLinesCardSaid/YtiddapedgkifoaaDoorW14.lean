/-
  The statements of layer 19, walked.
-/
import Derived.Test.YtiddapedgkifoaaDoorW13
set_option linter.unusedSimpArgs false
set_option linter.unusedVariables false
set_option maxRecDepth 100000
namespace Go.Proofs.YtiddapedgkifoaaDoor
open Go.Hp Go.J Go.S
open Go.Mem (Ty KTy blk elemAt pre suf blk_pre blk_suf aget aset strK aggDesc)
open Go.Mem
theorem same_comm {α β : Type} [DecidableEq α] [DecidableEq β] (u v : α) (A B : β) : ((decide (v = u) && decide (B = A)) == (decide (u = v) && decide (A = B))) = true := by
  have e1 : decide (v = u) = decide (u = v) := decide_eq_decide.2 eq_comm
  have e2 : decide (B = A) = decide (A = B) := decide_eq_decide.2 eq_comm
  rw [e1, e2]; simp
theorem desc_kind {e : Int} (h : ¬ e = 8) (k k' : Int) : descT e k = descT e k' := by unfold descT firstT; simp [h]
theorem raise_same {v : Vl} {N : Int} {M : List Pl} (h : v.kind ≠ 3 ∨ N < 1) : raiseT v N M = v := if_neg (by
  rintro ⟨a, b, d⟩; rcases h with h | h
  · exact h a
  · exact b (if_pos h))
theorem raise_two (v : Vl) (N : Int) (M : List Pl) : (raiseT v N M).str = v.str ∨ ∃ l, (raiseT v N M).str = itoaB l ++ ⟨#[58, 32]⟩ ++ v.str := by
  unfold raiseT; split
  · exact .inr ⟨_, rfl⟩
  · exact .inl rfl
theorem itoaB_pos (l : Int) : 1 ≤ (itoaB l).size := by
  show 1 ≤ (Lib.itoa l).toArray.size
  have hd : ∀ n, 1 ≤ (Lib.decDigits n).length := fun n => by rw [Lib.decDigits]; split <;> simp
  rw [List.size_toArray, Lib.itoa]; split
  · simp
  · exact hd _
theorem two_size : (⟨#[58, 32]⟩ : ByteArray).size = 2 := rfl
theorem raise_ge (v : Vl) (N : Int) (M : List Pl) : v.str.size ≤ (raiseT v N M).str.size := by
  rcases raise_two v N M with h | ⟨l, h⟩ <;> rw [h]
  · exact Nat.le_refl _
  · rw [ByteArray.size_append]; omega
theorem raise_three {v : Vl} {N : Int} {M : List Pl} (h : 0 < ((raiseT v N M).str.size : Int) - v.str.size) : 3 ≤ ((raiseT v N M).str.size : Int) - v.str.size := by
  rcases raise_two v N M with e | ⟨l, e⟩ <;> rw [e] at h ⊢
  · omega
  · have := itoaB_pos l; rw [ByteArray.size_append, ByteArray.size_append, two_size]; omega
theorem ext_tail (a b : ByteArray) : (a ++ b).extract a.size (a ++ b).size = b := by
  rw [ByteArray.extract_append, ByteArray.size_append]
  have : a.extract a.size (a.size + b.size) = ByteArray.empty := by
    apply ByteArray.ext; simp
  rw [this]; simp
theorem raise_tail (v : Vl) (N : Int) (M : List Pl) : (raiseT v N M).str.extract (((raiseT v N M).str.size : Int) - v.str.size).toNat (raiseT v N M).str.size = v.str := by
  rcases raise_two v N M with e | ⟨l, e⟩ <;> rw [e]
  · simp
  · rw [show (((itoaB l ++ ⟨#[58, 32]⟩ ++ v.str).size : Int) - v.str.size).toNat = (itoaB l ++ ⟨#[58, 32]⟩).size by rw [ByteArray.size_append]; omega]
    exact ext_tail _ _
theorem raise_colon {v : Vl} {N : Int} {M : List Pl} (h : 0 < ((raiseT v N M).str.size : Int) - v.str.size) : (raiseT v N M).str.extract (((raiseT v N M).str.size : Int) - v.str.size - 2).toNat (((raiseT v N M).str.size : Int) - v.str.size).toNat = ⟨#[58, 32]⟩ := by
  rcases raise_two v N M with e | ⟨l, e⟩ <;> rw [e] at h ⊢
  · omega
  · rw [show (((itoaB l ++ ⟨#[58, 32]⟩ ++ v.str).size : Int) - v.str.size).toNat = (itoaB l ++ ⟨#[58, 32]⟩).size by rw [ByteArray.size_append]; omega]
    rw [show (((itoaB l ++ ⟨#[58, 32]⟩ ++ v.str).size : Int) - v.str.size - 2).toNat = (itoaB l).size by rw [ByteArray.size_append, ByteArray.size_append, two_size]; omega]
    rw [ByteArray.extract_append, show (itoaB l ++ ⟨#[58, 32]⟩).size - (itoaB l ++ ⟨#[58, 32]⟩).size = 0 by omega, show (itoaB l).size - (itoaB l ++ ⟨#[58, 32]⟩).size = 0 by rw [ByteArray.size_append]; omega]
    rw [ext_tail]; simp
theorem raise_put (v : Vl) (N : Int) (M : List Pl) : (⟨(raiseT v N M).kind, (raiseT v N M).p, (raiseT v N M).q, v.str, (raiseT v N M).ref⟩ : Vl) = v := by unfold raiseT; split <;> rfl
theorem linesT_short {M : List Pl} (h : M.length ≤ 21) : linesT M = M.map lineT := by rw [linesT, linesU, if_pos h, List.take_length]
theorem linesT_long {M : List Pl} (h : ¬ M.length ≤ 21) : linesT M = (M.take 10).map lineT ++ ([dots] ++ (M.drop (M.length - 11)).map lineT) := by
  rw [linesT, linesU, if_neg h, if_pos (by omega), Nat.min_eq_right (by omega), List.take_length]
theorem short_len {M : List Pl} (h : M.length ≤ 21) : (linesT M).length = M.length := by rw [linesT_short h]; simp
theorem long_len {M : List Pl} (h : ¬ M.length ≤ 21) : (linesT M).length = 22 := by rw [linesT_long h]; simp; omega
theorem first_len {M : List Pl} (h : ¬ M.length ≤ 21) : (linesT (M.take 10)).length = 10 := by rw [linesT_short (by simp; omega)]; simp; omega
theorem last_len {M : List Pl} (h : ¬ M.length ≤ 21) : (linesT (M.drop (M.length - 11))).length = 11 := by rw [linesT_short (by simp; omega)]; simp; omega
theorem long_ten {M : List Pl} {y : ByteArray} (h : ¬ M.length ≤ 21) (hy : (linesT M)[10]? = some y) : y = dots := by
  rw [linesT_long h, List.getElem?_append_right (by simp; omega), show 10 - ((M.take 10).map lineT).length = 0 by simp; omega] at hy
  exact (Option.some.inj hy).symm
theorem long_first {M : List Pl} {i : Nat} {x y : ByteArray} (h : ¬ M.length ≤ 21) (hi : i < 10) (hx : (linesT M)[i]? = some x) (hy : (linesT (M.take 10))[i]? = some y) : x = y := by
  rw [linesT_long h, List.getElem?_append_left (by simp; omega)] at hx
  rw [linesT_short (by simp; omega)] at hy
  exact Option.some.inj (hx.symm.trans hy)
theorem long_last {M : List Pl} {i j : Nat} {x y : ByteArray} (h : ¬ M.length ≤ 21) (hj : j = i + 11) (hx : (linesT M)[j]? = some x) (hy : (linesT (M.drop (M.length - 11)))[i]? = some y) : x = y := by
  subst hj
  rw [linesT_long h, List.getElem?_append_right (by simp; omega), show i + 11 - ((M.take 10).map lineT).length = i + 1 by simp; omega] at hx
  rw [linesT_short (by simp; omega)] at hy
  exact Option.some.inj (hx.symm.trans hy)
theorem raises_w {Z : Zone} (ht : KnTab Z) {v : Vl} {N : Int} (hv : okV v) (h1 : N ≤ 9223372036854775807) {lv : Value} {M : List Pl} (hM : Kn Z PlT lv M) (hok : ∀ p ∈ M, okP p) : SF Tryd.prog 3 #[v.v, .int .i64 N, lv] Z [] fun r Bs => r = .bool true ∧ Bs = [] := by
  have hs := hv.2.2
  refine sf_enter Tryd.func3 22 [(0, .agg #[.int .i64 v.kind, .int .i64 v.p, .int .i64 v.q, .string v.str, .int .i64 v.ref]), (1, .int .i64 N), (2, lv)] (fun w0 => ?_)
  refine k_seq ?_
  refine k_reg ?_
  refine s_box #[.int .i64 v.kind, .int .i64 v.p, .int .i64 v.q, .string v.str, .int .i64 v.ref] (fun g1 => ?_)
  refine s_lt (t_pure (.bool false)) ?_
  refine s_nil ?_
  refine xs_then ?_
  refine k_seq ?_
  refine k_seq ?_
  refine k_reg ?_
  refine s_lt (t_pure lv) ?_
  refine s_vcall (fun _ h => large_s (Acc.kn (.zn hM) h)) ?_
  rintro _ rfl
  refine s_nil ?_
  refine xs_then ?_
  refine k_cond (decide ((400 : Int) < M.length)) (fun c2 => ?_) (fun c2 => ?_)
  ·
    have p3 := of_decide_eq_true c2
    refine k_seq ?_
    refine k_reg ?_
    refine s_vcall (fun _ h => awake_s (ht.at h)) ?_
    rintro _ rfl
    refine s_lt (t_pure (.bool true)) ?_
    refine s_nil ?_
    refine xs_then ?_
    refine k_ret ?_
    refine xs_ret ?_
    exact xs_fin [.bool true] [] (SI.tmp 6 SI.nil) (fun _ h => h.re [] [0]) ⟨rfl, rfl⟩
  ·
    have p4 := of_decide_eq_false c2
    refine k_skip ?_
    refine xs_then ?_
    refine k_seq ?_
    refine k_held [blkA g1 #[.int .i64 v.kind, .int .i64 v.p, .int .i64 v.q, .string v.str, .int .i64 v.ref] 25] ?_
    refine h_lt 0 rfl (np_then np_finS) [0] (fun _ => (t_loadA 0 #[.int .i64 v.kind, .int .i64 v.p, .int .i64 v.q, .string v.str, .int .i64 v.ref])) ?_
    refine h_lt 1 rfl (np_then np_finS) [0] (fun _ => (t_pure (.int .i64 N))) ?_
    refine h_lt 2 rfl (np_then np_finS) [0] (fun _ => (t_pure lv)) ?_
    refine h_lt 4 rfl (np_then np_finS) [0] (fun _ => (t_loadA 0 #[.int .i64 v.kind, .int .i64 v.p, .int .i64 v.q, .string v.str, .int .i64 v.ref])) ?_
    refine h_lt 5 rfl (np_then np_finS) [0] (fun _ => (t_pure (.int .i64 N))) ?_
    refine h_lt 6 rfl (np_then np_finS) [0] (fun _ => (t_pure lv)) ?_
    refine h_stepS 3 ?_
    refine s_pcall (fun _ h => raise_s (ht.at h) (v := v) (N := N) (Acc.kn (.zn hM) h) hok (by omega) (by (try simp only [List.length_nil, List.length_cons, List.length_append, List.length_take, List.length_drop, List.length_set, List.length_replicate, List.length_reverse, ByteArray.size_append, sz_mk]); omega) (by omega)) ?_
    rintro _ _ ⟨s5, rfl, rfl⟩
    refine s_nil (xs_held [1] ?_)
    refine h_stepS 7 ?_
    refine s_pcall (fun _ h => rraise_s (v := v) (N := N) (Acc.kn (.zn hM) h) hok (by omega) (by (try simp only [List.length_nil, List.length_cons, List.length_append, List.length_take, List.length_drop, List.length_set, List.length_replicate, List.length_reverse, ByteArray.size_append, sz_mk]); omega) (by omega)) ?_
    rintro _ _ ⟨s6, rfl, rfl⟩
    refine s_nil (xs_held [2] ?_)
    refine h_stepS 8 ?_
    refine s_vcall (fun _ h => rSame_s (u := (raiseT v N M)) (v := (raiseT v N M)) (Acc.kn (.own 1) h) (Acc.kn (.own 0) h)) ?_
    rintro u8 e7
    obtain rfl : u8 = .bool true := e7.trans (congrArg Value.bool (by simp))
    refine s_nil (xs_held [2] ?_)
    refine h_lt 9 rfl (np_then np_finS) [2] (fun _ => (t_pure (.bool true))) ?_
    refine h_stepS 10 ?_
    refine s_vcall (fun _ h => awake_s (ht.at h)) ?_
    rintro _ rfl
    refine s_nil (xs_held [2] ?_)
    refine h_lt 11 rfl (np_then np_finS) [2] (fun _ => (t_pure (.bool true))) ?_
    refine h_lt 12 rfl (np_then np_finS) [2] (fun _ => (t_pure (.bool true))) ?_
    refine h_doneS ?_
    refine xs_then ?_
    refine k_ret ?_
    exact xs_fin [.bool true] [] (SI.tmp 6 SI.nil) (fun _ h => h.re [] [0, 0, 0]) ⟨rfl, rfl⟩
theorem messages_w {Z : Zone} (ht : KnTab Z) {s : ByteArray} {lv : Value} {M : List Pl} (hM : Kn Z PlT lv M) (hok : ∀ p ∈ M, okP p) : SF Tryd.prog 4 #[.string s, lv] Z [] fun r Bs => r = .bool true ∧ Bs = [] := by
  refine sf_enter Tryd.func4 29 [(0, .string s), (1, lv)] (fun w0 => ?_)
  refine k_seq ?_
  refine k_reg ?_
  refine s_lt (t_pure (.bool false)) ?_
  refine s_nil ?_
  refine xs_then ?_
  refine k_seq ?_
  refine k_seq ?_
  refine k_reg ?_
  refine s_lt (t_pure lv) ?_
  refine s_vcall (fun _ h => large_s (Acc.kn (.zn hM) h)) ?_
  rintro _ rfl
  refine s_nil ?_
  refine xs_then ?_
  refine k_cond (decide ((400 : Int) < M.length)) (fun c1 => ?_) (fun c1 => ?_)
  ·
    have p2 := of_decide_eq_true c1
    refine k_seq ?_
    refine k_reg ?_
    refine s_vcall (fun _ h => awake_s (ht.at h)) ?_
    rintro _ rfl
    refine s_lt (t_pure (.bool true)) ?_
    refine s_nil ?_
    refine xs_then ?_
    refine k_ret ?_
    refine xs_ret ?_
    exact xs_fin [.bool true] [] (SI.tmp 4 SI.nil) (fun _ h => h.re [] []) ⟨rfl, rfl⟩
  ·
    have p3 := of_decide_eq_false c1
    refine k_skip ?_
    refine xs_then ?_
    refine k_seq ?_
    refine k_reg ?_
    refine s_lt (t_pure (.string s)) ?_
    refine s_lt (t_pure lv) ?_
    refine s_pcall (fun _ h => msg_s (ht.at h) (s := s) (Acc.kn (.zn hM) h) hok (by (try simp only [List.length_nil, List.length_cons, List.length_append, List.length_take, List.length_drop, List.length_set, List.length_replicate, List.length_reverse, ByteArray.size_append, sz_mk]); omega)) ?_
    rintro _ _ ⟨s4, rfl, rfl⟩
    refine s_fact (fun H h => ((Acc.own (T := PlT) (L := M) 0 rfl) H h).form) (fun hf5 => ?_)
    refine s_alloc (.agg #[.int .i64 0, .int .i64 0, .int .i64 0, .string ByteArray.empty, .int .i64 0, (.slice none 0 0)]) #[.int .i64 0, .int .i64 0, .int .i64 0, .string ByteArray.empty, .int .i64 0, (.slice none 0 0)] (fun g6 => ?_)
    refine s_store (u := .agg #[.int .i64 ((msgT s M).kind), .int .i64 ((msgT s M).p), .int .i64 ((msgT s M).q), .string ((msgT s M).str), .int .i64 ((msgT s M).ref), s4]) (m := 6) 0 #[.int .i64 ((msgT s M).kind), .int .i64 ((msgT s M).p), .int .i64 ((msgT s M).q), .string ((msgT s M).str), .int .i64 ((msgT s M).ref), s4] ?_ (hm := by (obtain ⟨_, _, e⟩ := hf5; rw [e]; rfl)) (h1 := by (obtain ⟨_, _, e⟩ := hf5; rw [e]; rfl)) (ha' := by (obtain ⟨_, _, e⟩ := hf5; rw [e]; rfl))
    refine s_nil ?_
    refine xs_then ?_
    refine k_seq ?_
    refine k_reg ?_
    refine s_lt (t_pure (.string s)) ?_
    refine s_lt (t_pure lv) ?_
    refine s_pcall (fun _ h => rmsg_s (s := s) (Acc.kn (.zn hM) h) hok (by (try simp only [List.length_nil, List.length_cons, List.length_append, List.length_take, List.length_drop, List.length_set, List.length_replicate, List.length_reverse, ByteArray.size_append, sz_mk]); omega)) ?_
    rintro _ _ ⟨s7, rfl, rfl⟩
    refine s_fact (fun H h => ((Acc.own (T := PlT) (L := M) 0 rfl) H h).form) (fun hf8 => ?_)
    refine s_alloc (.agg #[.int .i64 0, .int .i64 0, .int .i64 0, .string ByteArray.empty, .int .i64 0, (.slice none 0 0)]) #[.int .i64 0, .int .i64 0, .int .i64 0, .string ByteArray.empty, .int .i64 0, (.slice none 0 0)] (fun g9 => ?_)
    refine s_store (u := .agg #[.int .i64 ((msgT s M).kind), .int .i64 ((msgT s M).p), .int .i64 ((msgT s M).q), .string ((msgT s M).str), .int .i64 ((msgT s M).ref), s7]) (m := 6) 0 #[.int .i64 ((msgT s M).kind), .int .i64 ((msgT s M).p), .int .i64 ((msgT s M).q), .string ((msgT s M).str), .int .i64 ((msgT s M).ref), s7] ?_ (hm := by (obtain ⟨_, _, e⟩ := hf8; rw [e]; rfl)) (h1 := by (obtain ⟨_, _, e⟩ := hf8; rw [e]; rfl)) (ha' := by (obtain ⟨_, _, e⟩ := hf8; rw [e]; rfl))
    refine s_nil ?_
    refine xs_then ?_
    refine k_seq ?_
    refine k_held [blkA g9 #[.int .i64 ((msgT s M).kind), .int .i64 ((msgT s M).p), .int .i64 ((msgT s M).q), .string ((msgT s M).str), .int .i64 ((msgT s M).ref), s7] 31, own PlT s7 M, blkA g6 #[.int .i64 ((msgT s M).kind), .int .i64 ((msgT s M).p), .int .i64 ((msgT s M).q), .string ((msgT s M).str), .int .i64 ((msgT s M).ref), s4] 31, own PlT s4 M] ?_
    refine h_lt 0 rfl (np_then np_finS) [0, 0, 0, 0] (fun _ => (t_loadA 2 #[.int .i64 ((msgT s M).kind), .int .i64 ((msgT s M).p), .int .i64 ((msgT s M).q), .string ((msgT s M).str), .int .i64 ((msgT s M).ref), s4])) ?_
    refine h_lt 1 rfl (np_then np_finS) [0, 0, 0, 0] (fun _ => (t_loadA 0 #[.int .i64 ((msgT s M).kind), .int .i64 ((msgT s M).p), .int .i64 ((msgT s M).q), .string ((msgT s M).str), .int .i64 ((msgT s M).ref), s7])) ?_
    refine h_stepS 2 ?_
    refine s_vcall (fun _ h => rSame_s (u := (msgT s M)) (v := (msgT s M)) (Acc.kn (.own 3) h) (Acc.kn (.own 1) h)) ?_
    rintro u11 e10
    obtain rfl : u11 = .bool true := e10.trans (congrArg Value.bool (by simp))
    refine s_nil (xs_held [0, 0, 0, 0] ?_)
    refine h_lt 3 rfl (np_then np_finS) [0, 0, 0, 0] (fun _ => (t_pure (.bool true))) ?_
    refine h_lt 4 rfl (np_then np_finS) [0, 0, 0, 0] (fun _ => (t_loadA 2 #[.int .i64 ((msgT s M).kind), .int .i64 ((msgT s M).p), .int .i64 ((msgT s M).q), .string ((msgT s M).str), .int .i64 ((msgT s M).ref), s4])) ?_
    refine h_lt 6 rfl (np_then np_finS) [0, 0, 0, 0] (fun _ => (t_loadA 0 #[.int .i64 ((msgT s M).kind), .int .i64 ((msgT s M).p), .int .i64 ((msgT s M).q), .string ((msgT s M).str), .int .i64 ((msgT s M).ref), s7])) ?_
    refine h_stepS 5 ?_
    refine s_vcall (fun _ h => ftext_s (ht.at h) (v := (msgT s M)) (lv := s4) (raiseT_ok (strV_ok (by have := cutT_size s; omega)) : okV (msgT s M))) ?_
    rintro _ rfl
    refine s_nil (xs_held [0, 0, 0, 0] ?_)
    refine h_stepS 7 ?_
    refine s_vcall (fun _ h => rftext_s (v := (msgT s M)) (lv := s7) (raiseT_ok (strV_ok (by have := cutT_size s; omega)) : okV (msgT s M))) ?_
    rintro _ rfl
    refine s_nil (xs_held [0, 0, 0, 0] ?_)
    refine h_lt 8 rfl (np_then np_finS) [0, 0, 0, 0] (fun _ => (Lt.to t_cmpS (congrArg Value.bool (decide_eq_true rfl : (decide ((textT (msgT s M)) = (textT (msgT s M)))) = true)))) ?_
    refine h_lt 9 rfl (np_then np_finS) [0, 0, 0, 0] (fun _ => (t_pure (.bool true))) ?_
    refine h_lt 10 rfl (np_then np_finS) [0, 0, 0, 0] (fun _ => (t_pure (.bool true))) ?_
    refine h_stepS 11 ?_
    refine s_vcall (fun _ h => awake_s (ht.at h)) ?_
    rintro _ rfl
    refine s_nil (xs_held [0, 0, 0, 0] ?_)
    refine h_lt 12 rfl (np_then np_finS) [0, 0, 0, 0] (fun _ => (t_pure (.bool true))) ?_
    refine h_lt 13 rfl (np_then np_finS) [0, 0, 0, 0] (fun _ => (t_pure (.bool true))) ?_
    refine h_doneS ?_
    refine xs_then ?_
    refine k_ret ?_
    exact xs_fin [.bool true] [] (SI.tmp 4 SI.nil) (fun _ h => h.re [] [0, 0, 0, 0]) ⟨rfl, rfl⟩
theorem texts_w {Z : Zone} (ht : KnTab Z) {v : Vl} (hv : okV v) {lv : Value} {M : List Pl} (hM : Kn Z PlT lv M) (hok : ∀ p ∈ M, okP p) : SF Tryd.prog 5 #[flV v lv] Z [] fun r Bs => r = .bool true ∧ Bs = [] := by
  refine sf_enter Tryd.func5 19 [(0, .agg #[.int .i64 v.kind, .int .i64 v.p, .int .i64 v.q, .string v.str, .int .i64 v.ref, lv])] (fun w0 => ?_)
  refine k_seq ?_
  refine k_reg ?_
  refine s_box #[.int .i64 v.kind, .int .i64 v.p, .int .i64 v.q, .string v.str, .int .i64 v.ref, lv] (fun g1 => ?_)
  refine s_lt (t_pure (.bool false)) ?_
  refine s_nil ?_
  refine xs_then ?_
  refine k_cut (ι := Unit) (fun _ => True) (fun _ => [(2, .bool true)]) (fun _ => [blkA g1 #[.int .i64 v.kind, .int .i64 v.p, .int .i64 v.q, .string v.str, .int .i64 v.ref, lv] 31]) ?_ (fun _ _ => ?_)
  ·
    refine k_held [blkA g1 #[.int .i64 v.kind, .int .i64 v.p, .int .i64 v.q, .string v.str, .int .i64 v.ref, lv] 31] ?_
    refine h_lt 0 rfl (np_then np_finS) [0] (fun _ => (t_pure (.pointer (some ⟨g1, 5, none⟩)))) ?_
    refine h_lt 1 rfl (np_then np_finS) [0] (fun _ => (t_load 0 lv)) ?_
    refine h_stepS 2 ?_
    refine s_vcall (fun _ h => large_s (Acc.kn (.zn hM) h)) ?_
    rintro _ rfl
    refine s_nil (xs_held [0] ?_)
    refine h_lt 3 rfl (np_then np_finS) [0] (fun _ => (t_pure (.bool (decide ((400 : Int) < M.length))))) ?_
    refine h_forkS 6 (decide ((400 : Int) < M.length)) (fun c2 => ?_) (fun c2 => ?_)
    ·
      have p3 := of_decide_eq_true c2
      refine h_stepS 4 ?_
      refine s_vcall (fun _ h => awake_s (ht.at h)) ?_
      rintro _ rfl
      refine s_nil (xs_held [0] ?_)
      refine h_lt 5 rfl (np_then np_finS) [0] (fun _ => (t_pure (.bool true))) ?_
      refine h_lt 6 rfl (np_then np_finS) [0] (fun _ => (t_pure (.bool true))) ?_
      refine h_skipS 7 (np_then np_finS) [0] ?_
      refine h_skipS 9 (np_then np_finS) [0] ?_
      refine h_stepS 8 ?_
      refine s_skip ?_
      refine s_nil (xs_held [0] ?_)
      refine h_stepS 10 ?_
      refine s_skip ?_
      refine s_nil (xs_held [0] ?_)
      refine h_skipS 11 (np_then np_finS) [0] ?_
      refine h_skipS 12 (np_then np_finS) [0] ?_
      refine h_stepS 13 ?_
      refine s_skip ?_
      refine s_nil (xs_held [0] ?_)
      refine h_skipS 14 (np_then np_finS) [0] ?_
      refine h_lt 15 rfl (np_then np_finS) [0] (fun _ => (t_pure (.bool true))) ?_
      refine h_lt 16 rfl (np_then np_finS) [0] (fun _ => (t_pure (.bool true))) ?_
      refine h_doneS ?_
      exact xs_cut () trivial (sub_of rfl ⟨⟨rfl, rfl⟩, trivial⟩) (fun _ h => h.re [0] [])
    ·
      have p4 := of_decide_eq_false c2
      refine h_stepS 4 ?_
      refine s_skip ?_
      refine s_nil (xs_held [0] ?_)
      refine h_lt 5 rfl (np_then np_finS) [0] (fun _ => (t_pure (.bool false))) ?_
      refine h_lt 6 rfl (np_then np_finS) [0] (fun _ => (t_pure (.bool false))) ?_
      refine h_lt 7 rfl (np_then np_finS) [0] (fun _ => (t_loadA 0 #[.int .i64 v.kind, .int .i64 v.p, .int .i64 v.q, .string v.str, .int .i64 v.ref, lv])) ?_
      refine h_lt 9 rfl (np_then np_finS) [0] (fun _ => (t_loadA 0 #[.int .i64 v.kind, .int .i64 v.p, .int .i64 v.q, .string v.str, .int .i64 v.ref, lv])) ?_
      refine h_stepS 8 ?_
      refine s_vcall (fun _ h => ftext_s (ht.at h) (v := v) (lv := lv) hv) ?_
      rintro _ rfl
      refine s_nil (xs_held [0] ?_)
      refine h_stepS 10 ?_
      refine s_vcall (fun _ h => rftext_s (v := v) (lv := lv) hv) ?_
      rintro _ rfl
      refine s_nil (xs_held [0] ?_)
      refine h_lt 11 rfl (np_then np_finS) [0] (fun _ => (Lt.to t_cmpS (congrArg Value.bool (decide_eq_true rfl : (decide ((textT v) = (textT v))) = true)))) ?_
      refine h_lt 12 rfl (np_then np_finS) [0] (fun _ => (t_pure (.bool true))) ?_
      refine h_stepS 13 ?_
      refine s_vcall (fun _ h => awake_s (ht.at h)) ?_
      rintro _ rfl
      refine s_nil (xs_held [0] ?_)
      refine h_lt 14 rfl (np_then np_finS) [0] (fun _ => (t_pure (.bool true))) ?_
      refine h_lt 15 rfl (np_then np_finS) [0] (fun _ => (t_pure (.bool true))) ?_
      refine h_lt 16 rfl (np_then np_finS) [0] (fun _ => (t_pure (.bool true))) ?_
      refine h_doneS ?_
      exact xs_cut () trivial (sub_of rfl ⟨⟨rfl, rfl⟩, trivial⟩) (fun _ h => h.re [0] [])
  ·
    refine k_ret ?_
    exact xs_fin [.bool true] [] (SI.tmp 2 SI.nil) (fun _ h => h.re [] [0]) ⟨rfl, rfl⟩
theorem lines_w {Z : Zone} (ht : KnTab Z) {v : Vl} {lv : Value} {M : List Pl} (hM : Kn Z PlT lv M) (hok : ∀ p ∈ M, okP p) : SF Tryd.prog 6 #[flV v lv] Z [] fun r Bs => r = .bool true ∧ Bs = [] := by
  refine sf_enter Tryd.func6 35 [(0, .agg #[.int .i64 v.kind, .int .i64 v.p, .int .i64 v.q, .string v.str, .int .i64 v.ref, lv])] (fun w0 => ?_)
  refine k_seq ?_
  refine k_reg ?_
  refine s_box #[.int .i64 v.kind, .int .i64 v.p, .int .i64 v.q, .string v.str, .int .i64 v.ref, lv] (fun g1 => ?_)
  refine s_lt (t_pure (.bool false)) ?_
  refine s_nil ?_
  refine xs_then ?_
  refine k_seq ?_
  refine k_seq ?_
  refine k_reg ?_
  refine s_lt (t_pure (.pointer (some ⟨g1, 5, none⟩))) ?_
  refine s_lt (t_load 0 lv) ?_
  refine s_vcall (fun _ h => large_s (Acc.kn (.zn hM) h)) ?_
  rintro _ rfl
  refine s_nil ?_
  refine xs_then ?_
  refine k_cond (decide ((400 : Int) < M.length)) (fun c2 => ?_) (fun c2 => ?_)
  ·
    have p3 := of_decide_eq_true c2
    refine k_seq ?_
    refine k_reg ?_
    refine s_vcall (fun _ h => awake_s (ht.at h)) ?_
    rintro _ rfl
    refine s_lt (t_pure (.bool true)) ?_
    refine s_nil ?_
    refine xs_then ?_
    refine k_ret ?_
    refine xs_ret ?_
    exact xs_fin [.bool true] [] (SI.tmp 2 SI.nil) (fun _ h => h.re [] [0]) ⟨rfl, rfl⟩
  ·
    have p4 := of_decide_eq_false c2
    refine k_skip ?_
    refine xs_then ?_
    refine k_seq ?_
    refine k_reg ?_
    refine s_lt (t_loadA 0 #[.int .i64 v.kind, .int .i64 v.p, .int .i64 v.q, .string v.str, .int .i64 v.ref, lv]) ?_
    refine s_pcall (fun _ h => lines_s (ht.at h) (v := v) (Acc.kn (.zn hM) h) hok (by (try simp only [List.length_nil, List.length_cons, List.length_append, List.length_take, List.length_drop, List.length_set, List.length_replicate, List.length_reverse, ByteArray.size_append, sz_mk]); omega)) ?_
    rintro v5 _ rfl
    refine s_fact (fun H h => ((Acc.own (T := (strT 9)) (L := (linesT M)) 0 rfl) H h).form) (fun hf6 => ?_)
    refine s_lt (t_pure v5) ?_
    refine s_nil ?_
    refine xs_then ?_
    refine k_seq ?_
    refine k_reg ?_
    refine s_lt (t_loadA 1 #[.int .i64 v.kind, .int .i64 v.p, .int .i64 v.q, .string v.str, .int .i64 v.ref, lv]) ?_
    refine s_pcall (fun _ h => rlines_s (v := v) (Acc.kn (.zn hM) h) hok (by (try simp only [List.length_nil, List.length_cons, List.length_append, List.length_take, List.length_drop, List.length_set, List.length_replicate, List.length_reverse, ByteArray.size_append, sz_mk]); omega)) ?_
    rintro v7 _ rfl
    refine s_fact (fun H h => ((Acc.own (T := (strT 9)) (L := (linesT M)) 0 rfl) H h).form) (fun hf8 => ?_)
    refine s_lt (t_pure v7) ?_
    refine s_nil ?_
    refine xs_then ?_
    refine k_seq ?_
    refine k_seq ?_
    refine k_reg ?_
    refine s_lt (t_pure v5) ?_
    refine s_lt (t_len st_ok Tryd.underlying38 (.own 1)) ?_
    refine s_lt (t_pure v7) ?_
    refine s_lt (t_len st_ok Tryd.underlying38 (.own 0)) ?_
    refine s_lt (Lt.to t_cmp (congrArg Value.bool (decide_eq_false (fun h => h rfl) : (decide (((linesT M).length : Int) ≠ ((linesT M).length : Int))) = false))) ?_
    refine s_nil ?_
    refine xs_then ?_
    refine k_false ?_
    refine k_skip ?_
    refine xs_then ?_
    refine k_seq ?_
    refine k_seq ?_
    refine k_reg ?_
    refine s_lt (t_pure (.int .i64 0)) ?_
    refine s_nil ?_
    refine xs_then ?_
    refine k_block ?_
    have hll : (linesT M).length ≤ 402 := by have := linesU_len M M.length; unfold linesT; omega
    refine k_loop (ι := Nat) (fun i => i ≤ (linesT M).length) (fun i => [(2, .bool false), (3, v5), (4, v7), (5, .int .i64 (i : Int))]) (fun i => [own (strT 9) v7 (linesT M), own (strT 9) v5 (linesT M), blkA g1 #[.int .i64 v.kind, .int .i64 v.p, .int .i64 v.q, .string v.str, .int .i64 v.ref, lv] 31]) (fun i => (linesT M).length - i) 0 (Nat.zero_le _) (sub_of rfl ⟨⟨rfl, rfl⟩, ⟨⟨rfl, rfl⟩, ⟨⟨rfl, rfl⟩, ⟨⟨rfl, rfl⟩, trivial⟩⟩⟩⟩) (fun _ h => h.re [0, 0, 0] []) ?_
    rintro i hi9
    show SK _ _ _ _ _ [(2, .bool false), (3, v5), (4, v7), (5, .int .i64 (i : Int))] _ [own (strT 9) v7 (linesT M), own (strT 9) v5 (linesT M), blkA g1 #[.int .i64 v.kind, .int .i64 v.p, .int .i64 v.q, .string v.str, .int .i64 v.ref, lv] 31]
    refine k_seq ?_
    refine k_seq ?_
    refine k_reg ?_
    refine s_lt (t_pure (.int .i64 (i : Int))) ?_
    refine s_lt (t_pure v5) ?_
    refine s_lt (t_len st_ok Tryd.underlying38 (.own 1)) ?_
    refine s_lt t_cmp ?_
    refine s_nil ?_
    refine xs_then ?_
    refine k_cond (decide ((i : Int) < ((linesT M).length : Int))) (fun c10 => ?_) (fun c10 => ?_)
    ·
      have p11 := of_decide_eq_true c10
      refine k_skip ?_
      refine xs_then ?_
      refine k_seq ?_
      refine k_block ?_
      refine k_seq ?_
      refine k_draw ?_
      refine s_lt (t_pure v5) ?_
      refine s_lt (t_pure (.int .i64 (i : Int))) ?_
      refine s_lt (t_index st_ok Tryd.underlying38 (.own 1) (i : Int) i (by omega) (by (try simp only [List.length_nil, List.length_cons, List.length_append, List.length_take, List.length_drop, List.length_set, List.length_replicate, List.length_reverse, ByteArray.size_append, sz_mk]); omega) (by omega)) ?_
      obtain ⟨y12, hy13⟩ : ∃ y, (linesT M)[i]? = some y := ⟨_, List.getElem?_eq_getElem (by (try simp only [List.length_nil, List.length_cons, List.length_append, List.length_take, List.length_drop, List.length_set, List.length_replicate, List.length_reverse, ByteArray.size_append, sz_mk]); omega)⟩
      refine s_lt (t_loadE st_ok (.own 1) hy13) ?_
      refine s_lt (t_pure v7) ?_
      refine s_lt (t_pure (.int .i64 (i : Int))) ?_
      refine s_lt (t_index st_ok Tryd.underlying38 (.own 0) (i : Int) i (by omega) (by (try simp only [List.length_nil, List.length_cons, List.length_append, List.length_take, List.length_drop, List.length_set, List.length_replicate, List.length_reverse, ByteArray.size_append, sz_mk]); omega) (by omega)) ?_
      refine s_lt (t_loadE st_ok (.own 0) hy13) ?_
      refine s_lt (Lt.to t_cmpS (congrArg Value.bool (decide_eq_false (fun h => h rfl) : (decide (y12 ≠ y12)) = false))) ?_
      refine s_nil ?_
      refine x_dynS (fun _ h => by kernel_rfl) ?_
      refine xs_then ?_
      refine k_false ?_
      refine k_skip ?_
      refine xs_block ?_
      refine xs_then ?_
      refine k_reg ?_
      refine s_lt (t_pure (.int .i64 (i : Int))) ?_
      refine s_lt (t_add (i : Int) 1 (by (try simp only [List.length_nil, List.length_cons, List.length_append, List.length_take, List.length_drop, List.length_set, List.length_replicate, List.length_reverse, ByteArray.size_append, sz_mk]); omega)) ?_
      refine s_lt (t_pure (.int .i64 ((i : Int) + 1))) ?_
      refine s_nil ?_
      exact xs_round (i + 1) (by omega) (by omega) (sub_of rfl ⟨⟨rfl, rfl⟩, ⟨⟨rfl, rfl⟩, ⟨⟨rfl, rfl⟩, ⟨⟨rfl, rfl⟩, trivial⟩⟩⟩⟩) (fun _ h => h.re [0, 0, 0] [])
    ·
      have p14 := of_decide_eq_false c10
      refine k_exit ?_
      refine xs_exit ?_
      refine xs_exit ?_
      refine xs_here ?_
      refine xs_then ?_
      refine k_seq ?_
      refine k_reg ?_
      refine s_vcall (fun _ h => awake_s (ht.at h)) ?_
      rintro _ rfl
      refine s_lt (t_pure (.bool true)) ?_
      refine s_nil ?_
      refine xs_then ?_
      refine k_ret ?_
      exact xs_fin [.bool true] [] (SI.tmp 2 SI.nil) (fun _ h => h.re [] [0, 0, 0]) ⟨rfl, rfl⟩
theorem compares_w {Z : Zone} (ht : KnTab Z) {u v : Vl} {va vb : Value} {A B : List Pl} (hA : Kn Z PlT va A) (hB : Kn Z PlT vb B) : SF Tryd.prog 7 #[flV u va, flV v vb] Z [] fun r Bs => r = .bool true ∧ Bs = [] := by
  refine sf_enter Tryd.func7 38 [(0, .agg #[.int .i64 u.kind, .int .i64 u.p, .int .i64 u.q, .string u.str, .int .i64 u.ref, va]), (1, .agg #[.int .i64 v.kind, .int .i64 v.p, .int .i64 v.q, .string v.str, .int .i64 v.ref, vb])] (fun w0 => ?_)
  refine k_seq ?_
  refine k_reg ?_
  refine s_box #[.int .i64 u.kind, .int .i64 u.p, .int .i64 u.q, .string u.str, .int .i64 u.ref, va] (fun g1 => ?_)
  refine s_box #[.int .i64 v.kind, .int .i64 v.p, .int .i64 v.q, .string v.str, .int .i64 v.ref, vb] (fun g2 => ?_)
  refine s_lt (t_pure (.bool false)) ?_
  refine s_nil ?_
  refine xs_then ?_
  refine k_seq ?_
  refine k_cut (ι := Unit) (fun _ => True) (fun _ => [(2, .pointer (some ⟨g1, 0, none⟩)), (3, .pointer (some ⟨g2, 0, none⟩)), (4, .bool false), (12, .bool ((decide ((400 : Int) < A.length)) || (decide ((400 : Int) < B.length))))]) (fun _ => [blkA g2 #[.int .i64 v.kind, .int .i64 v.p, .int .i64 v.q, .string v.str, .int .i64 v.ref, vb] 31, blkA g1 #[.int .i64 u.kind, .int .i64 u.p, .int .i64 u.q, .string u.str, .int .i64 u.ref, va] 31]) ?_ (fun _ _ => ?_)
  ·
    refine k_reg ?_
    refine s_lt (t_pure (.pointer (some ⟨g1, 5, none⟩))) ?_
    refine s_lt (t_load 1 va) ?_
    refine s_vcall (fun _ h => large_s (Acc.kn (.zn hA) h)) ?_
    rintro _ rfl
    refine s_lt (t_pure (.bool (decide ((400 : Int) < A.length)))) ?_
    refine s_fork 8 (decide ((400 : Int) < A.length)) (fun c3 => ?_) (fun c3 => ?_)
    ·
      have p4 := of_decide_eq_true c3
      refine s_skip ?_
      refine s_skip ?_
      refine s_skip ?_
      refine s_lt (t_pure (.bool true)) ?_
      refine s_nil ?_
      exact xs_cut () trivial (sub_of rfl ⟨⟨rfl, rfl⟩, ⟨⟨rfl, rfl⟩, ⟨⟨rfl, rfl⟩, ⟨⟨rfl, show Value.bool true = Value.bool ((decide ((400 : Int) < A.length)) || (decide ((400 : Int) < B.length))) by first | (simp only [c3, Bool.true_and, Bool.false_and, Bool.and_true, Bool.and_false, Bool.true_or, Bool.or_true, Bool.false_or, Bool.or_false, Bool.not_true, Bool.not_false]; done) | simp [c3]⟩, trivial⟩⟩⟩⟩) (fun _ h => h.re [0, 0] [])
    ·
      have p5 := of_decide_eq_false c3
      refine s_lt (t_pure (.pointer (some ⟨g2, 5, none⟩))) ?_
      refine s_lt (t_load 0 vb) ?_
      refine s_vcall (fun _ h => large_s (Acc.kn (.zn hB) h)) ?_
      rintro _ rfl
      refine s_lt (t_pure (.bool (decide ((400 : Int) < B.length)))) ?_
      refine s_nil ?_
      exact xs_cut () trivial (sub_of rfl ⟨⟨rfl, rfl⟩, ⟨⟨rfl, rfl⟩, ⟨⟨rfl, rfl⟩, ⟨⟨rfl, show Value.bool (decide ((400 : Int) < B.length)) = Value.bool ((decide ((400 : Int) < A.length)) || (decide ((400 : Int) < B.length))) by first | (simp only [c3, Bool.true_and, Bool.false_and, Bool.and_true, Bool.and_false, Bool.true_or, Bool.or_true, Bool.false_or, Bool.or_false, Bool.not_true, Bool.not_false]; done) | simp [c3]⟩, trivial⟩⟩⟩⟩) (fun _ h => h.re [0, 0] [])
  ·
    refine k_cond ((decide ((400 : Int) < A.length)) || (decide ((400 : Int) < B.length))) (fun c6 => ?_) (fun c6 => ?_)
    ·
      have p7 := c6
      simp only [Bool.and_eq_true, Bool.or_eq_true, Bool.and_eq_false_iff, Bool.or_eq_false_iff, Bool.not_eq_true', Bool.not_eq_false', decide_eq_true_eq, decide_eq_false_iff_not] at p7
      refine k_seq ?_
      refine k_reg ?_
      refine s_vcall (fun _ h => awake_s (ht.at h)) ?_
      rintro _ rfl
      refine s_lt (t_pure (.bool true)) ?_
      refine s_nil ?_
      refine xs_then ?_
      refine k_ret ?_
      refine xs_ret ?_
      exact xs_fin [.bool true] [] (SI.tmp 4 SI.nil) (fun _ h => h.re [] [0, 0]) ⟨rfl, rfl⟩
    ·
      obtain ⟨c8, c9⟩ := or_f c6
      have p10 := of_decide_eq_false c8
      have p11 := of_decide_eq_false c9
      refine k_skip ?_
      refine xs_then ?_
      refine k_seq ?_
      refine k_held [blkA g2 #[.int .i64 v.kind, .int .i64 v.p, .int .i64 v.q, .string v.str, .int .i64 v.ref, vb] 31, blkA g1 #[.int .i64 u.kind, .int .i64 u.p, .int .i64 u.q, .string u.str, .int .i64 u.ref, va] 31] ?_
      refine h_lt 0 rfl (np_then np_finS) [0, 0] (fun _ => (t_loadA 1 #[.int .i64 u.kind, .int .i64 u.p, .int .i64 u.q, .string u.str, .int .i64 u.ref, va])) ?_
      refine h_lt 1 rfl (np_then np_finS) [0, 0] (fun _ => (t_loadA 0 #[.int .i64 v.kind, .int .i64 v.p, .int .i64 v.q, .string v.str, .int .i64 v.ref, vb])) ?_
      refine h_lt 3 rfl (np_then np_finS) [0, 0] (fun _ => (t_loadA 1 #[.int .i64 u.kind, .int .i64 u.p, .int .i64 u.q, .string u.str, .int .i64 u.ref, va])) ?_
      refine h_lt 4 rfl (np_then np_finS) [0, 0] (fun _ => (t_loadA 0 #[.int .i64 v.kind, .int .i64 v.p, .int .i64 v.q, .string v.str, .int .i64 v.ref, vb])) ?_
      refine h_stepS 2 ?_
      refine s_vcall (fun _ h => Same_s (u := u) (v := v) (Acc.kn (.zn hA) h) (Acc.kn (.zn hB) h)) ?_
      rintro _ rfl
      refine s_nil (xs_held [0, 0] ?_)
      refine h_stepS 5 ?_
      refine s_vcall (fun _ h => rSame_s (u := u) (v := v) (Acc.kn (.zn hA) h) (Acc.kn (.zn hB) h)) ?_
      rintro _ rfl
      refine s_nil (xs_held [0, 0] ?_)
      refine h_lt 6 rfl (np_then np_finS) [0, 0] (fun _ => (Lt.to (t_pure (.bool (((decide (u = v)) && (decide (A = B))) == ((decide (u = v)) && (decide (A = B)))))) (congrArg Value.bool (beq_self_eq_true _ : (((decide (u = v)) && (decide (A = B))) == ((decide (u = v)) && (decide (A = B)))) = true)))) ?_
      refine h_lt 7 rfl (np_then np_finS) [0, 0] (fun _ => (t_pure (.bool true))) ?_
      refine h_lt 8 rfl (np_then np_finS) [0, 0] (fun _ => (t_loadA 1 #[.int .i64 u.kind, .int .i64 u.p, .int .i64 u.q, .string u.str, .int .i64 u.ref, va])) ?_
      refine h_lt 9 rfl (np_then np_finS) [0, 0] (fun _ => (t_loadA 1 #[.int .i64 u.kind, .int .i64 u.p, .int .i64 u.q, .string u.str, .int .i64 u.ref, va])) ?_
      refine h_stepS 10 ?_
      refine s_vcall (fun _ h => Same_s (u := u) (v := u) (Acc.kn (.zn hA) h) (Acc.kn (.zn hA) h)) ?_
      rintro u13 e12
      obtain rfl : u13 = .bool true := e12.trans (congrArg Value.bool (by simp))
      refine s_nil (xs_held [0, 0] ?_)
      refine h_lt 11 rfl (np_then np_finS) [0, 0] (fun _ => (t_pure (.bool true))) ?_
      refine h_lt 12 rfl (np_then np_finS) [0, 0] (fun _ => (t_pure (.bool true))) ?_
      refine h_lt 13 rfl (np_then np_finS) [0, 0] (fun _ => (t_loadA 0 #[.int .i64 v.kind, .int .i64 v.p, .int .i64 v.q, .string v.str, .int .i64 v.ref, vb])) ?_
      refine h_lt 14 rfl (np_then np_finS) [0, 0] (fun _ => (t_loadA 1 #[.int .i64 u.kind, .int .i64 u.p, .int .i64 u.q, .string u.str, .int .i64 u.ref, va])) ?_
      refine h_lt 16 rfl (np_then np_finS) [0, 0] (fun _ => (t_loadA 1 #[.int .i64 u.kind, .int .i64 u.p, .int .i64 u.q, .string u.str, .int .i64 u.ref, va])) ?_
      refine h_lt 17 rfl (np_then np_finS) [0, 0] (fun _ => (t_loadA 0 #[.int .i64 v.kind, .int .i64 v.p, .int .i64 v.q, .string v.str, .int .i64 v.ref, vb])) ?_
      refine h_stepS 15 ?_
      refine s_vcall (fun _ h => Same_s (u := v) (v := u) (Acc.kn (.zn hB) h) (Acc.kn (.zn hA) h)) ?_
      rintro _ rfl
      refine s_nil (xs_held [0, 0] ?_)
      refine h_stepS 18 ?_
      refine s_vcall (fun _ h => Same_s (u := u) (v := v) (Acc.kn (.zn hA) h) (Acc.kn (.zn hB) h)) ?_
      rintro _ rfl
      refine s_nil (xs_held [0, 0] ?_)
      refine h_lt 19 rfl (np_then np_finS) [0, 0] (fun _ => (Lt.to (t_pure (.bool (((decide (v = u)) && (decide (B = A))) == ((decide (u = v)) && (decide (A = B)))))) (congrArg Value.bool (same_comm u v A B : (((decide (v = u)) && (decide (B = A))) == ((decide (u = v)) && (decide (A = B)))) = true)))) ?_
      refine h_lt 20 rfl (np_then np_finS) [0, 0] (fun _ => (t_pure (.bool true))) ?_
      refine h_lt 21 rfl (np_then np_finS) [0, 0] (fun _ => (t_pure (.bool true))) ?_
      refine h_stepS 22 ?_
      refine s_vcall (fun _ h => awake_s (ht.at h)) ?_
      rintro _ rfl
      refine s_nil (xs_held [0, 0] ?_)
      refine h_lt 23 rfl (np_then np_finS) [0, 0] (fun _ => (t_pure (.bool true))) ?_
      refine h_lt 24 rfl (np_then np_finS) [0, 0] (fun _ => (t_pure (.bool true))) ?_
      refine h_doneS ?_
      refine xs_then ?_
      refine k_ret ?_
      exact xs_fin [.bool true] [] (SI.tmp 4 SI.nil) (fun _ h => h.re [] [0, 0]) ⟨rfl, rfl⟩
theorem describes_w {Z : Zone} (ht : KnTab Z) (e : Int) (v u : Vl) : SF Tryd.prog 8 #[.int .i64 e, v.v, u.v] Z [] fun r Bs => r = .bool true ∧ Bs = [] := by
  refine sf_enter Tryd.func8 28 [(0, .int .i64 e), (1, .agg #[.int .i64 v.kind, .int .i64 v.p, .int .i64 v.q, .string v.str, .int .i64 v.ref]), (2, .agg #[.int .i64 u.kind, .int .i64 u.p, .int .i64 u.q, .string u.str, .int .i64 u.ref])] (fun w0 => ?_)
  refine k_seq ?_
  refine k_reg ?_
  refine s_box #[.int .i64 v.kind, .int .i64 v.p, .int .i64 v.q, .string v.str, .int .i64 v.ref] (fun g1 => ?_)
  refine s_box #[.int .i64 u.kind, .int .i64 u.p, .int .i64 u.q, .string u.str, .int .i64 u.ref] (fun g2 => ?_)
  refine s_lt (t_pure (.bool false)) ?_
  refine s_nil ?_
  refine xs_then ?_
  refine k_seq ?_
  refine k_reg ?_
  refine s_lt (t_pure (.int .i64 e)) ?_
  refine s_lt (t_loadA 1 #[.int .i64 v.kind, .int .i64 v.p, .int .i64 v.q, .string v.str, .int .i64 v.ref]) ?_
  refine s_vcall (fun _ h => desc_s e v) ?_
  rintro _ rfl
  refine s_lt (t_pure (.string (descT e v.kind))) ?_
  refine s_nil ?_
  refine xs_then ?_
  refine k_seq ?_
  refine k_seq ?_
  refine k_reg ?_
  refine s_lt (t_pure (.string (descT e v.kind))) ?_
  refine s_lt (t_pure (.int .i64 e)) ?_
  refine s_lt (t_loadA 1 #[.int .i64 v.kind, .int .i64 v.p, .int .i64 v.q, .string v.str, .int .i64 v.ref]) ?_
  refine s_vcall (fun _ h => rdesc_s e v) ?_
  rintro _ rfl
  refine s_lt (Lt.to t_cmpS (congrArg Value.bool (decide_eq_false (fun h => h (desc_eq _ _)) : (decide ((descT e v.kind) ≠ (rdescT e v.kind))) = false))) ?_
  refine s_nil ?_
  refine xs_then ?_
  refine k_false ?_
  refine k_skip ?_
  refine xs_then ?_
  refine k_cut (ι := Unit) (fun _ => True) (fun _ => [(6, .bool true)]) (fun _ => [blkA g2 #[.int .i64 u.kind, .int .i64 u.p, .int .i64 u.q, .string u.str, .int .i64 u.ref] 25, blkA g1 #[.int .i64 v.kind, .int .i64 v.p, .int .i64 v.q, .string v.str, .int .i64 v.ref] 25]) ?_ (fun _ _ => ?_)
  ·
    refine k_reg ?_
    refine s_lt (t_pure (.int .i64 e)) ?_
    refine s_lt t_cmp ?_
    refine s_lt (t_pure (.bool (decide (e = 8)))) ?_
    refine s_fork 18 (decide (e = 8)) (fun c3 => ?_) (fun c3 => ?_)
    ·
      have p4 := of_decide_eq_true c3
      refine s_skip ?_
      refine s_skip ?_
      refine s_skip ?_
      refine s_skip ?_
      refine s_skip ?_
      refine s_lt (t_pure (.bool true)) ?_
      refine s_lt (t_pure (.bool true)) ?_
      refine s_vcall (fun _ h => awake_s (ht.at h)) ?_
      rintro _ rfl
      refine s_lt (t_pure (.bool true)) ?_
      refine s_lt (t_pure (.bool true)) ?_
      refine s_nil ?_
      exact xs_cut () trivial (sub_of rfl ⟨⟨rfl, rfl⟩, trivial⟩) (fun _ h => h.re [0, 0] [])
    ·
      have p5 := of_decide_eq_false c3
      refine s_lt (t_pure (.string (descT e v.kind))) ?_
      refine s_lt (t_pure (.int .i64 e)) ?_
      refine s_lt (t_loadA 0 #[.int .i64 u.kind, .int .i64 u.p, .int .i64 u.q, .string u.str, .int .i64 u.ref]) ?_
      refine s_vcall (fun _ h => desc_s e u) ?_
      rintro _ rfl
      refine s_lt (Lt.to t_cmpS (congrArg Value.bool (decide_eq_true (desc_kind (by omega) _ _) : (decide ((descT e v.kind) = (descT e u.kind))) = true))) ?_
      refine s_lt (t_pure (.bool true)) ?_
      refine s_lt (t_pure (.bool true)) ?_
      refine s_vcall (fun _ h => awake_s (ht.at h)) ?_
      rintro _ rfl
      refine s_lt (t_pure (.bool true)) ?_
      refine s_lt (t_pure (.bool true)) ?_
      refine s_nil ?_
      exact xs_cut () trivial (sub_of rfl ⟨⟨rfl, rfl⟩, trivial⟩) (fun _ h => h.re [0, 0] [])
  ·
    refine k_ret ?_
    exact xs_fin [.bool true] [] (SI.tmp 6 SI.nil) (fun _ h => h.re [] [0, 0]) ⟨rfl, rfl⟩
theorem keeps_w {Z : Zone} (ht : KnTab Z) {v : Vl} {N : Int} (hv : okV v) (h1 : N ≤ 9223372036854775807) {lv : Value} {M : List Pl} (hM : Kn Z PlT lv M) (hok : ∀ p ∈ M, okP p) : SF Tryd.prog 9 #[v.v, .int .i64 N, lv] Z [] fun r Bs => r = .bool true ∧ Bs = [] := by
  have hs := hv.2.2; have hR := raise_ge v N M; have hR2 := (raiseT_ok (N := N) (M := M) hv).2.2
  refine sf_enter Tryd.func9 117 [(0, .agg #[.int .i64 v.kind, .int .i64 v.p, .int .i64 v.q, .string v.str, .int .i64 v.ref]), (1, .int .i64 N), (2, lv)] (fun w0 => ?_)
  refine k_seq ?_
  refine k_reg ?_
  refine s_box #[.int .i64 v.kind, .int .i64 v.p, .int .i64 v.q, .string v.str, .int .i64 v.ref] (fun g1 => ?_)
  refine s_lt (t_pure (.bool false)) ?_
  refine s_nil ?_
  refine xs_then ?_
  refine k_seq ?_
  refine k_seq ?_
  refine k_reg ?_
  refine s_lt (t_pure lv) ?_
  refine s_vcall (fun _ h => large_s (Acc.kn (.zn hM) h)) ?_
  rintro _ rfl
  refine s_nil ?_
  refine xs_then ?_
  refine k_cond (decide ((400 : Int) < M.length)) (fun c2 => ?_) (fun c2 => ?_)
  ·
    have p3 := of_decide_eq_true c2
    refine k_seq ?_
    refine k_reg ?_
    refine s_vcall (fun _ h => awake_s (ht.at h)) ?_
    rintro _ rfl
    refine s_lt (t_pure (.bool true)) ?_
    refine s_nil ?_
    refine xs_then ?_
    refine k_ret ?_
    refine xs_ret ?_
    exact xs_fin [.bool true] [] (SI.tmp 6 SI.nil) (fun _ h => h.re [] [0]) ⟨rfl, rfl⟩
  ·
    have p4 := of_decide_eq_false c2
    refine k_skip ?_
    refine xs_then ?_
    refine k_seq ?_
    refine k_reg ?_
    refine s_buildSlice (e := 44) [] #[] (fun g5 => ?_) (hb := by kernel_rfl)
    refine s_lt (t_pure lv) ?_
    refine s_mem (fun _ h => Holds.slice 0 h PlT_ok []) ?_
    refine s_append (L := []) 0 PlT_ok Tryd.underlying26 (.zn hM) (by show _ * 32 ≤ _; (try simp only [List.length_nil, List.length_cons, List.length_append, List.length_take, List.length_drop, List.length_set, List.length_replicate, List.length_reverse, ByteArray.size_append, sz_mk]); omega) (by (try simp only [List.length_nil, List.length_cons, List.length_append, List.length_take, List.length_drop, List.length_set, List.length_replicate, List.length_reverse, ByteArray.size_append, sz_mk]); omega) (fun v6 => ?_)
    refine s_lt (t_pure v6) ?_
    refine s_nil ?_
    refine xs_then ?_
    refine k_seq ?_
    refine k_reg ?_
    refine s_lt (t_loadA 1 #[.int .i64 v.kind, .int .i64 v.p, .int .i64 v.q, .string v.str, .int .i64 v.ref]) ?_
    refine s_lt (t_pure (.int .i64 N)) ?_
    refine s_lt (t_pure v6) ?_
    refine s_pcall (fun _ h => raise_s (ht.at h) (v := v) (N := N) (Acc.kn (.own 0) h) hok (by omega) (by (try simp only [List.length_nil, List.length_cons, List.length_append, List.length_take, List.length_drop, List.length_set, List.length_replicate, List.length_reverse, ByteArray.size_append, sz_mk]); omega) (by omega)) ?_
    rintro _ _ ⟨s7, rfl, rfl⟩
    refine s_alloc (.agg #[.int .i64 0, .int .i64 0, .int .i64 0, .string ByteArray.empty, .int .i64 0, (.slice none 0 0)]) #[.int .i64 0, .int .i64 0, .int .i64 0, .string ByteArray.empty, .int .i64 0, (.slice none 0 0)] (fun g8 => ?_)
    refine s_fact (fun H h => ((Acc.own (T := PlT) (L := M) 1 rfl) H h).form) (fun hf9 => ?_)
    refine s_store (u := .agg #[.int .i64 ((raiseT v N M).kind), .int .i64 ((raiseT v N M).p), .int .i64 ((raiseT v N M).q), .string ((raiseT v N M).str), .int .i64 ((raiseT v N M).ref), s7]) (m := 6) 0 #[.int .i64 ((raiseT v N M).kind), .int .i64 ((raiseT v N M).p), .int .i64 ((raiseT v N M).q), .string ((raiseT v N M).str), .int .i64 ((raiseT v N M).ref), s7] ?_ (hm := by (obtain ⟨_, _, e⟩ := hf9; rw [e]; rfl)) (h1 := by (obtain ⟨_, _, e⟩ := hf9; rw [e]; rfl)) (ha' := by (obtain ⟨_, _, e⟩ := hf9; rw [e]; rfl))
    refine s_nil ?_
    refine xs_then ?_
    refine k_seq ?_
    refine k_seq ?_
    refine k_reg ?_
    refine s_lt (t_pure v6) ?_
    refine s_lt (t_len PlT_ok Tryd.underlying26 (.own 2)) ?_
    refine s_lt (t_pure (.int .i64 0)) ?_
    refine s_nil ?_
    refine xs_then ?_
    refine k_block ?_
    refine k_loop (ι := List Pl × Nat) (fun (l, i) => i ≤ M.length ∧ l.length = M.length) (fun (l, i) => [(1, .int .i64 N), (2, lv), (3, .pointer (some ⟨g1, 0, none⟩)), (6, .bool false), (7, v6), (8, .pointer (some ⟨g8, 0, none⟩)), (23, .int .i64 (M.length : Int)), (24, .int .i64 (i : Int))]) (fun (l, i) => [blkA g8 #[.int .i64 ((raiseT v N M).kind), .int .i64 ((raiseT v N M).p), .int .i64 ((raiseT v N M).q), .string ((raiseT v N M).str), .int .i64 ((raiseT v N M).ref), s7] 31, own PlT s7 M, own PlT v6 l, blkA g1 #[.int .i64 v.kind, .int .i64 v.p, .int .i64 v.q, .string v.str, .int .i64 v.ref] 25]) (fun (l, i) => M.length - i) (M, 0) ⟨Nat.zero_le _, rfl⟩ (sub_of rfl ⟨⟨rfl, rfl⟩, ⟨⟨rfl, rfl⟩, ⟨⟨rfl, rfl⟩, ⟨⟨rfl, rfl⟩, ⟨⟨rfl, rfl⟩, ⟨⟨rfl, rfl⟩, ⟨⟨rfl, rfl⟩, ⟨⟨rfl, rfl⟩, trivial⟩⟩⟩⟩⟩⟩⟩⟩) (fun _ h => h.re [0, 0, 0, 0] []) ?_
    rintro ⟨l, i⟩ hi10
    replace hi10 : i ≤ M.length ∧ l.length = M.length := hi10
    show SK _ _ _ _ _ [(1, .int .i64 N), (2, lv), (3, .pointer (some ⟨g1, 0, none⟩)), (6, .bool false), (7, v6), (8, .pointer (some ⟨g8, 0, none⟩)), (23, .int .i64 (M.length : Int)), (24, .int .i64 (i : Int))] _ [blkA g8 #[.int .i64 ((raiseT v N M).kind), .int .i64 ((raiseT v N M).p), .int .i64 ((raiseT v N M).q), .string ((raiseT v N M).str), .int .i64 ((raiseT v N M).ref), s7] 31, own PlT s7 M, own PlT v6 l, blkA g1 #[.int .i64 v.kind, .int .i64 v.p, .int .i64 v.q, .string v.str, .int .i64 v.ref] 25]
    obtain ⟨hl1, hl2⟩ := hi10
    refine k_seq ?_
    refine k_reg ?_
    refine s_lt t_cmp ?_
    refine s_nil ?_
    refine xs_then ?_
    refine k_seq ?_
    refine k_cond (decide ((i : Int) < (M.length : Int))) (fun c11 => ?_) (fun c11 => ?_)
    ·
      have p12 := of_decide_eq_true c11
      refine k_skip ?_
      refine xs_then ?_
      refine k_seq ?_
      refine k_block ?_
      refine k_seq ?_
      refine k_reg ?_
      refine s_lt (t_pure (.int .i64 (i : Int))) ?_
      refine s_lt (t_pure (.int .i64 (i : Int))) ?_
      refine s_nil ?_
      refine xs_then ?_
      refine k_reg ?_
      refine s_lt (t_pure v6) ?_
      refine s_lt (t_pure (.int .i64 (i : Int))) ?_
      refine s_lt (t_kern (.agg #[.string ⟨#[99, 104, 97, 110, 103, 101, 100]⟩, .int .i64 99, .bool false])) ?_
      refine s_lt (t_index PlT_ok Tryd.underlying26 (.own 2) (i : Int) i (by omega) (by (try simp only [List.length_nil, List.length_cons, List.length_append, List.length_take, List.length_drop, List.length_set, List.length_replicate, List.length_reverse, ByteArray.size_append, sz_mk]); omega) (by omega)) ?_
      obtain ⟨y13, hy14⟩ : ∃ y, l[i]? = some y := ⟨_, List.getElem?_eq_getElem (by (try simp only [List.length_nil, List.length_cons, List.length_append, List.length_take, List.length_drop, List.length_set, List.length_replicate, List.length_reverse, ByteArray.size_append, sz_mk]); omega)⟩
      refine s_storeE 2 0 (⟨⟨#[99, 104, 97, 110, 103, 101, 100]⟩, 99, false⟩ : Pl) PlT_ok hy14 ?_
      refine s_nil ?_
      refine xs_block ?_
      refine xs_then ?_
      refine k_reg ?_
      refine s_lt (t_add (i : Int) 1 (by (try simp only [List.length_nil, List.length_cons, List.length_append, List.length_take, List.length_drop, List.length_set, List.length_replicate, List.length_reverse, ByteArray.size_append, sz_mk]); omega)) ?_
      refine s_lt (t_pure (.int .i64 ((i : Int) + 1))) ?_
      refine s_nil ?_
      exact xs_round ((l.set i (⟨⟨#[99, 104, 97, 110, 103, 101, 100]⟩, 99, false⟩ : Pl)), i + 1) (by show M.length - (i + 1) < M.length - i; omega) (by exact ⟨by omega, by rw [List.length_set]; exact hl2⟩) (sub_of rfl ⟨⟨rfl, rfl⟩, ⟨⟨rfl, rfl⟩, ⟨⟨rfl, rfl⟩, ⟨⟨rfl, rfl⟩, ⟨⟨rfl, rfl⟩, ⟨⟨rfl, rfl⟩, ⟨⟨rfl, rfl⟩, ⟨⟨rfl, rfl⟩, trivial⟩⟩⟩⟩⟩⟩⟩⟩) (fun _ h => h.re [0, 0, 0, 0] [])
    ·
      have p15 := of_decide_eq_false c11
      refine k_exit ?_
      refine xs_exit ?_
      refine xs_exit ?_
      refine xs_here ?_
      refine xs_then ?_
      refine k_seq ?_
      refine k_seq ?_
      refine k_reg ?_
      refine s_lt (t_pure (.pointer (some ⟨g8, 5, none⟩))) ?_
      refine s_lt (t_load 0 s7) ?_
      refine s_lt (t_len PlT_ok Tryd.underlying26 (.own 1)) ?_
      refine s_lt (t_pure lv) ?_
      refine s_lt (t_len PlT_ok Tryd.underlying26 (.zn hM)) ?_
      refine s_lt (Lt.to t_cmp (congrArg Value.bool (decide_eq_false (fun h => h rfl) : (decide ((M.length : Int) ≠ (M.length : Int))) = false))) ?_
      refine s_nil ?_
      refine xs_then ?_
      refine k_false ?_
      refine k_skip ?_
      refine xs_then ?_
      refine k_seq ?_
      refine k_seq ?_
      refine k_reg ?_
      refine s_lt (t_pure (.int .i64 0)) ?_
      refine s_nil ?_
      refine xs_then ?_
      refine k_block ?_
      refine k_loop (ι := Nat) (fun k => k ≤ M.length) (fun k => [(1, .int .i64 N), (2, lv), (3, .pointer (some ⟨g1, 0, none⟩)), (6, .bool false), (8, .pointer (some ⟨g8, 0, none⟩)), (10, .int .i64 (k : Int))]) (fun k => [blkA g8 #[.int .i64 ((raiseT v N M).kind), .int .i64 ((raiseT v N M).p), .int .i64 ((raiseT v N M).q), .string ((raiseT v N M).str), .int .i64 ((raiseT v N M).ref), s7] 31, own PlT s7 M, own PlT v6 l, blkA g1 #[.int .i64 v.kind, .int .i64 v.p, .int .i64 v.q, .string v.str, .int .i64 v.ref] 25]) (fun k => M.length - k) 0 (Nat.zero_le _) (sub_of rfl ⟨⟨rfl, rfl⟩, ⟨⟨rfl, rfl⟩, ⟨⟨rfl, rfl⟩, ⟨⟨rfl, rfl⟩, ⟨⟨rfl, rfl⟩, ⟨⟨rfl, rfl⟩, trivial⟩⟩⟩⟩⟩⟩) (fun _ h => h.re [0, 0, 0, 0] []) ?_
      rintro k hi16
      show SK _ _ _ _ _ [(1, .int .i64 N), (2, lv), (3, .pointer (some ⟨g1, 0, none⟩)), (6, .bool false), (8, .pointer (some ⟨g8, 0, none⟩)), (10, .int .i64 (k : Int))] _ [blkA g8 #[.int .i64 ((raiseT v N M).kind), .int .i64 ((raiseT v N M).p), .int .i64 ((raiseT v N M).q), .string ((raiseT v N M).str), .int .i64 ((raiseT v N M).ref), s7] 31, own PlT s7 M, own PlT v6 l, blkA g1 #[.int .i64 v.kind, .int .i64 v.p, .int .i64 v.q, .string v.str, .int .i64 v.ref] 25]
      refine k_seq ?_
      refine k_seq ?_
      refine k_reg ?_
      refine s_lt (t_pure (.int .i64 (k : Int))) ?_
      refine s_lt (t_pure lv) ?_
      refine s_lt (t_len PlT_ok Tryd.underlying26 (.zn hM)) ?_
      refine s_lt t_cmp ?_
      refine s_nil ?_
      refine xs_then ?_
      refine k_cond (decide ((k : Int) < (M.length : Int))) (fun c17 => ?_) (fun c17 => ?_)
      ·
        have p18 := of_decide_eq_true c17
        refine k_skip ?_
        refine xs_then ?_
        refine k_seq ?_
        refine k_block ?_
        refine k_seq ?_
        refine k_draw ?_
        refine s_lt (t_pure (.pointer (some ⟨g8, 5, none⟩))) ?_
        refine s_lt (t_load 0 s7) ?_
        refine s_lt (t_pure (.int .i64 (k : Int))) ?_
        refine s_lt (t_index PlT_ok Tryd.underlying26 (.own 1) (k : Int) k (by omega) (by (try simp only [List.length_nil, List.length_cons, List.length_append, List.length_take, List.length_drop, List.length_set, List.length_replicate, List.length_reverse, ByteArray.size_append, sz_mk]); omega) (by omega)) ?_
        obtain ⟨y19, hy20⟩ : ∃ y, M[k]? = some y := ⟨_, List.getElem?_eq_getElem (by (try simp only [List.length_nil, List.length_cons, List.length_append, List.length_take, List.length_drop, List.length_set, List.length_replicate, List.length_reverse, ByteArray.size_append, sz_mk]); omega)⟩
        refine s_lt (t_loadE PlT_ok (.own 1) hy20) ?_
        refine s_lt (t_pure lv) ?_
        refine s_lt (t_pure (.int .i64 (k : Int))) ?_
        refine s_lt (t_index PlT_ok Tryd.underlying26 (.zn hM) (k : Int) k (by omega) (by (try simp only [List.length_nil, List.length_cons, List.length_append, List.length_take, List.length_drop, List.length_set, List.length_replicate, List.length_reverse, ByteArray.size_append, sz_mk]); omega) (by omega)) ?_
        refine s_lt (t_loadE PlT_ok (.zn hM) hy20) ?_
        refine s_lt (Lt.to (t_eqS (fun w => (eqPlT y19 y19 w).2)) (congrArg Value.bool ((congrArg Bool.not (decide_eq_true rfl : (decide (y19 = y19)) = true)).trans rfl : (!(decide (y19 = y19))) = false))) ?_
        refine s_nil ?_
        refine x_dynS (fun _ h => by kernel_rfl) ?_
        refine xs_then ?_
        refine k_false ?_
        refine k_skip ?_
        refine xs_block ?_
        refine xs_then ?_
        refine k_reg ?_
        refine s_lt (t_pure (.int .i64 (k : Int))) ?_
        refine s_lt (t_add (k : Int) 1 (by (try simp only [List.length_nil, List.length_cons, List.length_append, List.length_take, List.length_drop, List.length_set, List.length_replicate, List.length_reverse, ByteArray.size_append, sz_mk]); omega)) ?_
        refine s_lt (t_pure (.int .i64 ((k : Int) + 1))) ?_
        refine s_nil ?_
        exact xs_round (k + 1) (by omega) (by omega) (sub_of rfl ⟨⟨rfl, rfl⟩, ⟨⟨rfl, rfl⟩, ⟨⟨rfl, rfl⟩, ⟨⟨rfl, rfl⟩, ⟨⟨rfl, rfl⟩, ⟨⟨rfl, rfl⟩, trivial⟩⟩⟩⟩⟩⟩) (fun _ h => h.re [0, 0, 0, 0] [])
      ·
        have p21 := of_decide_eq_false c17
        refine k_exit ?_
        refine xs_exit ?_
        refine xs_exit ?_
        refine xs_here ?_
        refine xs_then ?_
        refine k_seq ?_
        refine k_cut (ι := Unit) (fun _ => True) (fun _ => [(3, .pointer (some ⟨g1, 0, none⟩)), (6, .bool false), (8, .pointer (some ⟨g8, 0, none⟩)), (60, .bool ((decide (v.kind ≠ 3)) || (decide (N < 1))))]) (fun _ => [blkA g8 #[.int .i64 ((raiseT v N M).kind), .int .i64 ((raiseT v N M).p), .int .i64 ((raiseT v N M).q), .string ((raiseT v N M).str), .int .i64 ((raiseT v N M).ref), s7] 31, own PlT s7 M, own PlT v6 l, blkA g1 #[.int .i64 v.kind, .int .i64 v.p, .int .i64 v.q, .string v.str, .int .i64 v.ref] 25]) ?_ (fun _ _ => ?_)
        ·
          refine k_reg ?_
          refine s_lt (t_pure (.pointer (some ⟨g1, 0, none⟩))) ?_
          refine s_lt (t_load 3 (.int .i64 v.kind)) ?_
          refine s_lt t_cmp ?_
          refine s_lt (t_pure (.bool (decide (v.kind ≠ 3)))) ?_
          refine s_fork 57 (decide (v.kind ≠ 3)) (fun c22 => ?_) (fun c22 => ?_)
          ·
            have p23 := of_decide_eq_true c22
            refine s_skip ?_
            refine s_skip ?_
            refine s_lt (t_pure (.bool true)) ?_
            refine s_nil ?_
            exact xs_cut () trivial (sub_of rfl ⟨⟨rfl, rfl⟩, ⟨⟨rfl, rfl⟩, ⟨⟨rfl, rfl⟩, ⟨⟨rfl, show Value.bool true = Value.bool ((decide (v.kind ≠ 3)) || (decide (N < 1))) by first | (simp only [c22, Bool.true_and, Bool.false_and, Bool.and_true, Bool.and_false, Bool.true_or, Bool.or_true, Bool.false_or, Bool.or_false, Bool.not_true, Bool.not_false]; done) | simp [c22]⟩, trivial⟩⟩⟩⟩) (fun _ h => h.re [0, 0, 0, 0] [])
          ·
            have p24 := Decidable.not_not.1 (of_decide_eq_false c22)
            refine s_lt (t_pure (.int .i64 N)) ?_
            refine s_lt t_cmp ?_
            refine s_lt (t_pure (.bool (decide (N < 1)))) ?_
            refine s_nil ?_
            exact xs_cut () trivial (sub_of rfl ⟨⟨rfl, rfl⟩, ⟨⟨rfl, rfl⟩, ⟨⟨rfl, rfl⟩, ⟨⟨rfl, show Value.bool (decide (N < 1)) = Value.bool ((decide (v.kind ≠ 3)) || (decide (N < 1))) by first | (simp only [c22, Bool.true_and, Bool.false_and, Bool.and_true, Bool.and_false, Bool.true_or, Bool.or_true, Bool.false_or, Bool.or_false, Bool.not_true, Bool.not_false]; done) | simp [c22]⟩, trivial⟩⟩⟩⟩) (fun _ h => h.re [0, 0, 0, 0] [])
        ·
          refine k_cond ((decide (v.kind ≠ 3)) || (decide (N < 1))) (fun c25 => ?_) (fun c25 => ?_)
          ·
            have p26 := c25
            simp only [Bool.and_eq_true, Bool.or_eq_true, Bool.and_eq_false_iff, Bool.or_eq_false_iff, Bool.not_eq_true', Bool.not_eq_false', decide_eq_true_eq, decide_eq_false_iff_not] at p26
            refine k_seq ?_
            refine k_reg ?_
            refine s_lt (t_pure (.pointer (some ⟨g8, 0, none⟩))) ?_
            refine s_lt (t_loadA 0 #[.int .i64 ((raiseT v N M).kind), .int .i64 ((raiseT v N M).p), .int .i64 ((raiseT v N M).q), .string ((raiseT v N M).str), .int .i64 ((raiseT v N M).ref)]) ?_
            refine s_lt (t_loadA 3 #[.int .i64 v.kind, .int .i64 v.p, .int .i64 v.q, .string v.str, .int .i64 v.ref]) ?_
            refine s_lt (Lt.to (t_eqS (fun w => (eqVlT (raiseT v N M) v w).1)) (congrArg Value.bool (decide_eq_true (raise_same (by omega)) : (decide ((raiseT v N M) = v)) = true))) ?_
            refine s_lt (t_pure (.bool true)) ?_
            refine s_vcall (fun _ h => awake_s (ht.at h)) ?_
            rintro _ rfl
            refine s_lt (t_pure (.bool true)) ?_
            refine s_lt (t_pure (.bool true)) ?_
            refine s_nil ?_
            refine xs_then ?_
            refine k_ret ?_
            refine xs_ret ?_
            exact xs_fin [.bool true] [] (SI.tmp 6 SI.nil) (fun _ h => h.re [] [0, 0, 0, 0]) ⟨rfl, rfl⟩
          ·
            obtain ⟨c27, c28⟩ := or_f c25
            have p29 := Decidable.not_not.1 (of_decide_eq_false c27)
            have p30 := of_decide_eq_false c28
            refine k_skip ?_
            refine xs_then ?_
            refine k_seq ?_
            refine k_reg ?_
            refine s_lt (t_pure (.pointer (some ⟨g8, 0, none⟩))) ?_
            refine s_lt (t_pure (.pointer (some ⟨g8, 3, none⟩))) ?_
            refine s_lt (t_load 0 (.string ((raiseT v N M).str))) ?_
            refine s_lt (t_kern (.int .i64 (((raiseT v N M).str).size : Int))) ?_
            refine s_lt (t_pure (.pointer (some ⟨g1, 3, none⟩))) ?_
            refine s_lt (t_load 3 (.string v.str)) ?_
            refine s_lt (t_kern (.int .i64 (v.str.size : Int))) ?_
            refine s_lt (t_sub (((raiseT v N M).str).size : Int) (v.str.size : Int) (by (try simp only [List.length_nil, List.length_cons, List.length_append, List.length_take, List.length_drop, List.length_set, List.length_replicate, List.length_reverse, ByteArray.size_append, sz_mk]); omega)) ?_
            refine s_lt (t_pure (.int .i64 ((((raiseT v N M).str).size : Int) - (v.str.size : Int)))) ?_
            refine s_nil ?_
            refine xs_then ?_
            refine k_seq ?_
            refine k_cut (ι := Unit) (fun _ => True) (fun _ => [(3, .pointer (some ⟨g1, 0, none⟩)), (6, .bool false), (8, .pointer (some ⟨g8, 0, none⟩)), (105, .bool false)]) (fun _ => [blkA g8 #[.int .i64 ((raiseT v N M).kind), .int .i64 ((raiseT v N M).p), .int .i64 ((raiseT v N M).q), .string ((raiseT v N M).str), .int .i64 ((raiseT v N M).ref), s7] 31, own PlT s7 M, own PlT v6 l, blkA g1 #[.int .i64 v.kind, .int .i64 v.p, .int .i64 v.q, .string v.str, .int .i64 v.ref] 25]) ?_ (fun _ _ => ?_)
            ·
              refine k_draw ?_
              refine s_lt (t_pure (.int .i64 ((((raiseT v N M).str).size : Int) - (v.str.size : Int)))) ?_
              refine s_lt (Lt.to t_cmp (congrArg Value.bool (decide_eq_false (by omega) : (decide (((((raiseT v N M).str).size : Int) - (v.str.size : Int)) < 0)) = false))) ?_
              refine s_lt (t_pure (.bool false)) ?_
              refine s_lt (t_pure (.pointer (some ⟨g8, 0, none⟩))) ?_
              refine s_lt (t_pure (.pointer (some ⟨g8, 3, none⟩))) ?_
              refine s_lt (t_load 0 (.string ((raiseT v N M).str))) ?_
              refine s_lt (t_pure (.int .i64 ((((raiseT v N M).str).size : Int) - (v.str.size : Int)))) ?_
              refine s_lt (t_subL Tryd.underlying9 ((raiseT v N M).str) ((((raiseT v N M).str).size : Int) - (v.str.size : Int)) (by omega) (by omega)) ?_
              refine s_lt (t_pure (.pointer (some ⟨g1, 3, none⟩))) ?_
              refine s_lt (t_load 3 (.string v.str)) ?_
              refine s_lt (Lt.to t_cmpS (congrArg Value.bool (decide_eq_false (fun h => h (raise_tail v N M)) : (decide ((((raiseT v N M).str).extract ((((raiseT v N M).str).size : Int) - (v.str.size : Int)).toNat ((raiseT v N M).str).size) ≠ v.str)) = false))) ?_
              refine s_lt (t_pure (.bool false)) ?_
              refine s_lt (t_pure (.bool false)) ?_
              refine s_lt (t_pure (.int .i64 ((((raiseT v N M).str).size : Int) - (v.str.size : Int)))) ?_
              refine s_lt t_cmp ?_
              refine s_lt (t_pure (.bool (decide ((0 : Int) < ((((raiseT v N M).str).size : Int) - (v.str.size : Int)))))) ?_
              refine s_fork 91 (decide ((0 : Int) < ((((raiseT v N M).str).size : Int) - (v.str.size : Int)))) (fun c31 => ?_) (fun c31 => ?_)
              ·
                have p32 := of_decide_eq_true c31
                refine s_lt (t_pure (.int .i64 ((((raiseT v N M).str).size : Int) - (v.str.size : Int)))) ?_
                refine s_lt (Lt.to t_cmp (congrArg Value.bool (decide_eq_false (by have := raise_three (v := v) (N := N) (M := M) (by omega); omega) : (decide (((((raiseT v N M).str).size : Int) - (v.str.size : Int)) < 3)) = false))) ?_
                refine s_lt (t_pure (.bool false)) ?_
                refine s_lt (t_pure (.pointer (some ⟨g8, 0, none⟩))) ?_
                refine s_lt (t_pure (.pointer (some ⟨g8, 3, none⟩))) ?_
                refine s_lt (t_load 0 (.string ((raiseT v N M).str))) ?_
                refine s_lt (t_pure (.int .i64 ((((raiseT v N M).str).size : Int) - (v.str.size : Int)))) ?_
                refine s_lt (t_sub ((((raiseT v N M).str).size : Int) - (v.str.size : Int)) 2 (by (try simp only [List.length_nil, List.length_cons, List.length_append, List.length_take, List.length_drop, List.length_set, List.length_replicate, List.length_reverse, ByteArray.size_append, sz_mk]); omega)) ?_
                refine s_lt (t_pure (.int .i64 ((((raiseT v N M).str).size : Int) - (v.str.size : Int)))) ?_
                refine s_lt (t_subLH Tryd.underlying9 ((raiseT v N M).str) (((((raiseT v N M).str).size : Int) - (v.str.size : Int)) - 2) ((((raiseT v N M).str).size : Int) - (v.str.size : Int)) (by have := raise_three (v := v) (N := N) (M := M) (by omega); omega) (by omega) (by omega)) ?_
                refine s_lt (Lt.to t_cmpS (congrArg Value.bool (decide_eq_false (fun h => h (raise_colon (v := v) (N := N) (M := M) (by omega))) : (decide ((((raiseT v N M).str).extract (((((raiseT v N M).str).size : Int) - (v.str.size : Int)) - 2).toNat ((((raiseT v N M).str).size : Int) - (v.str.size : Int)).toNat) ≠ ⟨#[58, 32]⟩)) = false))) ?_
                refine s_lt (t_pure (.bool false)) ?_
                refine s_lt (t_pure (.bool false)) ?_
                refine s_lt (t_pure (.bool false)) ?_
                refine s_nil ?_
                refine x_dynS (fun _ h => by kernel_rfl) ?_
                exact xs_cut () trivial (sub_of rfl ⟨⟨rfl, rfl⟩, ⟨⟨rfl, rfl⟩, ⟨⟨rfl, rfl⟩, ⟨⟨rfl, rfl⟩, trivial⟩⟩⟩⟩) (fun _ h => h.re [0, 0, 0, 0] [])
              ·
                have p33 := of_decide_eq_false c31
                refine s_skip ?_
                refine s_skip ?_
                refine s_skip ?_
                refine s_skip ?_
                refine s_skip ?_
                refine s_skip ?_
                refine s_skip ?_
                refine s_skip ?_
                refine s_skip ?_
                refine s_skip ?_
                refine s_skip ?_
                refine s_skip ?_
                refine s_lt (t_pure (.bool false)) ?_
                refine s_lt (t_pure (.bool false)) ?_
                refine s_nil ?_
                refine x_dynS (fun _ h => by kernel_rfl) ?_
                exact xs_cut () trivial (sub_of rfl ⟨⟨rfl, rfl⟩, ⟨⟨rfl, rfl⟩, ⟨⟨rfl, rfl⟩, ⟨⟨rfl, rfl⟩, trivial⟩⟩⟩⟩) (fun _ h => h.re [0, 0, 0, 0] [])
            ·
              refine k_false ?_
              refine k_skip ?_
              refine xs_then ?_
              refine k_seq ?_
              refine k_reg ?_
              refine s_lt (t_pure (.pointer (some ⟨g1, 3, none⟩))) ?_
              refine s_lt (t_load 3 (.string v.str)) ?_
              refine s_lt (t_pure (.pointer (some ⟨g8, 0, none⟩))) ?_
              refine s_lt (t_pure (.pointer (some ⟨g8, 3, none⟩))) ?_
              refine s_store 0 #[.int .i64 ((raiseT v N M).kind), .int .i64 ((raiseT v N M).p), .int .i64 ((raiseT v N M).q), .string v.str, .int .i64 ((raiseT v N M).ref), s7] ?_
              refine s_nil ?_
              refine xs_then ?_
              refine k_seq ?_
              refine k_reg ?_
              refine s_lt (t_pure (.pointer (some ⟨g8, 0, none⟩))) ?_
              refine s_lt (t_loadA 0 #[.int .i64 ((raiseT v N M).kind), .int .i64 ((raiseT v N M).p), .int .i64 ((raiseT v N M).q), .string v.str, .int .i64 ((raiseT v N M).ref)]) ?_
              refine s_lt (t_loadA 3 #[.int .i64 v.kind, .int .i64 v.p, .int .i64 v.q, .string v.str, .int .i64 v.ref]) ?_
              refine s_lt (Lt.to (t_eqS (fun w => (eqVlT (⟨(raiseT v N M).kind, (raiseT v N M).p, (raiseT v N M).q, v.str, (raiseT v N M).ref⟩ : Vl) v w).1)) (congrArg Value.bool (decide_eq_true (raise_put v N M) : (decide ((⟨(raiseT v N M).kind, (raiseT v N M).p, (raiseT v N M).q, v.str, (raiseT v N M).ref⟩ : Vl) = v)) = true))) ?_
              refine s_lt (t_pure (.bool true)) ?_
              refine s_vcall (fun _ h => awake_s (ht.at h)) ?_
              rintro _ rfl
              refine s_lt (t_pure (.bool true)) ?_
              refine s_lt (t_pure (.bool true)) ?_
              refine s_nil ?_
              refine xs_then ?_
              refine k_ret ?_
              exact xs_fin [.bool true] [] (SI.tmp 6 SI.nil) (fun _ h => h.re [] [0, 0, 0, 0]) ⟨rfl, rfl⟩
theorem short_w {Z : Zone} (ht : KnTab Z) {v : Vl} {lv : Value} {M : List Pl} (hM : Kn Z PlT lv M) (hok : ∀ p ∈ M, okP p) : SF Tryd.prog 10 #[flV v lv] Z [] fun r Bs => r = .bool true ∧ Bs = [] := by
  refine sf_enter Tryd.func10 90 [(0, .agg #[.int .i64 v.kind, .int .i64 v.p, .int .i64 v.q, .string v.str, .int .i64 v.ref, lv])] (fun w0 => ?_)
  refine k_seq ?_
  refine k_reg ?_
  refine s_box #[.int .i64 v.kind, .int .i64 v.p, .int .i64 v.q, .string v.str, .int .i64 v.ref, lv] (fun g1 => ?_)
  refine s_lt (t_pure (.bool false)) ?_
  refine s_nil ?_
  refine xs_then ?_
  refine k_seq ?_
  refine k_seq ?_
  refine k_reg ?_
  refine s_lt (t_pure (.pointer (some ⟨g1, 5, none⟩))) ?_
  refine s_lt (t_load 0 lv) ?_
  refine s_vcall (fun _ h => large_s (Acc.kn (.zn hM) h)) ?_
  rintro _ rfl
  refine s_nil ?_
  refine xs_then ?_
  refine k_cond (decide ((400 : Int) < M.length)) (fun c2 => ?_) (fun c2 => ?_)
  ·
    have p3 := of_decide_eq_true c2
    refine k_seq ?_
    refine k_reg ?_
    refine s_vcall (fun _ h => awake_s (ht.at h)) ?_
    rintro _ rfl
    refine s_lt (t_pure (.bool true)) ?_
    refine s_nil ?_
    refine xs_then ?_
    refine k_ret ?_
    refine xs_ret ?_
    exact xs_fin [.bool true] [] (SI.tmp 2 SI.nil) (fun _ h => h.re [] [0]) ⟨rfl, rfl⟩
  ·
    have p4 := of_decide_eq_false c2
    refine k_skip ?_
    refine xs_then ?_
    refine k_seq ?_
    refine k_reg ?_
    refine s_lt (t_loadA 0 #[.int .i64 v.kind, .int .i64 v.p, .int .i64 v.q, .string v.str, .int .i64 v.ref, lv]) ?_
    refine s_pcall (fun _ h => lines_s (ht.at h) (v := v) (Acc.kn (.zn hM) h) hok (by (try simp only [List.length_nil, List.length_cons, List.length_append, List.length_take, List.length_drop, List.length_set, List.length_replicate, List.length_reverse, ByteArray.size_append, sz_mk]); omega)) ?_
    rintro v5 _ rfl
    refine s_fact (fun H h => ((Acc.own (T := (strT 9)) (L := (linesT M)) 0 rfl) H h).form) (fun hf6 => ?_)
    refine s_lt (t_pure v5) ?_
    refine s_nil ?_
    refine xs_then ?_
    refine k_seq ?_
    refine k_reg ?_
    refine s_lt (t_pure (.pointer (some ⟨g1, 5, none⟩))) ?_
    refine s_lt (t_load 1 lv) ?_
    refine s_lt (t_len PlT_ok Tryd.underlying26 (.zn hM)) ?_
    refine s_lt (t_pure (.int .i64 (M.length : Int))) ?_
    refine s_nil ?_
    refine xs_then ?_
    refine k_seq ?_
    refine k_seq ?_
    refine k_reg ?_
    refine s_lt (t_pure (.int .i64 (M.length : Int))) ?_
    refine s_lt t_cmp ?_
    refine s_nil ?_
    refine xs_then ?_
    refine k_cond (decide ((M.length : Int) ≤ 21)) (fun c7 => ?_) (fun c7 => ?_)
    ·
      have p8 := of_decide_eq_true c7
      refine k_seq ?_
      refine k_reg ?_
      refine s_lt (t_pure v5) ?_
      refine s_lt (t_len st_ok Tryd.underlying38 (.own 0)) ?_
      refine s_lt (t_pure (.int .i64 (M.length : Int))) ?_
      refine s_lt (Lt.to t_cmp (congrArg Value.bool (decide_eq_true (by rw [short_len (by omega)]) : (decide (((linesT M).length : Int) = (M.length : Int))) = true))) ?_
      refine s_lt (t_pure (.bool true)) ?_
      refine s_vcall (fun _ h => awake_s (ht.at h)) ?_
      rintro _ rfl
      refine s_lt (t_pure (.bool true)) ?_
      refine s_lt (t_pure (.bool true)) ?_
      refine s_nil ?_
      refine xs_then ?_
      refine k_ret ?_
      refine xs_ret ?_
      exact xs_fin [.bool true] [] (SI.tmp 2 SI.nil) (fun _ h => h.re [] [0, 0]) ⟨rfl, rfl⟩
    ·
      have p9 := of_decide_eq_false c7
      refine k_skip ?_
      refine xs_then ?_
      refine k_seq ?_
      refine k_seq ?_
      have hlong : ¬ M.length ≤ 21 := by omega
      have hl22 := long_len hlong; have hl10 := first_len hlong; have hl11 := last_len hlong
      refine k_reg ?_
      refine s_lt (t_pure v5) ?_
      refine s_lt (t_len st_ok Tryd.underlying38 (.own 0)) ?_
      refine s_lt (Lt.to t_cmp (congrArg Value.bool (decide_eq_false (by omega) : (decide (((linesT M).length : Int) ≠ 22)) = false))) ?_
      refine s_lt (t_pure (.bool false)) ?_
      refine s_lt (t_pure v5) ?_
      refine s_lt (t_index st_ok Tryd.underlying38 (.own 0) 10 10 (by omega) (by (try simp only [List.length_nil, List.length_cons, List.length_append, List.length_take, List.length_drop, List.length_set, List.length_replicate, List.length_reverse, ByteArray.size_append, sz_mk]); omega) (by omega)) ?_
      obtain ⟨y10, hy11⟩ : ∃ y, (linesT M)[10]? = some y := ⟨_, List.getElem?_eq_getElem (by (try simp only [List.length_nil, List.length_cons, List.length_append, List.length_take, List.length_drop, List.length_set, List.length_replicate, List.length_reverse, ByteArray.size_append, sz_mk]); omega)⟩
      refine s_lt (t_loadE st_ok (.own 0) hy11) ?_
      refine s_lt (Lt.to t_cmpS (congrArg Value.bool (decide_eq_false (fun h => h (long_ten hlong hy11)) : (decide (y10 ≠ ⟨#[46, 46, 46]⟩)) = false))) ?_
      refine s_lt (t_pure (.bool false)) ?_
      refine s_nil ?_
      refine xs_then ?_
      refine k_false ?_
      refine k_skip ?_
      refine xs_then ?_
      refine k_seq ?_
      refine k_reg ?_
      refine s_lt (t_pure (.pointer (some ⟨g1, 5, none⟩))) ?_
      refine s_lt (t_load 1 lv) ?_
      refine s_lt (t_pre PlT_ok Tryd.underlying26 (.zn hM) 10 10 (by omega) (by (try simp only [List.length_nil, List.length_cons, List.length_append, List.length_take, List.length_drop, List.length_set, List.length_replicate, List.length_reverse, ByteArray.size_append, sz_mk]); omega) (by omega)) ?_
      refine s_fact (fun H h => ((Acc.pre (Acc.zn hM) PlT_ok 10 (by (try simp only [List.length_nil, List.length_cons, List.length_append, List.length_take, List.length_drop, List.length_set, List.length_replicate, List.length_reverse, ByteArray.size_append, sz_mk]); omega)) H h).form) (fun hf12 => ?_)
      refine s_lt (show Lt _ _ _ _ _ (.agg #[.int .i64 0, .int .i64 0, .int .i64 0, .string ByteArray.empty, .int .i64 0, (pre lv 10)]) from by obtain ⟨_, _, e⟩ := hf12; rw [e]; clear e; exact t_kern _) ?_
      refine s_pcall (fun _ h => lines_s (ht.at h) (v := (⟨0, 0, 0, ByteArray.empty, 0⟩ : Vl)) (Acc.kn (Acc.pre (.zn hM) PlT_ok 10 (by (try simp only [List.length_nil, List.length_cons, List.length_append, List.length_take, List.length_drop, List.length_set, List.length_replicate, List.length_reverse, ByteArray.size_append, sz_mk]); omega)) h) (fun p hp => hok p (List.mem_of_mem_take hp)) (by (try simp only [List.length_nil, List.length_cons, List.length_append, List.length_take, List.length_drop, List.length_set, List.length_replicate, List.length_reverse, ByteArray.size_append, sz_mk]); omega)) ?_
      rintro v13 _ rfl
      refine s_fact (fun H h => ((Acc.own (T := (strT 9)) (L := (linesT (M.take 10))) 0 rfl) H h).form) (fun hf14 => ?_)
      refine s_lt (t_pure v13) ?_
      refine s_nil ?_
      refine xs_then ?_
      refine k_seq ?_
      refine k_reg ?_
      refine s_lt (t_pure (.pointer (some ⟨g1, 5, none⟩))) ?_
      refine s_lt (t_load 2 lv) ?_
      refine s_lt (t_pure (.int .i64 (M.length : Int))) ?_
      refine s_lt (t_sub (M.length : Int) 11 (by (try simp only [List.length_nil, List.length_cons, List.length_append, List.length_take, List.length_drop, List.length_set, List.length_replicate, List.length_reverse, ByteArray.size_append, sz_mk]); omega)) ?_
      refine s_lt (t_suf PlT_ok Tryd.underlying26 (.zn hM) ((M.length : Int) - 11) (M.length - 11) (by omega) (by (try simp only [List.length_nil, List.length_cons, List.length_append, List.length_take, List.length_drop, List.length_set, List.length_replicate, List.length_reverse, ByteArray.size_append, sz_mk]); omega) (by omega)) ?_
      refine s_fact (fun H h => ((Acc.suf (Acc.zn hM) PlT_ok (M.length - 11) (by (try simp only [List.length_nil, List.length_cons, List.length_append, List.length_take, List.length_drop, List.length_set, List.length_replicate, List.length_reverse, ByteArray.size_append, sz_mk]); omega)) H h).form) (fun hf15 => ?_)
      refine s_lt (show Lt _ _ _ _ _ (.agg #[.int .i64 0, .int .i64 0, .int .i64 0, .string ByteArray.empty, .int .i64 0, (suf PlT.size lv (M.length - 11))]) from by obtain ⟨_, _, e⟩ := hf15; rw [e]; clear e; exact t_kern _) ?_
      refine s_pcall (fun _ h => lines_s (ht.at h) (v := (⟨0, 0, 0, ByteArray.empty, 0⟩ : Vl)) (Acc.kn (Acc.suf (.zn hM) PlT_ok (M.length - 11) (by (try simp only [List.length_nil, List.length_cons, List.length_append, List.length_take, List.length_drop, List.length_set, List.length_replicate, List.length_reverse, ByteArray.size_append, sz_mk]); omega)) h) (fun p hp => hok p (List.mem_of_mem_drop hp)) (by (try simp only [List.length_nil, List.length_cons, List.length_append, List.length_take, List.length_drop, List.length_set, List.length_replicate, List.length_reverse, ByteArray.size_append, sz_mk]); omega)) ?_
      rintro v16 _ rfl
      refine s_fact (fun H h => ((Acc.own (T := (strT 9)) (L := (linesT (M.drop (M.length - 11)))) 0 rfl) H h).form) (fun hf17 => ?_)
      refine s_lt (t_pure v16) ?_
      refine s_nil ?_
      refine xs_then ?_
      refine k_seq ?_
      refine k_seq ?_
      refine k_reg ?_
      refine s_lt (t_pure v13) ?_
      refine s_lt (t_len st_ok Tryd.underlying38 (.own 1)) ?_
      refine s_lt (Lt.to t_cmp (congrArg Value.bool (decide_eq_false (by omega) : (decide (((linesT (M.take 10)).length : Int) ≠ 10)) = false))) ?_
      refine s_lt (t_pure (.bool false)) ?_
      refine s_lt (t_pure v16) ?_
      refine s_lt (t_len st_ok Tryd.underlying38 (.own 0)) ?_
      refine s_lt (Lt.to t_cmp (congrArg Value.bool (decide_eq_false (by omega) : (decide (((linesT (M.drop (M.length - 11))).length : Int) ≠ 11)) = false))) ?_
      refine s_lt (t_pure (.bool false)) ?_
      refine s_nil ?_
      refine xs_then ?_
      refine k_false ?_
      refine k_skip ?_
      refine xs_then ?_
      refine k_seq ?_
      refine k_seq ?_
      refine k_reg ?_
      refine s_lt (t_pure (.int .i64 0)) ?_
      refine s_nil ?_
      refine xs_then ?_
      refine k_block ?_
      refine k_loop (ι := Nat) (fun i => i ≤ 10) (fun i => [(2, .bool false), (3, v5), (5, v13), (6, v16), (7, .int .i64 (i : Int))]) (fun i => [own (strT 9) v16 (linesT (M.drop (M.length - 11))), own (strT 9) v13 (linesT (M.take 10)), own (strT 9) v5 (linesT M), blkA g1 #[.int .i64 v.kind, .int .i64 v.p, .int .i64 v.q, .string v.str, .int .i64 v.ref, lv] 31]) (fun i => 10 - i) 0 (Nat.zero_le _) (sub_of rfl ⟨⟨rfl, rfl⟩, ⟨⟨rfl, rfl⟩, ⟨⟨rfl, rfl⟩, ⟨⟨rfl, rfl⟩, ⟨⟨rfl, rfl⟩, trivial⟩⟩⟩⟩⟩) (fun _ h => h.re [0, 0, 0, 0] []) ?_
      rintro i hi18
      show SK _ _ _ _ _ [(2, .bool false), (3, v5), (5, v13), (6, v16), (7, .int .i64 (i : Int))] _ [own (strT 9) v16 (linesT (M.drop (M.length - 11))), own (strT 9) v13 (linesT (M.take 10)), own (strT 9) v5 (linesT M), blkA g1 #[.int .i64 v.kind, .int .i64 v.p, .int .i64 v.q, .string v.str, .int .i64 v.ref, lv] 31]
      refine k_seq ?_
      refine k_seq ?_
      refine k_reg ?_
      refine s_lt (t_pure (.int .i64 (i : Int))) ?_
      refine s_lt t_cmp ?_
      refine s_nil ?_
      refine xs_then ?_
      refine k_cond (decide ((i : Int) < 10)) (fun c19 => ?_) (fun c19 => ?_)
      ·
        have p20 := of_decide_eq_true c19
        refine k_skip ?_
        refine xs_then ?_
        refine k_seq ?_
        refine k_block ?_
        refine k_seq ?_
        refine k_draw ?_
        refine s_lt (t_pure v5) ?_
        refine s_lt (t_pure (.int .i64 (i : Int))) ?_
        refine s_lt (t_index st_ok Tryd.underlying38 (.own 2) (i : Int) i (by omega) (by (try simp only [List.length_nil, List.length_cons, List.length_append, List.length_take, List.length_drop, List.length_set, List.length_replicate, List.length_reverse, ByteArray.size_append, sz_mk]); omega) (by omega)) ?_
        obtain ⟨y21, hy22⟩ : ∃ y, (linesT M)[i]? = some y := ⟨_, List.getElem?_eq_getElem (by (try simp only [List.length_nil, List.length_cons, List.length_append, List.length_take, List.length_drop, List.length_set, List.length_replicate, List.length_reverse, ByteArray.size_append, sz_mk]); omega)⟩
        refine s_lt (t_loadE st_ok (.own 2) hy22) ?_
        refine s_lt (t_pure v13) ?_
        refine s_lt (t_pure (.int .i64 (i : Int))) ?_
        refine s_lt (t_index st_ok Tryd.underlying38 (.own 1) (i : Int) i (by omega) (by (try simp only [List.length_nil, List.length_cons, List.length_append, List.length_take, List.length_drop, List.length_set, List.length_replicate, List.length_reverse, ByteArray.size_append, sz_mk]); omega) (by omega)) ?_
        obtain ⟨y23, hy24⟩ : ∃ y, (linesT (M.take 10))[i]? = some y := ⟨_, List.getElem?_eq_getElem (by (try simp only [List.length_nil, List.length_cons, List.length_append, List.length_take, List.length_drop, List.length_set, List.length_replicate, List.length_reverse, ByteArray.size_append, sz_mk]); omega)⟩
        refine s_lt (t_loadE st_ok (.own 1) hy24) ?_
        refine s_lt (Lt.to t_cmpS (congrArg Value.bool (decide_eq_false (fun h => h (long_first hlong (by omega) hy22 hy24)) : (decide (y21 ≠ y23)) = false))) ?_
        refine s_lt (t_pure (.bool false)) ?_
        refine s_lt (t_pure v5) ?_
        refine s_lt (t_pure (.int .i64 (i : Int))) ?_
        refine s_lt (t_add (i : Int) 11 (by (try simp only [List.length_nil, List.length_cons, List.length_append, List.length_take, List.length_drop, List.length_set, List.length_replicate, List.length_reverse, ByteArray.size_append, sz_mk]); omega)) ?_
        refine s_lt (t_index st_ok Tryd.underlying38 (.own 2) ((i : Int) + 11) (i + 11) (by omega) (by (try simp only [List.length_nil, List.length_cons, List.length_append, List.length_take, List.length_drop, List.length_set, List.length_replicate, List.length_reverse, ByteArray.size_append, sz_mk]); omega) (by omega)) ?_
        obtain ⟨y25, hy26⟩ : ∃ y, (linesT M)[(i + 11)]? = some y := ⟨_, List.getElem?_eq_getElem (by (try simp only [List.length_nil, List.length_cons, List.length_append, List.length_take, List.length_drop, List.length_set, List.length_replicate, List.length_reverse, ByteArray.size_append, sz_mk]); omega)⟩
        refine s_lt (t_loadE st_ok (.own 2) hy26) ?_
        refine s_lt (t_pure v16) ?_
        refine s_lt (t_pure (.int .i64 (i : Int))) ?_
        refine s_lt (t_index st_ok Tryd.underlying38 (.own 0) (i : Int) i (by omega) (by (try simp only [List.length_nil, List.length_cons, List.length_append, List.length_take, List.length_drop, List.length_set, List.length_replicate, List.length_reverse, ByteArray.size_append, sz_mk]); omega) (by omega)) ?_
        obtain ⟨y27, hy28⟩ : ∃ y, (linesT (M.drop (M.length - 11)))[i]? = some y := ⟨_, List.getElem?_eq_getElem (by (try simp only [List.length_nil, List.length_cons, List.length_append, List.length_take, List.length_drop, List.length_set, List.length_replicate, List.length_reverse, ByteArray.size_append, sz_mk]); omega)⟩
        refine s_lt (t_loadE st_ok (.own 0) hy28) ?_
        refine s_lt (Lt.to t_cmpS (congrArg Value.bool (decide_eq_false (fun h => h (long_last hlong (by omega) hy26 hy28)) : (decide (y25 ≠ y27)) = false))) ?_
        refine s_lt (t_pure (.bool false)) ?_
        refine s_nil ?_
        refine x_dynS (fun _ h => by kernel_rfl) ?_
        refine xs_then ?_
        refine k_false ?_
        refine k_skip ?_
        refine xs_block ?_
        refine xs_then ?_
        refine k_reg ?_
        refine s_lt (t_pure (.int .i64 (i : Int))) ?_
        refine s_lt (t_add (i : Int) 1 (by (try simp only [List.length_nil, List.length_cons, List.length_append, List.length_take, List.length_drop, List.length_set, List.length_replicate, List.length_reverse, ByteArray.size_append, sz_mk]); omega)) ?_
        refine s_lt (t_pure (.int .i64 ((i : Int) + 1))) ?_
        refine s_nil ?_
        exact xs_round (i + 1) (by omega) (by omega) (sub_of rfl ⟨⟨rfl, rfl⟩, ⟨⟨rfl, rfl⟩, ⟨⟨rfl, rfl⟩, ⟨⟨rfl, rfl⟩, ⟨⟨rfl, rfl⟩, trivial⟩⟩⟩⟩⟩) (fun _ h => h.re [0, 0, 0, 0] [])
      ·
        have p29 := of_decide_eq_false c19
        refine k_exit ?_
        refine xs_exit ?_
        refine xs_exit ?_
        refine xs_here ?_
        refine xs_then ?_
        refine k_seq ?_
        refine k_draw ?_
        refine s_lt (t_pure v5) ?_
        refine s_lt (t_index st_ok Tryd.underlying38 (.own 2) 21 21 (by omega) (by (try simp only [List.length_nil, List.length_cons, List.length_append, List.length_take, List.length_drop, List.length_set, List.length_replicate, List.length_reverse, ByteArray.size_append, sz_mk]); omega) (by omega)) ?_
        obtain ⟨y30, hy31⟩ : ∃ y, (linesT M)[21]? = some y := ⟨_, List.getElem?_eq_getElem (by (try simp only [List.length_nil, List.length_cons, List.length_append, List.length_take, List.length_drop, List.length_set, List.length_replicate, List.length_reverse, ByteArray.size_append, sz_mk]); omega)⟩
        refine s_lt (t_loadE st_ok (.own 2) hy31) ?_
        refine s_lt (t_pure v16) ?_
        refine s_lt (t_index st_ok Tryd.underlying38 (.own 0) 10 10 (by omega) (by (try simp only [List.length_nil, List.length_cons, List.length_append, List.length_take, List.length_drop, List.length_set, List.length_replicate, List.length_reverse, ByteArray.size_append, sz_mk]); omega) (by omega)) ?_
        obtain ⟨y32, hy33⟩ : ∃ y, (linesT (M.drop (M.length - 11)))[10]? = some y := ⟨_, List.getElem?_eq_getElem (by (try simp only [List.length_nil, List.length_cons, List.length_append, List.length_take, List.length_drop, List.length_set, List.length_replicate, List.length_reverse, ByteArray.size_append, sz_mk]); omega)⟩
        refine s_lt (t_loadE st_ok (.own 0) hy33) ?_
        refine s_lt (Lt.to t_cmpS (congrArg Value.bool (decide_eq_true (long_last hlong (by omega) hy31 hy33) : (decide (y30 = y32)) = true))) ?_
        refine s_lt (t_pure (.bool true)) ?_
        refine s_vcall (fun _ h => awake_s (ht.at h)) ?_
        rintro _ rfl
        refine s_lt (t_pure (.bool true)) ?_
        refine s_lt (t_pure (.bool true)) ?_
        refine s_nil ?_
        refine x_dynS (fun _ h => by kernel_rfl) ?_
        refine xs_then ?_
        refine k_ret ?_
        exact xs_fin [.bool true] [] (SI.tmp 2 SI.nil) (fun _ h => h.re [] [0, 0, 0, 0]) ⟨rfl, rfl⟩
end Go.Proofs.YtiddapedgkifoaaDoor
