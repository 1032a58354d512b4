/-
  Texts, messages, comparing.
-/
import Derived.Test.YtiddapedgkifoaaDoorW10
set_option linter.unusedSimpArgs false
set_option linter.unusedVariables false
set_option maxRecDepth 100000
namespace Go.Proofs.YtiddapedgkifoaaDoor
open Go.Hp Go.J Go.S
open Go.Mem (Ty KTy blk elemAt pre suf blk_pre blk_suf aget aset strK aggDesc)
open Go.Mem
def strV (s : ByteArray) : Vl := ⟨3, 0, 0, s, 0⟩
def cutT (s : ByteArray) : ByteArray := if 4096 < (s.size : Int) then s.extract 0 4096 else s
def msgT (s : ByteArray) (M : List Pl) : Vl := raiseT (strV (cutT s)) 1 M
theorem cutT_size (s : ByteArray) : ((cutT s).size : Int) ≤ 4096 := by
  unfold cutT; split
  · rw [ByteArray.size_extract]; omega
  · omega
def okV (v : Vl) : Prop := -9223372036854775808 ≤ v.ref ∧ v.ref ≤ 9223372036854775807 ∧ (v.str.size : Int) ≤ 4611686018427387904
theorem raiseT_ok {v : Vl} {N : Int} {M : List Pl} (h : okV v) : okV (raiseT v N M) := by
  unfold raiseT; split
  · rename_i hc; exact ⟨h.1, h.2.1, by have := hc.2.2; show ((preT v (rposT N M)).size : Int) ≤ _; omega⟩
  · exact h
theorem strV_ok {s : ByteArray} (h : (s.size : Int) ≤ 4611686018427387904) : okV (strV s) := ⟨by show (_ : Int) ≤ 0; decide, by show (0 : Int) ≤ _; decide, h⟩
theorem take_eq_succ {α : Type} {A B : List α} {i : Nat} {x : α} (h : A.take i = B.take i) (ha : A[i]? = some x) (hb : B[i]? = some x) : A.take (i + 1) = B.take (i + 1) := by
  rw [List.take_add_one, List.take_add_one, h, ha, hb]
theorem ne_of_get {α : Type} {A B : List α} {i : Nat} {x y : α} (ha : A[i]? = some x) (hb : B[i]? = some y) (h : x ≠ y) : A ≠ B := by
  rintro rfl; rw [ha] at hb; exact h (Option.some.inj hb)
theorem ofstr_s {Z : Zone} (s : ByteArray) : SF Tryd.prog 32 #[.string s] Z [] fun r Bs => r = (strV s).v ∧ Bs = [] := by
  refine sf_enter Tryd.func32 5 [(0, .string s)] (fun w0 => ?_)
  refine k_seq ?_
  refine k_reg ?_
  refine s_alloc (.agg #[.int .i64 0, .int .i64 0, .int .i64 0, .string ByteArray.empty, .int .i64 0]) #[.int .i64 0, .int .i64 0, .int .i64 0, .string ByteArray.empty, .int .i64 0] (fun g1 => ?_)
  refine s_nil ?_
  refine xs_then ?_
  refine k_seq ?_
  refine k_reg ?_
  refine s_lt (t_pure (.string s)) ?_
  refine s_lt (t_kern (.agg #[.int .i64 3, .int .i64 0, .int .i64 0, .string s, .int .i64 0])) ?_
  refine s_store 0 #[.int .i64 3, .int .i64 0, .int .i64 0, .string s, .int .i64 0] ?_
  refine s_nil ?_
  refine xs_then ?_
  refine k_ret ?_
  refine xs_fin [.agg #[.int .i64 3, .int .i64 0, .int .i64 0, .string s, .int .i64 0]] [] (SI.agg 2 25 0 SI.nil) (fun _ h => h.re [] [0]) ⟨?_, rfl⟩
  rfl
theorem str_s {Z : Zone} (s : ByteArray) : SF Tryd.prog 25 #[.string s] Z [] fun r Bs => r = (strV s).v ∧ Bs = [] := by
  refine sf_enter Tryd.func25 5 [(0, .string s)] (fun w0 => ?_)
  refine k_seq ?_
  refine k_reg ?_
  refine s_alloc (.agg #[.int .i64 0, .int .i64 0, .int .i64 0, .string ByteArray.empty, .int .i64 0]) #[.int .i64 0, .int .i64 0, .int .i64 0, .string ByteArray.empty, .int .i64 0] (fun g1 => ?_)
  refine s_nil ?_
  refine xs_then ?_
  refine k_seq ?_
  refine k_reg ?_
  refine s_lt (t_pure (.string s)) ?_
  refine s_lt (t_kern (.agg #[.int .i64 3, .int .i64 0, .int .i64 0, .string s, .int .i64 0])) ?_
  refine s_store 0 #[.int .i64 3, .int .i64 0, .int .i64 0, .string s, .int .i64 0] ?_
  refine s_nil ?_
  refine xs_then ?_
  refine k_ret ?_
  refine xs_fin [.agg #[.int .i64 3, .int .i64 0, .int .i64 0, .string s, .int .i64 0]] [] (SI.agg 2 25 0 SI.nil) (fun _ h => h.re [] [0]) ⟨?_, rfl⟩
  rfl
theorem ftext_s {Z : Zone} (ht : KnTab Z) {v : Vl} {lv : Value} (hv : okV v) : SF Tryd.prog 18 #[flV v lv] Z [] fun r Bs => r = .string (textT v) ∧ Bs = [] := by
  obtain ⟨h0, h1, hs⟩ := hv
  refine sf_enter Tryd.func18 6 [(0, .agg #[.int .i64 v.kind, .int .i64 v.p, .int .i64 v.q, .string v.str, .int .i64 v.ref, lv])] (fun w0 => ?_)
  refine k_seq ?_
  refine k_reg ?_
  refine s_box #[.int .i64 v.kind, .int .i64 v.p, .int .i64 v.q, .string v.str, .int .i64 v.ref, lv] (fun g1 => ?_)
  refine s_lt (t_pure (.string ByteArray.empty)) ?_
  refine s_nil ?_
  refine xs_then ?_
  refine k_seq ?_
  refine k_reg ?_
  refine s_lt (t_pure (.pointer (some ⟨g1, 0, none⟩))) ?_
  refine s_lt (t_loadA 0 #[.int .i64 v.kind, .int .i64 v.p, .int .i64 v.q, .string v.str, .int .i64 v.ref]) ?_
  refine s_vcall (fun _ h => text_s (ht.at h) v (by omega) (by omega) (by omega)) ?_
  rintro _ rfl
  refine s_lt (t_pure (.string (textT v))) ?_
  refine s_nil ?_
  refine xs_then ?_
  refine k_ret ?_
  refine xs_fin [.string (textT v)] [] (SI.tmp 2 SI.nil) (fun _ h => h.re [] [0]) ⟨?_, rfl⟩
  rfl
theorem rftext_s {Z : Zone} {v : Vl} {lv : Value} (hv : okV v) : SF Tryd.prog 19 #[flV v lv] Z [] fun r Bs => r = .string (textT v) ∧ Bs = [] := by
  obtain ⟨h0, h1, hs⟩ := hv
  refine sf_enter Tryd.func19 6 [(0, .agg #[.int .i64 v.kind, .int .i64 v.p, .int .i64 v.q, .string v.str, .int .i64 v.ref, lv])] (fun w0 => ?_)
  refine k_seq ?_
  refine k_reg ?_
  refine s_box #[.int .i64 v.kind, .int .i64 v.p, .int .i64 v.q, .string v.str, .int .i64 v.ref, lv] (fun g1 => ?_)
  refine s_lt (t_pure (.string ByteArray.empty)) ?_
  refine s_nil ?_
  refine xs_then ?_
  refine k_seq ?_
  refine k_reg ?_
  refine s_lt (t_pure (.pointer (some ⟨g1, 0, none⟩))) ?_
  refine s_lt (t_loadA 0 #[.int .i64 v.kind, .int .i64 v.p, .int .i64 v.q, .string v.str, .int .i64 v.ref]) ?_
  refine s_vcall (fun _ h => rtext_s v (by omega) (by omega) (by omega)) ?_
  rintro _ rfl
  refine s_lt (t_pure (.string (textT v))) ?_
  refine s_nil ?_
  refine xs_then ?_
  refine k_ret ?_
  refine xs_fin [.string (textT v)] [] (SI.tmp 2 SI.nil) (fun _ h => h.re [] [0]) ⟨?_, rfl⟩
  rfl
theorem strV_str (s : ByteArray) : (strV s).str = s := rfl
theorem msg_s {Z : Zone} (ht : KnTab Z) {s : ByteArray} {lv : Value} {M : List Pl} (hM : Kn Z PlT lv M) (hok : ∀ p ∈ M, okP p) (hl : (M.length : Int) ≤ 400) : SF Tryd.prog 16 #[.string s, lv] Z [] fun r Bs => ∃ x, r = flV (msgT s M) x ∧ Bs = [own PlT x M] := by
  refine sf_enter Tryd.func16 14 [(0, .string s), (1, lv)] (fun w0 => ?_)
  refine k_seq ?_
  refine k_reg ?_
  refine s_alloc (.agg #[.int .i64 0, .int .i64 0, .int .i64 0, .string ByteArray.empty, .int .i64 0, (.slice none 0 0)]) #[.int .i64 0, .int .i64 0, .int .i64 0, .string ByteArray.empty, .int .i64 0, (.slice none 0 0)] (fun g1 => ?_)
  refine s_nil ?_
  refine xs_then ?_
  refine k_seq ?_
  refine k_seq ?_
  refine k_reg ?_
  refine s_lt (t_pure (.string s)) ?_
  refine s_lt (t_kern (.int .i64 (s.size : Int))) ?_
  refine s_lt t_cmp ?_
  refine s_nil ?_
  refine xs_then ?_
  refine k_cond (decide ((4096 : Int) < (s.size : Int))) (fun c2 => ?_) (fun c2 => ?_)
  ·
    have p3 := of_decide_eq_true c2
    refine k_reg ?_
    refine s_lt (t_pure (.string s)) ?_
    refine s_lt (t_subH Tryd.underlying9 s 4096 (by omega) (by omega)) ?_
    refine s_lt (t_pure (.string (s.extract 0 4096))) ?_
    refine s_nil ?_
    refine xs_then ?_
    refine k_seq ?_
    refine k_reg ?_
    refine s_lt (t_pure (.string (s.extract 0 4096))) ?_
    refine s_vcall (fun _ h => ofstr_s (s.extract 0 4096)) ?_
    rintro _ rfl
    refine s_lt (t_pure lv) ?_
    refine s_pcall (fun _ h => raise_s (ht.at h) (v := (strV (s.extract 0 4096))) (N := 1) (Acc.kn (.zn hM) h) hok (by omega) (by (try simp only [List.length_nil, List.length_cons, List.length_append, List.length_take, List.length_drop, List.length_set, List.length_replicate, List.length_reverse, ByteArray.size_append, sz_mk]); omega) (by show ((s.extract 0 4096).size : Int) ≤ _; rw [ByteArray.size_extract]; omega)) ?_
    rintro _ _ ⟨s4, rfl, rfl⟩
    refine s_fact (fun H h => ((Acc.own (T := PlT) (L := M) 0 rfl) H h).form) (fun hf5 => ?_)
    refine s_store (u := .agg #[.int .i64 ((raiseT (strV (s.extract 0 4096)) 1 M).kind), .int .i64 ((raiseT (strV (s.extract 0 4096)) 1 M).p), .int .i64 ((raiseT (strV (s.extract 0 4096)) 1 M).q), .string ((raiseT (strV (s.extract 0 4096)) 1 M).str), .int .i64 ((raiseT (strV (s.extract 0 4096)) 1 M).ref), s4]) (m := 6) 1 #[.int .i64 ((raiseT (strV (s.extract 0 4096)) 1 M).kind), .int .i64 ((raiseT (strV (s.extract 0 4096)) 1 M).p), .int .i64 ((raiseT (strV (s.extract 0 4096)) 1 M).q), .string ((raiseT (strV (s.extract 0 4096)) 1 M).str), .int .i64 ((raiseT (strV (s.extract 0 4096)) 1 M).ref), s4] ?_ (hm := by (obtain ⟨_, _, e⟩ := hf5; rw [e]; rfl)) (h1 := by (obtain ⟨_, _, e⟩ := hf5; rw [e]; rfl)) (ha' := by (obtain ⟨_, _, e⟩ := hf5; rw [e]; rfl))
    refine s_nil ?_
    refine xs_then ?_
    refine k_ret ?_
    have hp : msgT s M = (raiseT (strV (s.extract 0 4096)) 1 M) := by rw [msgT, show cutT s = _ from if_pos (by omega)]; try rfl
    refine xs_fin [.agg #[.int .i64 ((raiseT (strV (s.extract 0 4096)) 1 M).kind), .int .i64 ((raiseT (strV (s.extract 0 4096)) 1 M).p), .int .i64 ((raiseT (strV (s.extract 0 4096)) 1 M).q), .string ((raiseT (strV (s.extract 0 4096)) 1 M).str), .int .i64 ((raiseT (strV (s.extract 0 4096)) 1 M).ref), s4]] [own PlT s4 M] (SI.agg 4 31 1 SI.nil) (fun _ h => h.re [0] [1]) ⟨s4, ?_, rfl⟩
    rw [hp]; rfl
  ·
    have p6 := of_decide_eq_false c2
    refine k_skip ?_
    refine xs_then ?_
    refine k_seq ?_
    refine k_reg ?_
    refine s_lt (t_pure (.string s)) ?_
    refine s_vcall (fun _ h => ofstr_s s) ?_
    rintro _ rfl
    refine s_lt (t_pure lv) ?_
    refine s_pcall (fun _ h => raise_s (ht.at h) (v := (strV s)) (N := 1) (Acc.kn (.zn hM) h) hok (by omega) (by (try simp only [List.length_nil, List.length_cons, List.length_append, List.length_take, List.length_drop, List.length_set, List.length_replicate, List.length_reverse, ByteArray.size_append, sz_mk]); omega) (by first | (rw [strV_str]; omega) | (show (s.size : Int) ≤ _; omega))) ?_
    rintro _ _ ⟨s7, rfl, rfl⟩
    refine s_fact (fun H h => ((Acc.own (T := PlT) (L := M) 0 rfl) H h).form) (fun hf8 => ?_)
    refine s_store (u := .agg #[.int .i64 ((raiseT (strV s) 1 M).kind), .int .i64 ((raiseT (strV s) 1 M).p), .int .i64 ((raiseT (strV s) 1 M).q), .string ((raiseT (strV s) 1 M).str), .int .i64 ((raiseT (strV s) 1 M).ref), s7]) (m := 6) 1 #[.int .i64 ((raiseT (strV s) 1 M).kind), .int .i64 ((raiseT (strV s) 1 M).p), .int .i64 ((raiseT (strV s) 1 M).q), .string ((raiseT (strV s) 1 M).str), .int .i64 ((raiseT (strV s) 1 M).ref), s7] ?_ (hm := by (obtain ⟨_, _, e⟩ := hf8; rw [e]; rfl)) (h1 := by (obtain ⟨_, _, e⟩ := hf8; rw [e]; rfl)) (ha' := by (obtain ⟨_, _, e⟩ := hf8; rw [e]; rfl))
    refine s_nil ?_
    refine xs_then ?_
    refine k_ret ?_
    have hp : msgT s M = (raiseT (strV s) 1 M) := by rw [msgT, show cutT s = _ from if_neg (by omega)]; try rfl
    refine xs_fin [.agg #[.int .i64 ((raiseT (strV s) 1 M).kind), .int .i64 ((raiseT (strV s) 1 M).p), .int .i64 ((raiseT (strV s) 1 M).q), .string ((raiseT (strV s) 1 M).str), .int .i64 ((raiseT (strV s) 1 M).ref), s7]] [own PlT s7 M] (SI.agg 4 31 1 SI.nil) (fun _ h => h.re [0] [1]) ⟨s7, ?_, rfl⟩
    rw [hp]; rfl
theorem rmsg_s {Z : Zone} {s : ByteArray} {lv : Value} {M : List Pl} (hM : Kn Z PlT lv M) (hok : ∀ p ∈ M, okP p) (hl : (M.length : Int) ≤ 400) : SF Tryd.prog 17 #[.string s, lv] Z [] fun r Bs => ∃ x, r = flV (msgT s M) x ∧ Bs = [own PlT x M] := by
  refine sf_enter Tryd.func17 14 [(0, .string s), (1, lv)] (fun w0 => ?_)
  refine k_seq ?_
  refine k_reg ?_
  refine s_alloc (.agg #[.int .i64 0, .int .i64 0, .int .i64 0, .string ByteArray.empty, .int .i64 0, (.slice none 0 0)]) #[.int .i64 0, .int .i64 0, .int .i64 0, .string ByteArray.empty, .int .i64 0, (.slice none 0 0)] (fun g1 => ?_)
  refine s_nil ?_
  refine xs_then ?_
  refine k_seq ?_
  refine k_seq ?_
  refine k_reg ?_
  refine s_lt (t_pure (.string s)) ?_
  refine s_lt (t_kern (.int .i64 (s.size : Int))) ?_
  refine s_lt t_cmp ?_
  refine s_nil ?_
  refine xs_then ?_
  refine k_cond (decide ((4096 : Int) < (s.size : Int))) (fun c2 => ?_) (fun c2 => ?_)
  ·
    have p3 := of_decide_eq_true c2
    refine k_reg ?_
    refine s_lt (t_pure (.string s)) ?_
    refine s_lt (t_subH Tryd.underlying9 s 4096 (by omega) (by omega)) ?_
    refine s_lt (t_pure (.string (s.extract 0 4096))) ?_
    refine s_nil ?_
    refine xs_then ?_
    refine k_seq ?_
    refine k_reg ?_
    refine s_lt (t_pure (.string (s.extract 0 4096))) ?_
    refine s_lt (t_kern (.agg #[.int .i64 3, .int .i64 0, .int .i64 0, .string (s.extract 0 4096), .int .i64 0])) ?_
    refine s_lt (t_pure lv) ?_
    refine s_pcall (fun _ h => rraise_s (v := (⟨3, 0, 0, (s.extract 0 4096), 0⟩ : Vl)) (N := 1) (Acc.kn (.zn hM) h) hok (by omega) (by (try simp only [List.length_nil, List.length_cons, List.length_append, List.length_take, List.length_drop, List.length_set, List.length_replicate, List.length_reverse, ByteArray.size_append, sz_mk]); omega) (by show ((s.extract 0 4096).size : Int) ≤ _; rw [ByteArray.size_extract]; omega)) ?_
    rintro _ _ ⟨s4, rfl, rfl⟩
    refine s_fact (fun H h => ((Acc.own (T := PlT) (L := M) 0 rfl) H h).form) (fun hf5 => ?_)
    refine s_store (u := .agg #[.int .i64 ((raiseT (⟨3, 0, 0, (s.extract 0 4096), 0⟩ : Vl) 1 M).kind), .int .i64 ((raiseT (⟨3, 0, 0, (s.extract 0 4096), 0⟩ : Vl) 1 M).p), .int .i64 ((raiseT (⟨3, 0, 0, (s.extract 0 4096), 0⟩ : Vl) 1 M).q), .string ((raiseT (⟨3, 0, 0, (s.extract 0 4096), 0⟩ : Vl) 1 M).str), .int .i64 ((raiseT (⟨3, 0, 0, (s.extract 0 4096), 0⟩ : Vl) 1 M).ref), s4]) (m := 6) 1 #[.int .i64 ((raiseT (⟨3, 0, 0, (s.extract 0 4096), 0⟩ : Vl) 1 M).kind), .int .i64 ((raiseT (⟨3, 0, 0, (s.extract 0 4096), 0⟩ : Vl) 1 M).p), .int .i64 ((raiseT (⟨3, 0, 0, (s.extract 0 4096), 0⟩ : Vl) 1 M).q), .string ((raiseT (⟨3, 0, 0, (s.extract 0 4096), 0⟩ : Vl) 1 M).str), .int .i64 ((raiseT (⟨3, 0, 0, (s.extract 0 4096), 0⟩ : Vl) 1 M).ref), s4] ?_ (hm := by (obtain ⟨_, _, e⟩ := hf5; rw [e]; rfl)) (h1 := by (obtain ⟨_, _, e⟩ := hf5; rw [e]; rfl)) (ha' := by (obtain ⟨_, _, e⟩ := hf5; rw [e]; rfl))
    refine s_nil ?_
    refine xs_then ?_
    refine k_ret ?_
    have hp : msgT s M = (raiseT (⟨3, 0, 0, (s.extract 0 4096), 0⟩ : Vl) 1 M) := by rw [msgT, show cutT s = _ from if_pos (by omega)]; try rfl
    refine xs_fin [.agg #[.int .i64 ((raiseT (⟨3, 0, 0, (s.extract 0 4096), 0⟩ : Vl) 1 M).kind), .int .i64 ((raiseT (⟨3, 0, 0, (s.extract 0 4096), 0⟩ : Vl) 1 M).p), .int .i64 ((raiseT (⟨3, 0, 0, (s.extract 0 4096), 0⟩ : Vl) 1 M).q), .string ((raiseT (⟨3, 0, 0, (s.extract 0 4096), 0⟩ : Vl) 1 M).str), .int .i64 ((raiseT (⟨3, 0, 0, (s.extract 0 4096), 0⟩ : Vl) 1 M).ref), s4]] [own PlT s4 M] (SI.agg 4 31 1 SI.nil) (fun _ h => h.re [0] [1]) ⟨s4, ?_, rfl⟩
    rw [hp]; rfl
  ·
    have p6 := of_decide_eq_false c2
    refine k_skip ?_
    refine xs_then ?_
    refine k_seq ?_
    refine k_reg ?_
    refine s_lt (t_pure (.string s)) ?_
    refine s_lt (t_kern (.agg #[.int .i64 3, .int .i64 0, .int .i64 0, .string s, .int .i64 0])) ?_
    refine s_lt (t_pure lv) ?_
    refine s_pcall (fun _ h => rraise_s (v := (⟨3, 0, 0, s, 0⟩ : Vl)) (N := 1) (Acc.kn (.zn hM) h) hok (by omega) (by (try simp only [List.length_nil, List.length_cons, List.length_append, List.length_take, List.length_drop, List.length_set, List.length_replicate, List.length_reverse, ByteArray.size_append, sz_mk]); omega) (by first | (rw [strV_str]; omega) | (show (s.size : Int) ≤ _; omega))) ?_
    rintro _ _ ⟨s7, rfl, rfl⟩
    refine s_fact (fun H h => ((Acc.own (T := PlT) (L := M) 0 rfl) H h).form) (fun hf8 => ?_)
    refine s_store (u := .agg #[.int .i64 ((raiseT (⟨3, 0, 0, s, 0⟩ : Vl) 1 M).kind), .int .i64 ((raiseT (⟨3, 0, 0, s, 0⟩ : Vl) 1 M).p), .int .i64 ((raiseT (⟨3, 0, 0, s, 0⟩ : Vl) 1 M).q), .string ((raiseT (⟨3, 0, 0, s, 0⟩ : Vl) 1 M).str), .int .i64 ((raiseT (⟨3, 0, 0, s, 0⟩ : Vl) 1 M).ref), s7]) (m := 6) 1 #[.int .i64 ((raiseT (⟨3, 0, 0, s, 0⟩ : Vl) 1 M).kind), .int .i64 ((raiseT (⟨3, 0, 0, s, 0⟩ : Vl) 1 M).p), .int .i64 ((raiseT (⟨3, 0, 0, s, 0⟩ : Vl) 1 M).q), .string ((raiseT (⟨3, 0, 0, s, 0⟩ : Vl) 1 M).str), .int .i64 ((raiseT (⟨3, 0, 0, s, 0⟩ : Vl) 1 M).ref), s7] ?_ (hm := by (obtain ⟨_, _, e⟩ := hf8; rw [e]; rfl)) (h1 := by (obtain ⟨_, _, e⟩ := hf8; rw [e]; rfl)) (ha' := by (obtain ⟨_, _, e⟩ := hf8; rw [e]; rfl))
    refine s_nil ?_
    refine xs_then ?_
    refine k_ret ?_
    have hp : msgT s M = (raiseT (⟨3, 0, 0, s, 0⟩ : Vl) 1 M) := by rw [msgT, show cutT s = _ from if_neg (by omega)]; try rfl
    refine xs_fin [.agg #[.int .i64 ((raiseT (⟨3, 0, 0, s, 0⟩ : Vl) 1 M).kind), .int .i64 ((raiseT (⟨3, 0, 0, s, 0⟩ : Vl) 1 M).p), .int .i64 ((raiseT (⟨3, 0, 0, s, 0⟩ : Vl) 1 M).q), .string ((raiseT (⟨3, 0, 0, s, 0⟩ : Vl) 1 M).str), .int .i64 ((raiseT (⟨3, 0, 0, s, 0⟩ : Vl) 1 M).ref), s7]] [own PlT s7 M] (SI.agg 4 31 1 SI.nil) (fun _ h => h.re [0] [1]) ⟨s7, ?_, rfl⟩
    rw [hp]; rfl
theorem large_s {Z : Zone} {lv : Value} {M : List Pl} (hM : Kn Z PlT lv M) : SF Tryd.prog 11 #[lv] Z [] fun r Bs => r = .bool (decide ((400 : Int) < M.length)) ∧ Bs = [] := by
  refine sf_enter Tryd.func11 6 [(0, lv)] (fun w0 => ?_)
  refine k_seq ?_
  refine k_reg ?_
  refine s_lt (t_pure (.bool false)) ?_
  refine s_nil ?_
  refine xs_then ?_
  refine k_seq ?_
  refine k_reg ?_
  refine s_lt (t_pure lv) ?_
  refine s_lt (t_len PlT_ok Tryd.underlying26 (.zn hM)) ?_
  refine s_lt t_cmp ?_
  refine s_lt (t_pure (.bool (decide ((400 : Int) < (M.length : Int))))) ?_
  refine s_nil ?_
  refine xs_then ?_
  refine k_ret ?_
  refine xs_fin [.bool (decide ((400 : Int) < (M.length : Int)))] [] (SI.tmp 2 SI.nil) (fun _ h => h.re [] []) ⟨?_, rfl⟩
  rfl
theorem same_s {Z : Zone} {va vb : Value} {A B : List Pl} (hA : Kn Z PlT va A) (hB : Kn Z PlT vb B) : SF Tryd.prog 37 #[va, vb] Z [] fun r Bs => r = .bool (decide (A = B)) ∧ Bs = [] := by
  refine sf_enter Tryd.func37 26 [(0, va), (1, vb)] (fun w0 => ?_)
  refine k_fact (fun H h => (hA.get h).len_le) (fun lA => ?_)
  refine k_seq ?_
  refine k_reg ?_
  refine s_lt (t_pure (.bool false)) ?_
  refine s_nil ?_
  refine xs_then ?_
  refine k_seq ?_
  refine k_seq ?_
  refine k_reg ?_
  refine s_lt (t_pure va) ?_
  refine s_lt (t_len PlT_ok Tryd.underlying26 (.zn hA)) ?_
  refine s_lt (t_pure vb) ?_
  refine s_lt (t_len PlT_ok Tryd.underlying26 (.zn hB)) ?_
  refine s_lt t_cmp ?_
  refine s_nil ?_
  refine xs_then ?_
  refine k_cond (decide ((A.length : Int) ≠ (B.length : Int))) (fun c1 => ?_) (fun c1 => ?_)
  ·
    have p2 := of_decide_eq_true c1
    refine k_seq ?_
    refine k_reg ?_
    refine s_lt (t_pure (.bool false)) ?_
    refine s_nil ?_
    refine xs_then ?_
    refine k_ret ?_
    refine xs_ret ?_
    refine xs_fin [.bool false] [] (SI.tmp 4 SI.nil) (fun _ h => h.re [] []) ⟨congrArg Value.bool ?_, rfl⟩
    exact (decide_eq_false (fun e => by subst e; omega)).symm
  ·
    have p3 := Decidable.not_not.1 (of_decide_eq_false c1)
    refine k_skip ?_
    refine xs_then ?_
    refine k_seq ?_
    refine k_seq ?_
    refine k_reg ?_
    refine s_lt (t_pure va) ?_
    refine s_lt (t_len PlT_ok Tryd.underlying26 (.zn hA)) ?_
    refine s_lt (t_pure (.int .i64 0)) ?_
    refine s_nil ?_
    refine xs_then ?_
    refine k_block ?_
    refine k_loop (ι := Nat) (fun i => i ≤ A.length ∧ A.take i = B.take i) (fun i => [(0, va), (1, vb), (4, .bool false), (12, .int .i64 (A.length : Int)), (13, .int .i64 (i : Int))]) (fun i => []) (fun i => A.length - i) 0 ⟨Nat.zero_le _, rfl⟩ (sub_of rfl ⟨⟨rfl, rfl⟩, ⟨⟨rfl, rfl⟩, ⟨⟨rfl, rfl⟩, ⟨⟨rfl, rfl⟩, ⟨⟨rfl, rfl⟩, trivial⟩⟩⟩⟩⟩) (fun _ h => h.re [] []) ?_
    rintro i hi4
    show SK _ _ _ _ _ [(0, va), (1, vb), (4, .bool false), (12, .int .i64 (A.length : Int)), (13, .int .i64 (i : Int))] _ []
    refine k_seq ?_
    refine k_reg ?_
    refine s_lt t_cmp ?_
    refine s_nil ?_
    refine xs_then ?_
    refine k_seq ?_
    refine k_cond (decide ((i : Int) < (A.length : Int))) (fun c5 => ?_) (fun c5 => ?_)
    ·
      have p6 := of_decide_eq_true c5
      refine k_skip ?_
      refine xs_then ?_
      refine k_seq ?_
      refine k_block ?_
      refine k_seq ?_
      refine k_reg ?_
      refine s_lt (t_pure (.int .i64 (i : Int))) ?_
      refine s_lt (t_pure (.int .i64 (i : Int))) ?_
      refine s_nil ?_
      refine xs_then ?_
      refine k_seq ?_
      refine k_draw ?_
      refine s_lt (t_pure va) ?_
      refine s_lt (t_pure (.int .i64 (i : Int))) ?_
      refine s_lt (t_index PlT_ok Tryd.underlying26 (.zn hA) (i : Int) i (by omega) (by (try simp only [List.length_nil, List.length_cons, List.length_append, List.length_take, List.length_drop, List.length_set, List.length_replicate, List.length_reverse, ByteArray.size_append, sz_mk]); omega) (by omega)) ?_
      obtain ⟨y7, hy8⟩ : ∃ y, A[i]? = some y := ⟨_, List.getElem?_eq_getElem (by (try simp only [List.length_nil, List.length_cons, List.length_append, List.length_take, List.length_drop, List.length_set, List.length_replicate, List.length_reverse, ByteArray.size_append, sz_mk]); omega)⟩
      refine s_lt (t_loadE PlT_ok (.zn hA) hy8) ?_
      refine s_lt (t_pure vb) ?_
      refine s_lt (t_pure (.int .i64 (i : Int))) ?_
      refine s_lt (t_index PlT_ok Tryd.underlying26 (.zn hB) (i : Int) i (by omega) (by (try simp only [List.length_nil, List.length_cons, List.length_append, List.length_take, List.length_drop, List.length_set, List.length_replicate, List.length_reverse, ByteArray.size_append, sz_mk]); omega) (by omega)) ?_
      obtain ⟨y9, hy10⟩ : ∃ y, B[i]? = some y := ⟨_, List.getElem?_eq_getElem (by (try simp only [List.length_nil, List.length_cons, List.length_append, List.length_take, List.length_drop, List.length_set, List.length_replicate, List.length_reverse, ByteArray.size_append, sz_mk]); omega)⟩
      refine s_lt (t_loadE PlT_ok (.zn hB) hy10) ?_
      refine s_lt (t_eqS (fun w => (eqPlT y7 y9 w).2)) ?_
      refine s_nil ?_
      refine x_dynS (fun _ h => by kernel_rfl) ?_
      refine xs_then ?_
      refine k_cond (!(decide (y7 = y9))) (fun c11 => ?_) (fun c11 => ?_)
      ·
        have c12 := not_t c11
        have p13 := of_decide_eq_false c12
        refine k_seq ?_
        refine k_reg ?_
        refine s_lt (t_pure (.bool false)) ?_
        refine s_nil ?_
        refine xs_then ?_
        refine k_ret ?_
        refine xs_retBlock ?_
        refine xs_ret ?_
        refine xs_ret ?_
        refine xs_retBlock ?_
        refine xs_ret ?_
        refine xs_fin [.bool false] [] (SI.tmp 4 SI.nil) (fun _ h => h.re [] []) ⟨congrArg Value.bool ?_, rfl⟩
        have e2 : A ≠ B := ne_of_get hy8 hy10 p13
        exact (decide_eq_false e2).symm
      ·
        have c14 := not_f c11
        have p15 := of_decide_eq_true c14
        refine k_skip ?_
        refine xs_block ?_
        refine xs_then ?_
        refine k_reg ?_
        refine s_lt (t_add (i : Int) 1 (by (try simp only [List.length_nil, List.length_cons, List.length_append, List.length_take, List.length_drop, List.length_set, List.length_replicate, List.length_reverse, ByteArray.size_append, sz_mk]); omega)) ?_
        refine s_lt (t_pure (.int .i64 ((i : Int) + 1))) ?_
        refine s_nil ?_
        exact xs_round (i + 1) (by omega) (by obtain ⟨hi1, hi2⟩ := hi4; exact ⟨by omega, take_eq_succ hi2 hy8 (by rw [p15]; exact hy10)⟩) (sub_of rfl ⟨⟨rfl, rfl⟩, ⟨⟨rfl, rfl⟩, ⟨⟨rfl, rfl⟩, ⟨⟨rfl, rfl⟩, ⟨⟨rfl, rfl⟩, trivial⟩⟩⟩⟩⟩) (fun _ h => h.re [] [])
    ·
      have p16 := of_decide_eq_false c5
      refine k_exit ?_
      refine xs_exit ?_
      refine xs_exit ?_
      refine xs_here ?_
      refine xs_then ?_
      refine k_seq ?_
      refine k_reg ?_
      refine s_lt (t_pure (.bool true)) ?_
      refine s_nil ?_
      refine xs_then ?_
      refine k_ret ?_
      refine xs_fin [.bool true] [] (SI.tmp 4 SI.nil) (fun _ h => h.re [] []) ⟨congrArg Value.bool ?_, rfl⟩
      obtain ⟨hi1, hi2⟩ := hi4; have e : i = A.length := by omega
      have e2 : A = B := by rw [e, List.take_length, List.take_of_length_le (by omega)] at hi2; exact hi2
      exact (decide_eq_true e2).symm
theorem Same_s {Z : Zone} {u v : Vl} {va vb : Value} {A B : List Pl} (hA : Kn Z PlT va A) (hB : Kn Z PlT vb B) : SF Tryd.prog 22 #[flV u va, flV v vb] Z [] fun r Bs => r = .bool (decide (u = v) && decide (A = B)) ∧ Bs = [] := by
  refine sf_enter Tryd.func22 17 [(0, .agg #[.int .i64 u.kind, .int .i64 u.p, .int .i64 u.q, .string u.str, .int .i64 u.ref, va]), (1, .agg #[.int .i64 v.kind, .int .i64 v.p, .int .i64 v.q, .string v.str, .int .i64 v.ref, vb])] (fun w0 => ?_)
  refine k_seq ?_
  refine k_reg ?_
  refine s_box #[.int .i64 u.kind, .int .i64 u.p, .int .i64 u.q, .string u.str, .int .i64 u.ref, va] (fun g1 => ?_)
  refine s_box #[.int .i64 v.kind, .int .i64 v.p, .int .i64 v.q, .string v.str, .int .i64 v.ref, vb] (fun g2 => ?_)
  refine s_lt (t_pure (.bool false)) ?_
  refine s_nil ?_
  refine xs_then ?_
  refine k_cut (ι := Unit) (fun _ => True) (fun _ => [(4, .bool ((decide (u = v)) && (decide (A = B))))]) (fun _ => [blkA g2 #[.int .i64 v.kind, .int .i64 v.p, .int .i64 v.q, .string v.str, .int .i64 v.ref, vb] 31, blkA g1 #[.int .i64 u.kind, .int .i64 u.p, .int .i64 u.q, .string u.str, .int .i64 u.ref, va] 31]) ?_ (fun _ _ => ?_)
  ·
    refine k_reg ?_
    refine s_lt (t_pure (.pointer (some ⟨g1, 0, none⟩))) ?_
    refine s_lt (t_loadA 1 #[.int .i64 u.kind, .int .i64 u.p, .int .i64 u.q, .string u.str, .int .i64 u.ref]) ?_
    refine s_lt (t_pure (.pointer (some ⟨g2, 0, none⟩))) ?_
    refine s_lt (t_loadA 0 #[.int .i64 v.kind, .int .i64 v.p, .int .i64 v.q, .string v.str, .int .i64 v.ref]) ?_
    refine s_lt (t_eqS (fun w => (eqVlT u v w).1)) ?_
    refine s_lt (t_pure (.bool (decide (u = v)))) ?_
    refine s_fork 10 (decide (u = v)) (fun c3 => ?_) (fun c3 => ?_)
    ·
      have p4 := of_decide_eq_true c3
      refine s_lt (t_pure (.pointer (some ⟨g1, 5, none⟩))) ?_
      refine s_lt (t_load 1 va) ?_
      refine s_lt (t_pure (.pointer (some ⟨g2, 5, none⟩))) ?_
      refine s_lt (t_load 0 vb) ?_
      refine s_vcall (fun _ h => same_s (Acc.kn (.zn hA) h) (Acc.kn (.zn hB) h)) ?_
      rintro _ rfl
      refine s_lt (t_pure (.bool (decide (A = B)))) ?_
      refine s_lt (t_pure (.bool (decide (A = B)))) ?_
      refine s_nil ?_
      exact xs_cut () trivial (sub_of rfl ⟨⟨rfl, show Value.bool (decide (A = B)) = Value.bool ((decide (u = v)) && (decide (A = B))) by first | (simp only [c3, Bool.true_and, Bool.false_and, Bool.and_true, Bool.and_false, Bool.true_or, Bool.or_true, Bool.false_or, Bool.or_false, Bool.not_true, Bool.not_false]; done) | simp [c3]⟩, trivial⟩) (fun _ h => h.re [0, 0] [])
    ·
      have p5 := of_decide_eq_false c3
      refine s_skip ?_
      refine s_skip ?_
      refine s_skip ?_
      refine s_skip ?_
      refine s_skip ?_
      refine s_lt (t_pure (.bool false)) ?_
      refine s_lt (t_pure (.bool false)) ?_
      refine s_nil ?_
      exact xs_cut () trivial (sub_of rfl ⟨⟨rfl, show Value.bool false = Value.bool ((decide (u = v)) && (decide (A = B))) by first | (simp only [c3, Bool.true_and, Bool.false_and, Bool.and_true, Bool.and_false, Bool.true_or, Bool.or_true, Bool.false_or, Bool.or_false, Bool.not_true, Bool.not_false]; done) | simp [c3]⟩, trivial⟩) (fun _ h => h.re [0, 0] [])
  ·
    refine k_ret ?_
    refine xs_fin [.bool ((decide (u = v)) && (decide (A = B)))] [] (SI.tmp 4 SI.nil) (fun _ h => h.re [] [0, 0]) ⟨?_, rfl⟩
    rfl
theorem rSame_s {Z : Zone} {u v : Vl} {va vb : Value} {A B : List Pl} (hA : Kn Z PlT va A) (hB : Kn Z PlT vb B) : SF Tryd.prog 13 #[flV u va, flV v vb] Z [] fun r Bs => r = .bool (decide (u = v) && decide (A = B)) ∧ Bs = [] := by
  refine sf_enter Tryd.func13 38 [(0, .agg #[.int .i64 u.kind, .int .i64 u.p, .int .i64 u.q, .string u.str, .int .i64 u.ref, va]), (1, .agg #[.int .i64 v.kind, .int .i64 v.p, .int .i64 v.q, .string v.str, .int .i64 v.ref, vb])] (fun w0 => ?_)
  refine k_fact (fun H h => (hA.get h).len_le) (fun lA => ?_)
  refine k_seq ?_
  refine k_reg ?_
  refine s_box #[.int .i64 u.kind, .int .i64 u.p, .int .i64 u.q, .string u.str, .int .i64 u.ref, va] (fun g1 => ?_)
  refine s_box #[.int .i64 v.kind, .int .i64 v.p, .int .i64 v.q, .string v.str, .int .i64 v.ref, vb] (fun g2 => ?_)
  refine s_lt (t_pure (.bool false)) ?_
  refine s_nil ?_
  refine xs_then ?_
  refine k_seq ?_
  refine k_cut (ι := Unit) (fun _ => True) (fun _ => [(2, .pointer (some ⟨g1, 0, none⟩)), (3, .pointer (some ⟨g2, 0, none⟩)), (4, .bool false), (19, .bool ((!(decide (u = v))) || (decide ((A.length : Int) ≠ (B.length : Int)))))]) (fun _ => [blkA g2 #[.int .i64 v.kind, .int .i64 v.p, .int .i64 v.q, .string v.str, .int .i64 v.ref, vb] 31, blkA g1 #[.int .i64 u.kind, .int .i64 u.p, .int .i64 u.q, .string u.str, .int .i64 u.ref, va] 31]) ?_ (fun _ _ => ?_)
  ·
    refine k_reg ?_
    refine s_lt (t_pure (.pointer (some ⟨g1, 0, none⟩))) ?_
    refine s_lt (t_loadA 1 #[.int .i64 u.kind, .int .i64 u.p, .int .i64 u.q, .string u.str, .int .i64 u.ref]) ?_
    refine s_lt (t_pure (.pointer (some ⟨g2, 0, none⟩))) ?_
    refine s_lt (t_loadA 0 #[.int .i64 v.kind, .int .i64 v.p, .int .i64 v.q, .string v.str, .int .i64 v.ref]) ?_
    refine s_lt (t_eqS (fun w => (eqVlT u v w).2)) ?_
    refine s_lt (t_pure (.bool (!(decide (u = v))))) ?_
    refine s_fork 11 (!(decide (u = v))) (fun c3 => ?_) (fun c3 => ?_)
    ·
      have c4 := not_t c3
      have p5 := of_decide_eq_false c4
      refine s_skip ?_
      refine s_skip ?_
      refine s_skip ?_
      refine s_skip ?_
      refine s_skip ?_
      refine s_skip ?_
      refine s_skip ?_
      refine s_lt (t_pure (.bool true)) ?_
      refine s_nil ?_
      exact xs_cut () trivial (sub_of rfl ⟨⟨rfl, rfl⟩, ⟨⟨rfl, rfl⟩, ⟨⟨rfl, rfl⟩, ⟨⟨rfl, show Value.bool true = Value.bool ((!(decide (u = v))) || (decide ((A.length : Int) ≠ (B.length : Int)))) by first | (simp only [c3, Bool.true_and, Bool.false_and, Bool.and_true, Bool.and_false, Bool.true_or, Bool.or_true, Bool.false_or, Bool.or_false, Bool.not_true, Bool.not_false]; done) | simp [c3]⟩, trivial⟩⟩⟩⟩) (fun _ h => h.re [0, 0] [])
    ·
      have c6 := not_f c3
      have p7 := of_decide_eq_true c6
      refine s_lt (t_pure (.pointer (some ⟨g1, 5, none⟩))) ?_
      refine s_lt (t_load 1 va) ?_
      refine s_lt (t_len PlT_ok Tryd.underlying26 (.zn hA)) ?_
      refine s_lt (t_pure (.pointer (some ⟨g2, 5, none⟩))) ?_
      refine s_lt (t_load 0 vb) ?_
      refine s_lt (t_len PlT_ok Tryd.underlying26 (.zn hB)) ?_
      refine s_lt t_cmp ?_
      refine s_lt (t_pure (.bool (decide ((A.length : Int) ≠ (B.length : Int))))) ?_
      refine s_nil ?_
      exact xs_cut () trivial (sub_of rfl ⟨⟨rfl, rfl⟩, ⟨⟨rfl, rfl⟩, ⟨⟨rfl, rfl⟩, ⟨⟨rfl, show Value.bool (decide ((A.length : Int) ≠ (B.length : Int))) = Value.bool ((!(decide (u = v))) || (decide ((A.length : Int) ≠ (B.length : Int)))) by first | (simp only [c3, Bool.true_and, Bool.false_and, Bool.and_true, Bool.and_false, Bool.true_or, Bool.or_true, Bool.false_or, Bool.or_false, Bool.not_true, Bool.not_false]; done) | simp [c3]⟩, trivial⟩⟩⟩⟩) (fun _ h => h.re [0, 0] [])
  ·
    refine k_cond ((!(decide (u = v))) || (decide ((A.length : Int) ≠ (B.length : Int)))) (fun c8 => ?_) (fun c8 => ?_)
    ·
      have p9 := c8
      simp only [Bool.and_eq_true, Bool.or_eq_true, Bool.and_eq_false_iff, Bool.or_eq_false_iff, Bool.not_eq_true', Bool.not_eq_false', decide_eq_true_eq, decide_eq_false_iff_not] at p9
      refine k_seq ?_
      refine k_reg ?_
      refine s_lt (t_pure (.bool false)) ?_
      refine s_nil ?_
      refine xs_then ?_
      refine k_ret ?_
      refine xs_ret ?_
      refine xs_fin [.bool false] [] (SI.tmp 4 SI.nil) (fun _ h => h.re [] [0, 0]) ⟨congrArg Value.bool ?_, rfl⟩
      symm; rw [Bool.and_eq_false_iff]; simp only [decide_eq_false_iff_not]; by_cases hu : u = v; exact .inr (fun e => by subst e; simp_all); exact .inl hu
    ·
      obtain ⟨c10, c11⟩ := or_f c8
      have c12 := not_f c10
      have p13 := of_decide_eq_true c12
      have p14 := Decidable.not_not.1 (of_decide_eq_false c11)
      refine k_skip ?_
      refine xs_then ?_
      refine k_seq ?_
      refine k_seq ?_
      refine k_reg ?_
      refine s_lt (t_pure (.int .i64 0)) ?_
      refine s_nil ?_
      refine xs_then ?_
      refine k_block ?_
      refine k_loop (ι := Nat) (fun i => i ≤ A.length ∧ A.take i = B.take i) (fun i => [(2, .pointer (some ⟨g1, 0, none⟩)), (3, .pointer (some ⟨g2, 0, none⟩)), (4, .bool false), (5, .int .i64 (i : Int))]) (fun i => [blkA g2 #[.int .i64 v.kind, .int .i64 v.p, .int .i64 v.q, .string v.str, .int .i64 v.ref, vb] 31, blkA g1 #[.int .i64 u.kind, .int .i64 u.p, .int .i64 u.q, .string u.str, .int .i64 u.ref, va] 31]) (fun i => A.length - i) 0 ⟨Nat.zero_le _, rfl⟩ (sub_of rfl ⟨⟨rfl, rfl⟩, ⟨⟨rfl, rfl⟩, ⟨⟨rfl, rfl⟩, ⟨⟨rfl, rfl⟩, trivial⟩⟩⟩⟩) (fun _ h => h.re [0, 0] []) ?_
      rintro i hi15
      show SK _ _ _ _ _ [(2, .pointer (some ⟨g1, 0, none⟩)), (3, .pointer (some ⟨g2, 0, none⟩)), (4, .bool false), (5, .int .i64 (i : Int))] _ [blkA g2 #[.int .i64 v.kind, .int .i64 v.p, .int .i64 v.q, .string v.str, .int .i64 v.ref, vb] 31, blkA g1 #[.int .i64 u.kind, .int .i64 u.p, .int .i64 u.q, .string u.str, .int .i64 u.ref, va] 31]
      refine k_seq ?_
      refine k_seq ?_
      refine k_reg ?_
      refine s_lt (t_pure (.int .i64 (i : Int))) ?_
      refine s_lt (t_pure (.pointer (some ⟨g1, 5, none⟩))) ?_
      refine s_lt (t_load 1 va) ?_
      refine s_lt (t_len PlT_ok Tryd.underlying26 (.zn hA)) ?_
      refine s_lt t_cmp ?_
      refine s_nil ?_
      refine xs_then ?_
      refine k_cond (decide ((i : Int) < (A.length : Int))) (fun c16 => ?_) (fun c16 => ?_)
      ·
        have p17 := of_decide_eq_true c16
        refine k_skip ?_
        refine xs_then ?_
        refine k_seq ?_
        refine k_block ?_
        refine k_seq ?_
        refine k_draw ?_
        refine s_lt (t_pure (.pointer (some ⟨g1, 5, none⟩))) ?_
        refine s_lt (t_load 1 va) ?_
        refine s_lt (t_pure (.int .i64 (i : Int))) ?_
        refine s_lt (t_index PlT_ok Tryd.underlying26 (.zn hA) (i : Int) i (by omega) (by (try simp only [List.length_nil, List.length_cons, List.length_append, List.length_take, List.length_drop, List.length_set, List.length_replicate, List.length_reverse, ByteArray.size_append, sz_mk]); omega) (by omega)) ?_
        obtain ⟨y18, hy19⟩ : ∃ y, A[i]? = some y := ⟨_, List.getElem?_eq_getElem (by (try simp only [List.length_nil, List.length_cons, List.length_append, List.length_take, List.length_drop, List.length_set, List.length_replicate, List.length_reverse, ByteArray.size_append, sz_mk]); omega)⟩
        refine s_lt (t_loadE PlT_ok (.zn hA) hy19) ?_
        refine s_lt (t_pure (.pointer (some ⟨g2, 5, none⟩))) ?_
        refine s_lt (t_load 0 vb) ?_
        refine s_lt (t_pure (.int .i64 (i : Int))) ?_
        refine s_lt (t_index PlT_ok Tryd.underlying26 (.zn hB) (i : Int) i (by omega) (by (try simp only [List.length_nil, List.length_cons, List.length_append, List.length_take, List.length_drop, List.length_set, List.length_replicate, List.length_reverse, ByteArray.size_append, sz_mk]); omega) (by omega)) ?_
        obtain ⟨y20, hy21⟩ : ∃ y, B[i]? = some y := ⟨_, List.getElem?_eq_getElem (by (try simp only [List.length_nil, List.length_cons, List.length_append, List.length_take, List.length_drop, List.length_set, List.length_replicate, List.length_reverse, ByteArray.size_append, sz_mk]); omega)⟩
        refine s_lt (t_loadE PlT_ok (.zn hB) hy21) ?_
        refine s_lt (t_eqS (fun w => (eqPlT y18 y20 w).2)) ?_
        refine s_nil ?_
        refine x_dynS (fun _ h => by kernel_rfl) ?_
        refine xs_then ?_
        refine k_cond (!(decide (y18 = y20))) (fun c22 => ?_) (fun c22 => ?_)
        ·
          have c23 := not_t c22
          have p24 := of_decide_eq_false c23
          refine k_seq ?_
          refine k_reg ?_
          refine s_lt (t_pure (.bool false)) ?_
          refine s_nil ?_
          refine xs_then ?_
          refine k_ret ?_
          refine xs_retBlock ?_
          refine xs_ret ?_
          refine xs_ret ?_
          refine xs_retBlock ?_
          refine xs_ret ?_
          refine xs_fin [.bool false] [] (SI.tmp 4 SI.nil) (fun _ h => h.re [] [0, 0]) ⟨congrArg Value.bool ?_, rfl⟩
          have e2 : A ≠ B := ne_of_get hy19 hy21 p24
          simp [e2]
        ·
          have c25 := not_f c22
          have p26 := of_decide_eq_true c25
          refine k_skip ?_
          refine xs_block ?_
          refine xs_then ?_
          refine k_reg ?_
          refine s_lt (t_pure (.int .i64 (i : Int))) ?_
          refine s_lt (t_add (i : Int) 1 (by (try simp only [List.length_nil, List.length_cons, List.length_append, List.length_take, List.length_drop, List.length_set, List.length_replicate, List.length_reverse, ByteArray.size_append, sz_mk]); omega)) ?_
          refine s_lt (t_pure (.int .i64 ((i : Int) + 1))) ?_
          refine s_nil ?_
          exact xs_round (i + 1) (by omega) (by obtain ⟨hi1, hi2⟩ := hi15; exact ⟨by omega, take_eq_succ hi2 hy19 (by rw [p26]; exact hy21)⟩) (sub_of rfl ⟨⟨rfl, rfl⟩, ⟨⟨rfl, rfl⟩, ⟨⟨rfl, rfl⟩, ⟨⟨rfl, rfl⟩, trivial⟩⟩⟩⟩) (fun _ h => h.re [0, 0] [])
      ·
        have p27 := of_decide_eq_false c16
        refine k_exit ?_
        refine xs_exit ?_
        refine xs_exit ?_
        refine xs_here ?_
        refine xs_then ?_
        refine k_seq ?_
        refine k_reg ?_
        refine s_lt (t_pure (.bool true)) ?_
        refine s_nil ?_
        refine xs_then ?_
        refine k_ret ?_
        refine xs_fin [.bool true] [] (SI.tmp 4 SI.nil) (fun _ h => h.re [] [0, 0]) ⟨congrArg Value.bool ?_, rfl⟩
        obtain ⟨hi1, hi2⟩ := hi15; have e : i = A.length := by omega
        have e2 : A = B := by rw [e, List.take_length, List.take_of_length_le (by omega)] at hi2; exact hi2
        simp [e2, p13]
end Go.Proofs.YtiddapedgkifoaaDoor
