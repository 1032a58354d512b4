/-
  The stack of the reference.
-/
import Derived.Test.YtnhbejiakfaohaaW3
import Derived.Test.YtnhbejiakfaohaaL2
set_option linter.unusedSimpArgs false
set_option linter.unusedVariables false
set_option maxRecDepth 100000
namespace Go.Proofs.Ytnhbejiakfaohaa
open Go.Hp Go.J Go.S
open Go.Mem (Ty KTy blk elemAt pre suf blk_pre blk_suf aget aset strK aggDesc)
theorem rpush_s {Z : Zone} {F : List Asr} {b : Nat} {L : List Vl} {lim : Int} (v : Vl) : SF Try.prog 39 #[.pointer (some ⟨b, 0, none⟩), .agg #[.int .i64 v.kind, .int .i64 v.p, .int .i64 v.q, .string v.str, .int .i64 v.ref]] Z (stkA 68 b L lim :: F) fun r Bs => r = .int .i64 (pushR L lim v).1 ∧ Bs = stkA 68 b (pushR L lim v).2 lim :: F := by
  refine sf_enter Try.func39 30 [(0, .pointer (some ⟨b, 0, none⟩)), (1, .agg #[.int .i64 v.kind, .int .i64 v.p, .int .i64 v.q, .string v.str, .int .i64 v.ref])] (fun w0 => ?_)
  refine k_fact (fun H h => stk_len (h.re [0] [])) (fun hl => ?_)
  obtain ⟨hl1, hl2, hl3⟩ := hl
  refine k_seq ?_
  refine k_reg ?_
  refine s_box #[.int .i64 v.kind, .int .i64 v.p, .int .i64 v.q, .string v.str, .int .i64 v.ref] (fun g4 => ?_)
  refine s_lt (t_pure (.int .i64 0)) ?_
  refine s_nil ?_
  refine xs_then ?_
  refine k_seq ?_
  refine k_seq ?_
  refine k_reg ?_
  refine s_lt (t_pure (.pointer (some ⟨b, 0, none⟩))) ?_
  refine s_lt (t_pure (.bool false)) ?_
  refine s_nil ?_
  refine xs_then ?_
  refine k_false ?_
  refine k_skip ?_
  refine xs_then ?_
  refine k_seq ?_
  refine k_seq ?_
  refine k_reg ?_
  refine s_lt (t_loadA 0 #[.int .i64 v.kind, .int .i64 v.p, .int .i64 v.q, .string v.str, .int .i64 v.ref]) ?_
  refine s_vcall (fun _ h => rvalid_s v) ?_
  rintro _ rfl
  refine s_lt (t_pure (.bool (!(validB v)))) ?_
  refine s_nil ?_
  refine xs_then ?_
  refine k_cond (!(validB v)) (fun c5 => ?_) (fun c5 => ?_)
  ·
    have c6 := not_t c5
    refine k_seq ?_
    refine k_reg ?_
    refine s_lt (t_pure (.int .i64 2)) ?_
    refine s_nil ?_
    refine xs_then ?_
    refine k_ret ?_
    refine xs_ret ?_
    have hp : pushR L lim v = (2, L) := by
      first | (simp [pushR, c6]; done) | (simp [pushR, c6]; omega)
    refine xs_fin [.int .i64 2] (stkA 68 b L lim :: F) (SI.tmp 4 SI.nil) (fun _ h => h.re [1] [1]) ?_
    rw [hp]; exact ⟨rfl, rfl⟩
  ·
    have c7 := not_f c5
    refine k_skip ?_
    refine xs_then ?_
    refine k_seq ?_
    refine k_seq ?_
    refine k_draw ?_
    refine s_lt (t_pure (.pointer (some ⟨b, 0, none⟩))) ?_
    refine s_lt (t_pure (.pointer (some ⟨b, 0, none⟩))) ?_
    refine s_lt (t_pure (.pointer (some ⟨b, 0, none⟩))) ?_
    refine s_memX (fun H h => stk_open (h.re [1] [])) (fun sv8 hw => ?_)
    obtain ⟨hw9, hw10, hw11⟩ := hw
    refine s_lt (t_load 0 sv8) ?_
    refine s_fact (fun H h => ((Acc.own (T := VlT) (L := L) 1 rfl) H h).form) (fun hf12 => ?_)
    refine s_lt (t_len VlT_ok Try.underlying22 (.own 1)) ?_
    refine s_lt (t_pure (.pointer (some ⟨b, 0, none⟩))) ?_
    refine s_lt (t_pure (.pointer (some ⟨b, 0, none⟩))) ?_
    refine s_lt (t_pure (.pointer (some ⟨b, 1, none⟩))) ?_
    refine s_lt (t_load 0 (.int .i64 lim)) ?_
    refine s_lt t_cmp ?_
    refine s_nil ?_
    refine x_dynS (fun _ h => by obtain ⟨_, _, e⟩ := hf12; subst e; kernel_rfl) ?_
    refine xs_then ?_
    refine k_cond (decide (lim ≤ (L.length : Int))) (fun c13 => ?_) (fun c13 => ?_)
    ·
      have p14 := of_decide_eq_true c13
      refine k_seq ?_
      refine k_reg ?_
      refine s_lt (t_pure (.int .i64 17)) ?_
      refine s_nil ?_
      refine xs_then ?_
      refine k_ret ?_
      refine xs_ret ?_
      have hp : pushR L lim v = (17, L) := by
        first | (simp [pushR, c7, p14]; done) | (simp [pushR, c7, p14]; omega)
      refine xs_fin [.int .i64 17] (stkA 68 b L lim :: F) (SI.tmp 4 SI.nil) (fun _ h => stk_shut ⟨by omega, by omega, by (try simp only [List.length_nil, List.length_cons, List.length_append, List.length_take, List.length_drop, List.length_set, List.length_replicate]); omega⟩ (h.re [0, 0] [2])) ?_
      rw [hp]; exact ⟨rfl, rfl⟩
    ·
      have p15 := of_decide_eq_false c13
      refine k_skip ?_
      refine xs_then ?_
      refine k_seq ?_
      refine k_draw ?_
      refine s_lt (t_pure (.pointer (some ⟨b, 0, none⟩))) ?_
      refine s_lt (t_pure (.pointer (some ⟨b, 0, none⟩))) ?_
      refine s_lt (t_pure (.pointer (some ⟨b, 0, none⟩))) ?_
      refine s_lt (t_pure (.pointer (some ⟨b, 0, none⟩))) ?_
      refine s_lt (t_load 0 sv8) ?_
      refine s_lt (t_loadA 2 #[.int .i64 v.kind, .int .i64 v.p, .int .i64 v.q, .string v.str, .int .i64 v.ref]) ?_
      refine s_buildSlice (e := 32) [(0, .agg #[.int .i64 v.kind, .int .i64 v.p, .int .i64 v.q, .string v.str, .int .i64 v.ref])] #[.int .i64 v.kind, .int .i64 v.p, .int .i64 v.q, .string v.str, .int .i64 v.ref] (fun g16 => ?_) (hb := by kernel_rfl)
      refine s_append (L := L) 2 VlT_ok Try.underlying22 (.lit 0 VlT_ok [v]) (by show _ * 48 ≤ _; (try simp only [List.length_nil, List.length_cons, List.length_append, List.length_take, List.length_drop, List.length_set, List.length_replicate]); omega) (by (try simp only [List.length_nil, List.length_cons, List.length_append, List.length_take, List.length_drop, List.length_set, List.length_replicate]); omega) (fun v17 => ?_)
      refine s_lt (t_pure (.pointer (some ⟨b, 0, none⟩))) ?_
      refine s_lt (t_pure (.pointer (some ⟨b, 0, none⟩))) ?_
      refine s_fact (fun H h => ((Acc.own (T := VlT) (L := (L ++ [v])) 2 rfl) H h).form) (fun hf18 => ?_)
      refine s_store (u := v17) (m := 1) 1 #[v17, .int .i64 lim] ?_ (hm := by (obtain ⟨_, _, e⟩ := hf18; rw [e]; rfl)) (h1 := by (obtain ⟨_, _, e⟩ := hf18; rw [e]; rfl)) (ha' := by (obtain ⟨_, _, e⟩ := hf18; rw [e]; rfl))
      refine s_nil ?_
      refine x_dynS (fun _ h => by kernel_rfl) ?_
      refine xs_then ?_
      refine k_seq ?_
      refine k_reg ?_
      refine s_lt (t_pure (.int .i64 0)) ?_
      refine s_nil ?_
      refine xs_then ?_
      refine k_ret ?_
      have hp : pushR L lim v = (0, (L ++ [v])) := by
        first | (simp [pushR, c7, p15]; done) | (simp [pushR, c7, p15]; omega)
      refine xs_fin [.int .i64 0] (stkA 68 b (L ++ [v]) lim :: F) (SI.tmp 4 SI.nil) (fun _ h => stk_shut ⟨by omega, by omega, by (try simp only [List.length_nil, List.length_cons, List.length_append, List.length_take, List.length_drop, List.length_set, List.length_replicate]); omega⟩ (h.re [1, 1] [2, 2])) ?_
      rw [hp]; exact ⟨rfl, rfl⟩
theorem rpush_n {Z : Zone} (v : Vl) : SF Try.prog 39 #[.pointer none, .agg #[.int .i64 v.kind, .int .i64 v.p, .int .i64 v.q, .string v.str, .int .i64 v.ref]] Z [] fun r Bs => r = .int .i64 1 ∧ Bs = [] := by
  refine sf_enter Try.func39 30 [(0, .pointer none), (1, .agg #[.int .i64 v.kind, .int .i64 v.p, .int .i64 v.q, .string v.str, .int .i64 v.ref])] (fun w0 => ?_)
  refine k_seq ?_
  refine k_reg ?_
  refine s_box #[.int .i64 v.kind, .int .i64 v.p, .int .i64 v.q, .string v.str, .int .i64 v.ref] (fun g1 => ?_)
  refine s_lt (t_pure (.int .i64 0)) ?_
  refine s_nil ?_
  refine xs_then ?_
  refine k_seq ?_
  refine k_seq ?_
  refine k_reg ?_
  refine s_lt (t_pure (.pointer none)) ?_
  refine s_lt (t_pure (.bool true)) ?_
  refine s_nil ?_
  refine xs_then ?_
  refine k_true ?_
  refine k_seq ?_
  refine k_reg ?_
  refine s_lt (t_pure (.int .i64 1)) ?_
  refine s_nil ?_
  refine xs_then ?_
  refine k_ret ?_
  refine xs_ret ?_
  refine xs_fin [.int .i64 1] [] (SI.tmp 4 SI.nil) (fun _ h => h.re [] [0]) ⟨?_, rfl⟩
  rfl
theorem rpop_s {Z : Zone} {F : List Asr} {b : Nat} {L : List Vl} {lim : Int} (n : Int) : SF Try.prog 40 #[.pointer (some ⟨b, 0, none⟩), .int .i64 n] Z (stkA 68 b L lim :: F) fun r Bs => r = .int .i64 (popR L n).1 ∧ Bs = stkA 68 b (popR L n).2 lim :: F := by
  refine sf_enter Try.func40 31 [(0, .pointer (some ⟨b, 0, none⟩)), (1, .int .i64 n)] (fun w0 => ?_)
  refine k_fact (fun H h => stk_len (h.re [0] [])) (fun hl => ?_)
  obtain ⟨hl1, hl2, hl3⟩ := hl
  refine k_seq ?_
  refine k_reg ?_
  refine s_lt (t_pure (.int .i64 0)) ?_
  refine s_nil ?_
  refine xs_then ?_
  refine k_seq ?_
  refine k_seq ?_
  refine k_reg ?_
  refine s_lt (t_pure (.pointer (some ⟨b, 0, none⟩))) ?_
  refine s_lt (t_pure (.bool false)) ?_
  refine s_nil ?_
  refine xs_then ?_
  refine k_false ?_
  refine k_skip ?_
  refine xs_then ?_
  refine k_seq ?_
  refine k_seq ?_
  refine k_reg ?_
  refine s_lt (t_pure (.int .i64 n)) ?_
  refine s_lt t_cmp ?_
  refine s_nil ?_
  refine xs_then ?_
  refine k_cond (decide (n < 0)) (fun c4 => ?_) (fun c4 => ?_)
  ·
    have p5 := of_decide_eq_true c4
    refine k_seq ?_
    refine k_reg ?_
    refine s_lt (t_pure (.int .i64 2)) ?_
    refine s_nil ?_
    refine xs_then ?_
    refine k_ret ?_
    refine xs_ret ?_
    have hp : popR L n = (2, L) := by
      first | (simp [popR, p5]; done) | (simp [popR, p5]; omega) | (unfold popR; simp only [p5]; done) | (unfold popR; rw [if_neg (by omega), if_neg (by omega)])
    refine xs_fin [.int .i64 2] (stkA 68 b L lim :: F) (SI.tmp 4 SI.nil) (fun _ h => h.re [0] []) ?_
    rw [hp]; exact ⟨rfl, rfl⟩
  ·
    have p6 := of_decide_eq_false c4
    refine k_skip ?_
    refine xs_then ?_
    refine k_seq ?_
    refine k_seq ?_
    refine k_reg ?_
    refine s_lt (t_pure (.int .i64 n)) ?_
    refine s_lt (t_pure (.pointer (some ⟨b, 0, none⟩))) ?_
    refine s_lt (t_pure (.pointer (some ⟨b, 0, none⟩))) ?_
    refine s_lt (t_pure (.pointer (some ⟨b, 0, none⟩))) ?_
    refine s_memX (fun H h => stk_open (h.re [0] [])) (fun sv7 hw => ?_)
    obtain ⟨hw8, hw9, hw10⟩ := hw
    refine s_lt (t_load 0 sv7) ?_
    refine s_lt (t_len VlT_ok Try.underlying22 (.own 1)) ?_
    refine s_lt t_cmp ?_
    refine s_nil ?_
    refine xs_then ?_
    refine k_cond (decide ((L.length : Int) < n)) (fun c11 => ?_) (fun c11 => ?_)
    ·
      have p12 := of_decide_eq_true c11
      refine k_seq ?_
      refine k_reg ?_
      refine s_lt (t_pure (.int .i64 18)) ?_
      refine s_nil ?_
      refine xs_then ?_
      refine k_ret ?_
      refine xs_ret ?_
      have hp : popR L n = (18, L) := by
        first | (simp [popR, p6, p12]; done) | (simp [popR, p6, p12]; omega) | (unfold popR; simp only [p6, p12]; done) | (unfold popR; rw [if_neg (by omega), if_neg (by omega)])
      refine xs_fin [.int .i64 18] (stkA 68 b L lim :: F) (SI.tmp 4 SI.nil) (fun _ h => stk_shut ⟨by omega, by omega, by (try simp only [List.length_nil, List.length_cons, List.length_append, List.length_take, List.length_drop, List.length_set, List.length_replicate]); omega⟩ (h.re [0, 0] [])) ?_
      rw [hp]; exact ⟨rfl, rfl⟩
    ·
      have p13 := of_decide_eq_false c11
      refine k_skip ?_
      refine xs_then ?_
      refine k_seq ?_
      refine k_draw ?_
      refine s_lt (t_pure (.pointer (some ⟨b, 0, none⟩))) ?_
      refine s_lt (t_pure (.pointer (some ⟨b, 0, none⟩))) ?_
      refine s_lt (t_pure (.pointer (some ⟨b, 0, none⟩))) ?_
      refine s_lt (t_pure (.pointer (some ⟨b, 0, none⟩))) ?_
      refine s_lt (t_load 0 sv7) ?_
      refine s_lt (t_pure (.pointer (some ⟨b, 0, none⟩))) ?_
      refine s_lt (t_pure (.pointer (some ⟨b, 0, none⟩))) ?_
      refine s_lt (t_pure (.pointer (some ⟨b, 0, none⟩))) ?_
      refine s_lt (t_load 0 sv7) ?_
      refine s_fact (fun H h => ((Acc.own (T := VlT) (L := L) 1 rfl) H h).form) (fun hf14 => ?_)
      refine s_lt (t_len VlT_ok Try.underlying22 (.own 1)) ?_
      refine s_lt (t_pure (.int .i64 n)) ?_
      refine s_lt (t_sub (L.length : Int) n (by (try simp only [List.length_nil, List.length_cons, List.length_append, List.length_take, List.length_drop, List.length_set, List.length_replicate]); omega)) ?_
      refine s_lt (t_pre VlT_ok Try.underlying22 (.own 1) ((L.length : Int) - n) ((((L.length : Int) - n)).toNat) (by omega) (by (try simp only [List.length_nil, List.length_cons, List.length_append, List.length_take, List.length_drop, List.length_set, List.length_replicate]); omega) (by omega)) ?_
      refine s_lt (t_pure (.pointer (some ⟨b, 0, none⟩))) ?_
      refine s_lt (t_pure (.pointer (some ⟨b, 0, none⟩))) ?_
      refine s_mem (fun _ h => Holds.pre (i := 1) h VlT_ok ((((L.length : Int) - n)).toNat) rfl (by (try simp only [List.length_nil, List.length_cons, List.length_append, List.length_take, List.length_drop, List.length_set, List.length_replicate]); omega)) ?_
      refine s_fact (fun H h => ((Acc.own (T := VlT) (L := (L.take ((((L.length : Int) - n)).toNat))) 1 rfl) H h).form) (fun hf15 => ?_)
      refine s_store (u := (pre sv7 ((((L.length : Int) - n)).toNat))) (m := 1) 0 #[(pre sv7 ((((L.length : Int) - n)).toNat)), .int .i64 lim] ?_ (hm := by (obtain ⟨_, _, e⟩ := hf15; rw [e]; rfl)) (h1 := by (obtain ⟨_, _, e⟩ := hf15; rw [e]; rfl)) (ha' := by (obtain ⟨_, _, e⟩ := hf15; rw [e]; rfl))
      refine s_nil ?_
      refine x_dynS (fun _ h => by obtain ⟨_, _, e⟩ := hf14; subst e; kernel_rfl) ?_
      refine xs_then ?_
      refine k_seq ?_
      refine k_reg ?_
      refine s_lt (t_pure (.int .i64 0)) ?_
      refine s_nil ?_
      refine xs_then ?_
      refine k_ret ?_
      have hp : popR L n = (0, (L.take ((((L.length : Int) - n)).toNat))) := by
        first | (simp [popR, p6, p13]; done) | (simp [popR, p6, p13]; omega) | (unfold popR; simp only [p6, p13]; done) | (unfold popR; rw [if_neg (by omega), if_neg (by omega)])
      refine xs_fin [.int .i64 0] (stkA 68 b (L.take ((((L.length : Int) - n)).toNat)) lim :: F) (SI.tmp 4 SI.nil) (fun _ h => stk_shut ⟨by omega, by omega, by (try simp only [List.length_nil, List.length_cons, List.length_append, List.length_take, List.length_drop, List.length_set, List.length_replicate]); omega⟩ (h.re [0, 0] [])) ?_
      rw [hp]; exact ⟨rfl, rfl⟩
theorem rpop_n {Z : Zone} (n : Int) : SF Try.prog 40 #[.pointer none, .int .i64 n] Z [] fun r Bs => r = .int .i64 1 ∧ Bs = [] := by
  refine sf_enter Try.func40 31 [(0, .pointer none), (1, .int .i64 n)] (fun w0 => ?_)
  refine k_seq ?_
  refine k_reg ?_
  refine s_lt (t_pure (.int .i64 0)) ?_
  refine s_nil ?_
  refine xs_then ?_
  refine k_seq ?_
  refine k_seq ?_
  refine k_reg ?_
  refine s_lt (t_pure (.pointer none)) ?_
  refine s_lt (t_pure (.bool true)) ?_
  refine s_nil ?_
  refine xs_then ?_
  refine k_true ?_
  refine k_seq ?_
  refine k_reg ?_
  refine s_lt (t_pure (.int .i64 1)) ?_
  refine s_nil ?_
  refine xs_then ?_
  refine k_ret ?_
  refine xs_ret ?_
  refine xs_fin [.int .i64 1] [] (SI.tmp 4 SI.nil) (fun _ h => h.re [] []) ⟨?_, rfl⟩
  rfl
theorem rtop_s {Z : Zone} {F : List Asr} {b : Nat} {L : List Vl} {lim : Int}  : SF Try.prog 28 #[.pointer (some ⟨b, 0, none⟩)] Z (stkA 68 b L lim :: F) fun r Bs => r = .int .i64 (L.length : Int) ∧ Bs = stkA 68 b L lim :: F := by
  refine sf_enter Try.func28 10 [(0, .pointer (some ⟨b, 0, none⟩))] (fun w0 => ?_)
  refine k_fact (fun H h => stk_len (h.re [0] [])) (fun hl => ?_)
  obtain ⟨hl1, hl2, hl3⟩ := hl
  refine k_seq ?_
  refine k_reg ?_
  refine s_lt (t_pure (.int .i64 0)) ?_
  refine s_nil ?_
  refine xs_then ?_
  refine k_seq ?_
  refine k_seq ?_
  refine k_reg ?_
  refine s_lt (t_pure (.pointer (some ⟨b, 0, none⟩))) ?_
  refine s_lt (t_pure (.bool false)) ?_
  refine s_nil ?_
  refine xs_then ?_
  refine k_false ?_
  refine k_skip ?_
  refine xs_then ?_
  refine k_seq ?_
  refine k_reg ?_
  refine s_lt (t_pure (.pointer (some ⟨b, 0, none⟩))) ?_
  refine s_lt (t_pure (.pointer (some ⟨b, 0, none⟩))) ?_
  refine s_lt (t_pure (.pointer (some ⟨b, 0, none⟩))) ?_
  refine s_memX (fun H h => stk_open (h.re [0] [])) (fun sv4 hw => ?_)
  obtain ⟨hw5, hw6, hw7⟩ := hw
  refine s_lt (t_load 0 sv4) ?_
  refine s_lt (t_len VlT_ok Try.underlying22 (.own 1)) ?_
  refine s_lt (t_pure (.int .i64 (L.length : Int))) ?_
  refine s_nil ?_
  refine xs_then ?_
  refine k_ret ?_
  have hp : (L.length : Int) = (L.length : Int) := by
    rfl
  refine xs_fin [.int .i64 (L.length : Int)] (stkA 68 b L lim :: F) (SI.tmp 2 SI.nil) (fun _ h => stk_shut ⟨by omega, by omega, by (try simp only [List.length_nil, List.length_cons, List.length_append, List.length_take, List.length_drop, List.length_set, List.length_replicate]); omega⟩ (h.re [0, 0] [])) ?_
  rw [hp]; exact ⟨rfl, rfl⟩
theorem rtop_n {Z : Zone}  : SF Try.prog 28 #[.pointer none] Z [] fun r Bs => r = .int .i64 0 ∧ Bs = [] := by
  refine sf_enter Try.func28 10 [(0, .pointer none)] (fun w0 => ?_)
  refine k_seq ?_
  refine k_reg ?_
  refine s_lt (t_pure (.int .i64 0)) ?_
  refine s_nil ?_
  refine xs_then ?_
  refine k_seq ?_
  refine k_seq ?_
  refine k_reg ?_
  refine s_lt (t_pure (.pointer none)) ?_
  refine s_lt (t_pure (.bool true)) ?_
  refine s_nil ?_
  refine xs_then ?_
  refine k_true ?_
  refine k_seq ?_
  refine k_reg ?_
  refine s_lt (t_pure (.int .i64 0)) ?_
  refine s_nil ?_
  refine xs_then ?_
  refine k_ret ?_
  refine xs_ret ?_
  refine xs_fin [.int .i64 0] [] (SI.tmp 2 SI.nil) (fun _ h => h.re [] []) ⟨?_, rfl⟩
  rfl
theorem rroom_s {Z : Zone} {F : List Asr} {b : Nat} {L : List Vl} {lim : Int} (n : Int) : SF Try.prog 49 #[.pointer (some ⟨b, 0, none⟩), .int .i64 n] Z (stkA 68 b L lim :: F) fun r Bs => r = .int .i64 (roomR L lim n) ∧ Bs = stkA 68 b L lim :: F := by
  refine sf_enter Try.func49 21 [(0, .pointer (some ⟨b, 0, none⟩)), (1, .int .i64 n)] (fun w0 => ?_)
  refine k_fact (fun H h => stk_len (h.re [0] [])) (fun hl => ?_)
  obtain ⟨hl1, hl2, hl3⟩ := hl
  refine k_seq ?_
  refine k_reg ?_
  refine s_lt (t_pure (.int .i64 0)) ?_
  refine s_nil ?_
  refine xs_then ?_
  refine k_seq ?_
  refine k_seq ?_
  refine k_reg ?_
  refine s_lt (t_pure (.pointer (some ⟨b, 0, none⟩))) ?_
  refine s_lt (t_pure (.bool false)) ?_
  refine s_nil ?_
  refine xs_then ?_
  refine k_false ?_
  refine k_skip ?_
  refine xs_then ?_
  refine k_seq ?_
  refine k_seq ?_
  refine k_reg ?_
  refine s_lt (t_pure (.int .i64 n)) ?_
  refine s_lt t_cmp ?_
  refine s_nil ?_
  refine xs_then ?_
  refine k_cond (decide (n < 0)) (fun c4 => ?_) (fun c4 => ?_)
  ·
    have p5 := of_decide_eq_true c4
    refine k_seq ?_
    refine k_reg ?_
    refine s_lt (t_pure (.int .i64 2)) ?_
    refine s_nil ?_
    refine xs_then ?_
    refine k_ret ?_
    refine xs_ret ?_
    have hp : roomR L lim n = 2 := by
      first | rfl | (simp [roomR, p5]; done) | (simp [roomR, p5]; omega) | (unfold roomR; rw [if_neg (by omega), if_pos (by omega)]) | (unfold roomR; rw [if_neg (by omega), if_neg (by omega)])
    refine xs_fin [.int .i64 2] (stkA 68 b L lim :: F) (SI.tmp 4 SI.nil) (fun _ h => h.re [0] []) ?_
    rw [hp]; exact ⟨rfl, rfl⟩
  ·
    have p6 := of_decide_eq_false c4
    refine k_skip ?_
    refine xs_then ?_
    refine k_seq ?_
    refine k_seq ?_
    refine k_draw ?_
    refine s_lt (t_pure (.int .i64 n)) ?_
    refine s_lt (t_pure (.pointer (some ⟨b, 0, none⟩))) ?_
    refine s_lt (t_pure (.pointer (some ⟨b, 0, none⟩))) ?_
    refine s_lt (t_pure (.pointer (some ⟨b, 1, none⟩))) ?_
    refine s_memX (fun H h => stk_open (h.re [0] [])) (fun sv7 hw => ?_)
    obtain ⟨hw8, hw9, hw10⟩ := hw
    refine s_lt (t_load 0 (.int .i64 lim)) ?_
    refine s_lt (t_pure (.pointer (some ⟨b, 0, none⟩))) ?_
    refine s_lt (t_pure (.pointer (some ⟨b, 0, none⟩))) ?_
    refine s_lt (t_pure (.pointer (some ⟨b, 0, none⟩))) ?_
    refine s_lt (t_load 0 sv7) ?_
    refine s_fact (fun H h => ((Acc.own (T := VlT) (L := L) 1 rfl) H h).form) (fun hf11 => ?_)
    refine s_lt (t_len VlT_ok Try.underlying22 (.own 1)) ?_
    refine s_lt (t_sub lim (L.length : Int) (by (try simp only [List.length_nil, List.length_cons, List.length_append, List.length_take, List.length_drop, List.length_set, List.length_replicate]); omega)) ?_
    refine s_lt t_cmp ?_
    refine s_nil ?_
    refine x_dynS (fun _ h => by obtain ⟨_, _, e⟩ := hf11; subst e; kernel_rfl) ?_
    refine xs_then ?_
    refine k_cond (decide ((lim - (L.length : Int)) < n)) (fun c12 => ?_) (fun c12 => ?_)
    ·
      have p13 := of_decide_eq_true c12
      refine k_seq ?_
      refine k_reg ?_
      refine s_lt (t_pure (.int .i64 17)) ?_
      refine s_nil ?_
      refine xs_then ?_
      refine k_ret ?_
      refine xs_ret ?_
      have hp : roomR L lim n = 17 := by
        first | rfl | (simp [roomR, p6, p13]; done) | (simp [roomR, p6, p13]; omega) | (unfold roomR; rw [if_neg (by omega), if_pos (by omega)]) | (unfold roomR; rw [if_neg (by omega), if_neg (by omega)])
      refine xs_fin [.int .i64 17] (stkA 68 b L lim :: F) (SI.tmp 4 SI.nil) (fun _ h => stk_shut ⟨by omega, by omega, by (try simp only [List.length_nil, List.length_cons, List.length_append, List.length_take, List.length_drop, List.length_set, List.length_replicate]); omega⟩ (h.re [0, 0] [])) ?_
      rw [hp]; exact ⟨rfl, rfl⟩
    ·
      have p14 := of_decide_eq_false c12
      refine k_skip ?_
      refine xs_then ?_
      refine k_seq ?_
      refine k_reg ?_
      refine s_lt (t_pure (.int .i64 0)) ?_
      refine s_nil ?_
      refine xs_then ?_
      refine k_ret ?_
      have hp : roomR L lim n = 0 := by
        first | rfl | (simp [roomR, p6, p14]; done) | (simp [roomR, p6, p14]; omega) | (unfold roomR; rw [if_neg (by omega), if_pos (by omega)]) | (unfold roomR; rw [if_neg (by omega), if_neg (by omega)])
      refine xs_fin [.int .i64 0] (stkA 68 b L lim :: F) (SI.tmp 4 SI.nil) (fun _ h => stk_shut ⟨by omega, by omega, by (try simp only [List.length_nil, List.length_cons, List.length_append, List.length_take, List.length_drop, List.length_set, List.length_replicate]); omega⟩ (h.re [0, 0] [])) ?_
      rw [hp]; exact ⟨rfl, rfl⟩
theorem rroom_n {Z : Zone} (n : Int) : SF Try.prog 49 #[.pointer none, .int .i64 n] Z [] fun r Bs => r = .int .i64 1 ∧ Bs = [] := by
  refine sf_enter Try.func49 21 [(0, .pointer none), (1, .int .i64 n)] (fun w0 => ?_)
  refine k_seq ?_
  refine k_reg ?_
  refine s_lt (t_pure (.int .i64 0)) ?_
  refine s_nil ?_
  refine xs_then ?_
  refine k_seq ?_
  refine k_seq ?_
  refine k_reg ?_
  refine s_lt (t_pure (.pointer none)) ?_
  refine s_lt (t_pure (.bool true)) ?_
  refine s_nil ?_
  refine xs_then ?_
  refine k_true ?_
  refine k_seq ?_
  refine k_reg ?_
  refine s_lt (t_pure (.int .i64 1)) ?_
  refine s_nil ?_
  refine xs_then ?_
  refine k_ret ?_
  refine xs_ret ?_
  refine xs_fin [.int .i64 1] [] (SI.tmp 4 SI.nil) (fun _ h => h.re [] []) ⟨?_, rfl⟩
  rfl
theorem rlist_s {Z : Zone} {F : List Asr} {b : Nat} {L : List Vl} {lim : Int} : SF Try.prog 29 #[.pointer (some ⟨b, 0, none⟩)] Z (stkA 68 b L lim :: F) fun r Bs => Bs = own VlT r L :: stkA 68 b L lim :: F := by
  refine sf_enter Try.func29 11 [(0, .pointer (some ⟨b, 0, none⟩))] (fun w0 => ?_)
  refine k_fact (fun H h => stk_len (h.re [0] [])) (fun hl => ?_)
  obtain ⟨hl1, hl2, hl3⟩ := hl
  refine k_seq ?_
  refine k_reg ?_
  refine s_lt (t_pure (.slice none 0 0)) ?_
  refine s_nil ?_
  refine xs_then ?_
  refine k_seq ?_
  refine k_seq ?_
  refine k_reg ?_
  refine s_lt (t_pure (.pointer (some ⟨b, 0, none⟩))) ?_
  refine s_lt (t_pure (.bool false)) ?_
  refine s_nil ?_
  refine xs_then ?_
  refine k_false ?_
  refine k_skip ?_
  refine xs_then ?_
  refine k_seq ?_
  refine k_reg ?_
  refine s_buildSlice (e := 32) [] #[] (fun g4 => ?_) (hb := by kernel_rfl)
  refine s_lt (t_pure (.pointer (some ⟨b, 0, none⟩))) ?_
  refine s_lt (t_pure (.pointer (some ⟨b, 0, none⟩))) ?_
  refine s_lt (t_pure (.pointer (some ⟨b, 0, none⟩))) ?_
  refine s_memX (fun H h => stk_open (h.re [1] [])) (fun sv5 hw => ?_)
  obtain ⟨hw6, hw7, hw8⟩ := hw
  refine s_lt (t_load 0 sv5) ?_
  refine s_mem (fun _ h => Holds.slice 2 h VlT_ok []) ?_
  refine s_append (L := []) 2 VlT_ok Try.underlying22 (.own 1) (by show _ * 48 ≤ _; (try simp only [List.length_nil, List.length_cons, List.length_append, List.length_take, List.length_drop, List.length_set, List.length_replicate]); omega) (by (try simp only [List.length_nil, List.length_cons, List.length_append, List.length_take, List.length_drop, List.length_set, List.length_replicate]); omega) (fun v9 => ?_)
  refine s_lt (t_pure v9) ?_
  refine s_nil ?_
  refine xs_then ?_
  refine k_ret ?_
  refine xs_mem (fun _ h => stk_shut ⟨by omega, by omega, by (try simp only [List.length_nil, List.length_cons, List.length_append, List.length_take, List.length_drop, List.length_set, List.length_replicate]); omega⟩ (h.re [0, 0] [])) ?_
  exact xs_fin [v9] (own VlT v9 L :: stkA 68 b L lim :: F) (SI.tmp 2 SI.nil) (fun _ h => h.re [1, 0] []) rfl
theorem rlist_n {Z : Zone} : SF Try.prog 29 #[.pointer none] Z [] fun r Bs => Bs = [own VlT r []] := by
  refine sf_enter Try.func29 11 [(0, .pointer none)] (fun w0 => ?_)
  refine k_seq ?_
  refine k_reg ?_
  refine s_lt (t_pure (.slice none 0 0)) ?_
  refine s_nil ?_
  refine xs_then ?_
  refine k_seq ?_
  refine k_seq ?_
  refine k_reg ?_
  refine s_lt (t_pure (.pointer none)) ?_
  refine s_lt (t_pure (.bool true)) ?_
  refine s_nil ?_
  refine xs_then ?_
  refine k_true ?_
  refine k_seq ?_
  refine k_reg ?_
  refine s_lt (t_pure (.slice none 0 0)) ?_
  refine s_nil ?_
  refine xs_then ?_
  refine k_ret ?_
  refine xs_ret ?_
  exact xs_fin [.slice none 0 0] [own VlT (.slice none 0 0) []] (SI.tmp 2 SI.nil) (fun _ h => h.nilS) rfl
theorem rnew_s {Z : Zone} (n : Int) : SF Try.prog 24 #[.int .i64 n] Z [] fun r Bs => (¬ (1 ≤ n ∧ n ≤ 1000) ∧ r = .tuple #[.pointer none, .int .i64 2] ∧ Bs = []) ∨ ∃ b, 1 ≤ n ∧ n ≤ 1000 ∧ r = .tuple #[.pointer (some ⟨b, 0, none⟩), .int .i64 0] ∧ Bs = [stkA 68 b [] n] := by
  refine sf_enter Try.func24 13 [(0, .int .i64 n)] (fun w0 => ?_)
  refine k_seq ?_
  refine k_reg ?_
  refine s_lt (t_pure (.pointer none)) ?_
  refine s_lt (t_pure (.int .i64 0)) ?_
  refine s_nil ?_
  refine xs_then ?_
  refine k_seq ?_
  refine k_cut (ι := Unit) (fun _ => True) (fun _ => [(0, .int .i64 n), (2, .pointer none), (3, .int .i64 0), (9, .bool ((decide (n < 1)) || (decide ((1000 : Int) < n))))]) (fun _ => []) ?_ (fun _ _ => ?_)
  ·
    refine k_reg ?_
    refine s_lt (t_pure (.int .i64 n)) ?_
    refine s_lt t_cmp ?_
    refine s_lt (t_pure (.bool (decide (n < 1)))) ?_
    refine s_fork 6 (decide (n < 1)) (fun c1 => ?_) (fun c1 => ?_)
    ·
      have p2 := of_decide_eq_true c1
      refine s_skip ?_
      refine s_skip ?_
      refine s_lt (t_pure (.bool true)) ?_
      refine s_nil ?_
      exact xs_cut () trivial (sub_of rfl ⟨⟨rfl, rfl⟩, ⟨⟨rfl, rfl⟩, ⟨⟨rfl, rfl⟩, ⟨⟨rfl, show Value.bool true = Value.bool ((decide (n < 1)) || (decide ((1000 : Int) < n))) by first | (simp only [c1, Bool.true_and, Bool.false_and, Bool.and_true, Bool.and_false, Bool.true_or, Bool.or_true, Bool.false_or, Bool.or_false, Bool.not_true, Bool.not_false]; done) | simp [c1]⟩, trivial⟩⟩⟩⟩) (fun _ h => h.re [] [])
    ·
      have p3 := of_decide_eq_false c1
      refine s_lt (t_pure (.int .i64 n)) ?_
      refine s_lt t_cmp ?_
      refine s_lt (t_pure (.bool (decide ((1000 : Int) < n)))) ?_
      refine s_nil ?_
      exact xs_cut () trivial (sub_of rfl ⟨⟨rfl, rfl⟩, ⟨⟨rfl, rfl⟩, ⟨⟨rfl, rfl⟩, ⟨⟨rfl, show Value.bool (decide ((1000 : Int) < n)) = Value.bool ((decide (n < 1)) || (decide ((1000 : Int) < n))) by first | (simp only [c1, Bool.true_and, Bool.false_and, Bool.and_true, Bool.and_false, Bool.true_or, Bool.or_true, Bool.false_or, Bool.or_false, Bool.not_true, Bool.not_false]; done) | simp [c1]⟩, trivial⟩⟩⟩⟩) (fun _ h => h.re [] [])
  ·
    refine k_cond ((decide (n < 1)) || (decide ((1000 : Int) < n))) (fun c4 => ?_) (fun c4 => ?_)
    ·
      have p5 := c4
      simp only [Bool.and_eq_true, Bool.or_eq_true, Bool.and_eq_false_iff, Bool.or_eq_false_iff, Bool.not_eq_true', Bool.not_eq_false', decide_eq_true_eq, decide_eq_false_iff_not] at p5
      refine k_seq ?_
      refine k_reg ?_
      refine s_lt (t_pure (.pointer none)) ?_
      refine s_lt (t_pure (.int .i64 2)) ?_
      refine s_nil ?_
      refine xs_then ?_
      refine k_ret ?_
      refine xs_ret ?_
      exact xs_fin [.pointer none, .int .i64 2] [] (SI.tmp 2 (SI.tmp 3 SI.nil)) (fun _ h => h.re [] []) (.inl ⟨by omega, rfl, rfl⟩)
    ·
      obtain ⟨c6, c7⟩ := or_f c4
      have p8 := of_decide_eq_false c6
      have p9 := of_decide_eq_false c7
      refine k_skip ?_
      refine xs_then ?_
      refine k_seq ?_
      refine k_reg ?_
      refine s_lt (t_pure (.int .i64 n)) ?_
      refine s_lt (t_kern (.agg #[(.slice none 0 0), .int .i64 n])) ?_
      refine s_box #[(.slice none 0 0), .int .i64 n] (fun g10 => ?_)
      refine s_lt (t_pure (.pointer (some ⟨g10, 0, none⟩))) ?_
      refine s_lt (t_pure (.int .i64 0)) ?_
      refine s_nil ?_
      refine xs_then ?_
      refine k_ret ?_
      exact xs_fin [.pointer (some ⟨g10, 0, none⟩), .int .i64 0] [stkA 68 g10 [] n] (SI.tmp 2 (SI.tmp 3 SI.nil)) (fun _ h => stk_shut ⟨by omega, by omega, by simp; omega⟩ (h.nilS.re [1, 0] [])) (.inr ⟨g10, by omega, by omega, rfl, rfl⟩)
theorem rsetTop_s {Z : Zone} {F : List Asr} {b : Nat} {L : List Vl} {lim : Int} (n : Int) : SF Try.prog 41 #[.pointer (some ⟨b, 0, none⟩), .int .i64 n] Z (stkA 68 b L lim :: F) fun r Bs => r = .int .i64 (setTopR L lim n).1 ∧ Bs = stkA 68 b (setTopR L lim n).2 lim :: F := by
  refine sf_enter Try.func41 43 [(0, .pointer (some ⟨b, 0, none⟩)), (1, .int .i64 n)] (fun w0 => ?_)
  refine k_fact (fun H h => stk_len (h.re [0] [])) (fun hl => ?_)
  obtain ⟨hl1, hl2, hl3⟩ := hl
  refine k_seq ?_
  refine k_reg ?_
  refine s_lt (t_pure (.int .i64 0)) ?_
  refine s_nil ?_
  refine xs_then ?_
  refine k_seq ?_
  refine k_seq ?_
  refine k_reg ?_
  refine s_lt (t_pure (.pointer (some ⟨b, 0, none⟩))) ?_
  refine s_lt (t_pure (.bool false)) ?_
  refine s_nil ?_
  refine xs_then ?_
  refine k_false ?_
  refine k_skip ?_
  refine xs_then ?_
  refine k_seq ?_
  refine k_seq ?_
  refine k_reg ?_
  refine s_lt (t_pure (.int .i64 n)) ?_
  refine s_lt t_cmp ?_
  refine s_lt (t_pure (.bool (decide (n < 0)))) ?_
  refine s_fork 9 (decide (n < 0)) (fun c4 => ?_) (fun c4 => ?_)
  ·
    have p5 := of_decide_eq_true c4
    refine s_skip ?_
    refine s_skip ?_
    refine s_skip ?_
    refine s_skip ?_
    refine s_skip ?_
    refine s_skip ?_
    refine s_lt (t_pure (.bool true)) ?_
    refine s_nil ?_
    refine xs_then ?_
    refine k_true ?_
    refine k_seq ?_
    refine k_reg ?_
    refine s_lt (t_pure (.int .i64 6)) ?_
    refine s_nil ?_
    refine xs_then ?_
    refine k_ret ?_
    refine xs_ret ?_
    have hp : setTopR L lim n = (6, L) := by
      unfold setTopR; rw [if_pos (by omega)]
    refine xs_fin [.int .i64 6] (stkA 68 b L lim :: F) (SI.tmp 4 SI.nil) (fun _ h => h.re [0] []) ?_
    rw [hp]; exact ⟨rfl, rfl⟩
  ·
    have p6 := of_decide_eq_false c4
    refine s_lt (t_pure (.int .i64 n)) ?_
    refine s_lt (t_pure (.pointer (some ⟨b, 0, none⟩))) ?_
    refine s_lt (t_pure (.pointer (some ⟨b, 0, none⟩))) ?_
    refine s_lt (t_pure (.pointer (some ⟨b, 1, none⟩))) ?_
    refine s_memX (fun H h => stk_open (h.re [0] [])) (fun sv7 hw => ?_)
    obtain ⟨hw8, hw9, hw10⟩ := hw
    refine s_lt (t_load 0 (.int .i64 lim)) ?_
    refine s_lt t_cmp ?_
    refine s_lt (t_pure (.bool (decide (lim < n)))) ?_
    refine s_nil ?_
    refine xs_then ?_
    refine k_cond (decide (lim < n)) (fun c11 => ?_) (fun c11 => ?_)
    ·
      have p12 := of_decide_eq_true c11
      refine k_seq ?_
      refine k_reg ?_
      refine s_lt (t_pure (.int .i64 6)) ?_
      refine s_nil ?_
      refine xs_then ?_
      refine k_ret ?_
      refine xs_ret ?_
      have hp : setTopR L lim n = (6, L) := by
        unfold setTopR; rw [if_pos (by omega)]
      refine xs_fin [.int .i64 6] (stkA 68 b L lim :: F) (SI.tmp 4 SI.nil) (fun _ h => stk_shut ⟨by omega, by omega, by (try simp only [List.length_nil, List.length_cons, List.length_append, List.length_take, List.length_drop, List.length_set, List.length_replicate]); omega⟩ (h.re [0, 0] [])) ?_
      rw [hp]; exact ⟨rfl, rfl⟩
    ·
      have p13 := of_decide_eq_false c11
      refine k_skip ?_
      refine xs_then ?_
      refine k_seq ?_
      refine k_block ?_
      have e0 : L = L ++ List.replicate 0 zVl := by simp
      refine k_loop (ι := Value × Nat) (fun (sx, t) => ((L.length + t : Nat) : Int) ≤ lim ∧ (t = 0 ∨ ((L.length + t : Nat) : Int) ≤ n)) (fun (sx, t) => [(0, .pointer (some ⟨b, 0, none⟩)), (1, .int .i64 n), (4, .int .i64 0)]) (fun (sx, t) => blkA b #[sx, .int .i64 lim] 68 :: own VlT sx (L ++ List.replicate t zVl) :: F) (fun (sx, t) => n.toNat - (L.length + t)) (sv7, 0) (by show ((L.length + 0 : Nat) : Int) ≤ lim ∧ (0 = 0 ∨ _); exact ⟨by omega, .inl rfl⟩) (sub_of rfl ⟨⟨rfl, rfl⟩, ⟨⟨rfl, rfl⟩, ⟨⟨rfl, rfl⟩, trivial⟩⟩⟩) (fun _ h => by show Holds _ (_ :: own VlT _ (L ++ List.replicate 0 zVl) :: F) _; rw [← e0]; exact h.re [0, 0] []) ?_
      rintro ⟨sx, t⟩ hi14
      replace hi14 : ((L.length + t : Nat) : Int) ≤ lim ∧ (t = 0 ∨ ((L.length + t : Nat) : Int) ≤ n) := hi14
      show SK _ _ _ _ _ [(0, .pointer (some ⟨b, 0, none⟩)), (1, .int .i64 n), (4, .int .i64 0)] _ (blkA b #[sx, .int .i64 lim] 68 :: own VlT sx (L ++ List.replicate t zVl) :: F)
      have hlt : (L ++ List.replicate t zVl).length = L.length + t := by simp
      refine k_seq ?_
      refine k_seq ?_
      refine k_reg ?_
      refine s_lt (t_pure (.pointer (some ⟨b, 0, none⟩))) ?_
      refine s_lt (t_pure (.pointer (some ⟨b, 0, none⟩))) ?_
      refine s_lt (t_pure (.pointer (some ⟨b, 0, none⟩))) ?_
      refine s_lt (t_load 0 sx) ?_
      refine s_lt (t_len VlT_ok Try.underlying22 (.own 1)) ?_
      refine s_lt (t_pure (.int .i64 n)) ?_
      refine s_lt t_cmp ?_
      refine s_nil ?_
      refine xs_then ?_
      refine k_cond (decide (((L ++ List.replicate t zVl).length : Int) < n)) (fun c15 => ?_) (fun c15 => ?_)
      ·
        have p16 := of_decide_eq_true c15
        refine k_skip ?_
        refine xs_then ?_
        refine k_block ?_
        refine k_reg ?_
        refine s_lt (t_pure (.pointer (some ⟨b, 0, none⟩))) ?_
        refine s_lt (t_pure (.pointer (some ⟨b, 0, none⟩))) ?_
        refine s_lt (t_pure (.pointer (some ⟨b, 0, none⟩))) ?_
        refine s_lt (t_pure (.pointer (some ⟨b, 0, none⟩))) ?_
        refine s_lt (t_load 0 sx) ?_
        refine s_lt (t_kern (.agg #[.int .i64 0, .int .i64 0, .int .i64 0, .string ByteArray.empty, .int .i64 0])) ?_
        refine s_buildSlice (e := 32) [(0, .agg #[.int .i64 0, .int .i64 0, .int .i64 0, .string ByteArray.empty, .int .i64 0])] #[.int .i64 0, .int .i64 0, .int .i64 0, .string ByteArray.empty, .int .i64 0] (fun g17 => ?_) (hb := by kernel_rfl)
        refine s_append (L := (L ++ List.replicate t zVl)) 2 VlT_ok Try.underlying22 (.lit 0 VlT_ok [(⟨0, 0, 0, ByteArray.empty, 0⟩ : Vl)]) (by show _ * 48 ≤ _; (try simp only [List.length_nil, List.length_cons, List.length_append, List.length_take, List.length_drop, List.length_set, List.length_replicate]); omega) (by (try simp only [List.length_nil, List.length_cons, List.length_append, List.length_take, List.length_drop, List.length_set, List.length_replicate]); omega) (fun v18 => ?_)
        refine s_lt (t_pure (.pointer (some ⟨b, 0, none⟩))) ?_
        refine s_lt (t_pure (.pointer (some ⟨b, 0, none⟩))) ?_
        refine s_fact (fun H h => ((Acc.own (T := VlT) (L := ((L ++ List.replicate t zVl) ++ [(⟨0, 0, 0, ByteArray.empty, 0⟩ : Vl)])) 2 rfl) H h).form) (fun hf19 => ?_)
        refine s_store (u := v18) (m := 1) 1 #[v18, .int .i64 lim] ?_ (hm := by (obtain ⟨_, _, e⟩ := hf19; rw [e]; rfl)) (h1 := by (obtain ⟨_, _, e⟩ := hf19; rw [e]; rfl)) (ha' := by (obtain ⟨_, _, e⟩ := hf19; rw [e]; rfl))
        refine s_nil ?_
        refine xs_block ?_
        exact xs_round (v18, t + 1) (by show n.toNat - (L.length + (t + 1)) < n.toNat - (L.length + t); omega) (by show ((L.length + (t + 1) : Nat) : Int) ≤ lim ∧ (t + 1 = 0 ∨ ((L.length + (t + 1) : Nat) : Int) ≤ n); omega) (sub_of rfl ⟨⟨rfl, rfl⟩, ⟨⟨rfl, rfl⟩, ⟨⟨rfl, rfl⟩, trivial⟩⟩⟩) (fun _ h => by show Holds _ (_ :: own VlT _ (L ++ List.replicate (t + 1) zVl) :: F) _; rw [← rep_succ]; exact h.re [1, 1] [2])
      ·
        have p20 := of_decide_eq_false c15
        refine k_exit ?_
        refine xs_exit ?_
        refine xs_exit ?_
        refine xs_here ?_
        refine xs_then ?_
        refine k_seq ?_
        refine k_reg ?_
        refine s_lt (t_pure (.pointer (some ⟨b, 0, none⟩))) ?_
        refine s_lt (t_pure (.pointer (some ⟨b, 0, none⟩))) ?_
        refine s_lt (t_pure (.pointer (some ⟨b, 0, none⟩))) ?_
        refine s_lt (t_pure (.pointer (some ⟨b, 0, none⟩))) ?_
        refine s_lt (t_load 0 sx) ?_
        refine s_lt (t_pure (.int .i64 n)) ?_
        refine s_lt (t_pre VlT_ok Try.underlying22 (.own 1) n ((n).toNat) (by omega) (by (try simp only [List.length_nil, List.length_cons, List.length_append, List.length_take, List.length_drop, List.length_set, List.length_replicate]); omega) (by omega)) ?_
        refine s_lt (t_pure (.pointer (some ⟨b, 0, none⟩))) ?_
        refine s_lt (t_pure (.pointer (some ⟨b, 0, none⟩))) ?_
        refine s_mem (fun _ h => Holds.pre (i := 1) h VlT_ok ((n).toNat) rfl (by (try simp only [List.length_nil, List.length_cons, List.length_append, List.length_take, List.length_drop, List.length_set, List.length_replicate]); omega)) ?_
        refine s_fact (fun H h => ((Acc.own (T := VlT) (L := ((L ++ List.replicate t zVl).take ((n).toNat))) 1 rfl) H h).form) (fun hf21 => ?_)
        refine s_store (u := (pre sx ((n).toNat))) (m := 1) 0 #[(pre sx ((n).toNat)), .int .i64 lim] ?_ (hm := by (obtain ⟨_, _, e⟩ := hf21; rw [e]; rfl)) (h1 := by (obtain ⟨_, _, e⟩ := hf21; rw [e]; rfl)) (ha' := by (obtain ⟨_, _, e⟩ := hf21; rw [e]; rfl))
        refine s_nil ?_
        refine xs_then ?_
        refine k_seq ?_
        refine k_reg ?_
        refine s_lt (t_pure (.int .i64 0)) ?_
        refine s_nil ?_
        refine xs_then ?_
        refine k_ret ?_
        have hp : setTopR L lim n = (0, ((L ++ List.replicate t zVl).take ((n).toNat))) := by
          unfold setTopR; rw [if_neg (by omega)]; split <;> rename_i hx
          · rw [List.take_append_of_le_length (by omega)]
          · rw [List.take_of_length_le (by simp; omega), show n.toNat - L.length = t by omega]
        refine xs_fin [.int .i64 0] (stkA 68 b ((L ++ List.replicate t zVl).take ((n).toNat)) lim :: F) (SI.tmp 4 SI.nil) (fun _ h => stk_shut ⟨by omega, by omega, by (try simp only [List.length_nil, List.length_cons, List.length_append, List.length_take, List.length_drop, List.length_set, List.length_replicate]); omega⟩ (h.re [0, 0] [])) ?_
        rw [hp]; exact ⟨rfl, rfl⟩
theorem rsetTop_n {Z : Zone} (n : Int) : SF Try.prog 41 #[.pointer none, .int .i64 n] Z [] fun r Bs => r = .int .i64 1 ∧ Bs = [] := by
  refine sf_enter Try.func41 43 [(0, .pointer none), (1, .int .i64 n)] (fun w0 => ?_)
  refine k_seq ?_
  refine k_reg ?_
  refine s_lt (t_pure (.int .i64 0)) ?_
  refine s_nil ?_
  refine xs_then ?_
  refine k_seq ?_
  refine k_seq ?_
  refine k_reg ?_
  refine s_lt (t_pure (.pointer none)) ?_
  refine s_lt (t_pure (.bool true)) ?_
  refine s_nil ?_
  refine xs_then ?_
  refine k_true ?_
  refine k_seq ?_
  refine k_reg ?_
  refine s_lt (t_pure (.int .i64 1)) ?_
  refine s_nil ?_
  refine xs_then ?_
  refine k_ret ?_
  refine xs_ret ?_
  refine xs_fin [.int .i64 1] [] (SI.tmp 4 SI.nil) (fun _ h => h.re [] []) ⟨?_, rfl⟩
  rfl
theorem rab_s {Z : Zone} {F : List Asr} {b : Nat} {L : List Vl} {lim : Int} (i : Int) : SF Try.prog 42 #[.pointer (some ⟨b, 0, none⟩), .int .i64 i] Z (stkA 68 b L lim :: F) fun r Bs => r = .tuple #[.int .i64 (absR L i).1, .int .i64 (absR L i).2] ∧ Bs = stkA 68 b L lim :: F := by
  refine sf_enter Try.func42 34 [(0, .pointer (some ⟨b, 0, none⟩)), (1, .int .i64 i)] (fun w0 => ?_)
  refine k_fact (fun H h => stk_len (h.re [0] [])) (fun hl => ?_)
  obtain ⟨hl1, hl2, hl3⟩ := hl
  refine k_seq ?_
  refine k_reg ?_
  refine s_lt (t_pure (.int .i64 0)) ?_
  refine s_lt (t_pure (.int .i64 0)) ?_
  refine s_nil ?_
  refine xs_then ?_
  refine k_seq ?_
  refine k_seq ?_
  refine k_reg ?_
  refine s_lt (t_pure (.pointer (some ⟨b, 0, none⟩))) ?_
  refine s_lt (t_pure (.bool false)) ?_
  refine s_nil ?_
  refine xs_then ?_
  refine k_false ?_
  refine k_skip ?_
  refine xs_then ?_
  refine k_seq ?_
  refine k_reg ?_
  refine s_lt (t_pure (.pointer (some ⟨b, 0, none⟩))) ?_
  refine s_lt (t_pure (.pointer (some ⟨b, 0, none⟩))) ?_
  refine s_lt (t_pure (.pointer (some ⟨b, 0, none⟩))) ?_
  refine s_memX (fun H h => stk_open (h.re [0] [])) (fun sv4 hw => ?_)
  obtain ⟨hw5, hw6, hw7⟩ := hw
  refine s_lt (t_load 0 sv4) ?_
  refine s_lt (t_len VlT_ok Try.underlying22 (.own 1)) ?_
  refine s_lt (t_pure (.int .i64 (L.length : Int))) ?_
  refine s_nil ?_
  refine xs_then ?_
  refine k_seq ?_
  refine k_cut (ι := Unit) (fun _ => True) (fun _ => [(1, .int .i64 i), (4, .int .i64 0), (5, .int .i64 0), (6, .int .i64 (L.length : Int)), (20, .bool ((decide ((1 : Int) ≤ i)) && (decide (i ≤ (L.length : Int)))))]) (fun _ => blkA b #[sv4, .int .i64 lim] 68 :: own VlT sv4 L :: F) ?_ (fun _ _ => ?_)
  ·
    refine k_reg ?_
    refine s_lt (t_pure (.int .i64 i)) ?_
    refine s_lt t_cmp ?_
    refine s_lt (t_pure (.bool (decide ((1 : Int) ≤ i)))) ?_
    refine s_fork 16 (decide ((1 : Int) ≤ i)) (fun c8 => ?_) (fun c8 => ?_)
    ·
      have p9 := of_decide_eq_true c8
      refine s_lt (t_pure (.int .i64 i)) ?_
      refine s_lt (t_pure (.int .i64 (L.length : Int))) ?_
      refine s_lt t_cmp ?_
      refine s_lt (t_pure (.bool (decide (i ≤ (L.length : Int))))) ?_
      refine s_nil ?_
      exact xs_cut () trivial (sub_of rfl ⟨⟨rfl, rfl⟩, ⟨⟨rfl, rfl⟩, ⟨⟨rfl, rfl⟩, ⟨⟨rfl, rfl⟩, ⟨⟨rfl, show Value.bool (decide (i ≤ (L.length : Int))) = Value.bool ((decide ((1 : Int) ≤ i)) && (decide (i ≤ (L.length : Int)))) by first | (simp only [c8, Bool.true_and, Bool.false_and, Bool.and_true, Bool.and_false, Bool.true_or, Bool.or_true, Bool.false_or, Bool.or_false, Bool.not_true, Bool.not_false]; done) | simp [c8]⟩, trivial⟩⟩⟩⟩⟩) (fun _ h => h.re [0, 0] [])
    ·
      have p10 := of_decide_eq_false c8
      refine s_skip ?_
      refine s_skip ?_
      refine s_skip ?_
      refine s_lt (t_pure (.bool false)) ?_
      refine s_nil ?_
      exact xs_cut () trivial (sub_of rfl ⟨⟨rfl, rfl⟩, ⟨⟨rfl, rfl⟩, ⟨⟨rfl, rfl⟩, ⟨⟨rfl, rfl⟩, ⟨⟨rfl, show Value.bool false = Value.bool ((decide ((1 : Int) ≤ i)) && (decide (i ≤ (L.length : Int)))) by first | (simp only [c8, Bool.true_and, Bool.false_and, Bool.and_true, Bool.and_false, Bool.true_or, Bool.or_true, Bool.false_or, Bool.or_false, Bool.not_true, Bool.not_false]; done) | simp [c8]⟩, trivial⟩⟩⟩⟩⟩) (fun _ h => h.re [0, 0] [])
  ·
    refine k_cond ((decide ((1 : Int) ≤ i)) && (decide (i ≤ (L.length : Int)))) (fun c11 => ?_) (fun c11 => ?_)
    ·
      obtain ⟨c12, c13⟩ := and_t c11
      have p14 := of_decide_eq_true c12
      have p15 := of_decide_eq_true c13
      refine k_seq ?_
      refine k_reg ?_
      refine s_lt (t_pure (.int .i64 i)) ?_
      refine s_lt (t_pure (.int .i64 i)) ?_
      refine s_lt (t_pure (.int .i64 0)) ?_
      refine s_nil ?_
      refine xs_then ?_
      refine k_ret ?_
      refine xs_ret ?_
      have hp : absR L i = (i, 0) := by
        first | exact abs_pos (by omega) (by omega) | exact abs_neg (by omega) (by omega) (by omega) | exact abs_none (by omega) (by omega)
      refine xs_fin [.int .i64 i, .int .i64 0] (stkA 68 b L lim :: F) (SI.tmp 4 (SI.tmp 5 SI.nil)) (fun _ h => stk_shut ⟨by omega, by omega, by (try simp only [List.length_nil, List.length_cons, List.length_append, List.length_take, List.length_drop, List.length_set, List.length_replicate]); omega⟩ (h.re [0, 0] [])) ?_
      rw [hp]; exact ⟨rfl, rfl⟩
    ·
      have p16 := c11
      simp only [Bool.and_eq_true, Bool.or_eq_true, Bool.and_eq_false_iff, Bool.or_eq_false_iff, Bool.not_eq_true', Bool.not_eq_false', decide_eq_true_eq, decide_eq_false_iff_not] at p16
      refine k_skip ?_
      refine xs_then ?_
      refine k_seq ?_
      refine k_cut (ι := Unit) (fun _ => True) (fun _ => [(1, .int .i64 i), (4, .int .i64 0), (5, .int .i64 0), (6, .int .i64 (L.length : Int)), (29, .bool ((decide (i ≤ (-1))) && (decide ((-(L.length : Int)) ≤ i))))]) (fun _ => blkA b #[sv4, .int .i64 lim] 68 :: own VlT sv4 L :: F) ?_ (fun _ _ => ?_)
      ·
        refine k_reg ?_
        refine s_lt (t_pure (.int .i64 i)) ?_
        refine s_lt t_cmp ?_
        refine s_lt (t_pure (.bool (decide (i ≤ (-1))))) ?_
        refine s_fork 24 (decide (i ≤ (-1))) (fun c17 => ?_) (fun c17 => ?_)
        ·
          have p18 := of_decide_eq_true c17
          refine s_lt (t_pure (.int .i64 i)) ?_
          refine s_lt (t_pure (.int .i64 (L.length : Int))) ?_
          refine s_lt (t_neg (L.length : Int) (by omega)) ?_
          refine s_lt t_cmp ?_
          refine s_lt (t_pure (.bool (decide ((-(L.length : Int)) ≤ i)))) ?_
          refine s_nil ?_
          exact xs_cut () trivial (sub_of rfl ⟨⟨rfl, rfl⟩, ⟨⟨rfl, rfl⟩, ⟨⟨rfl, rfl⟩, ⟨⟨rfl, rfl⟩, ⟨⟨rfl, show Value.bool (decide ((-(L.length : Int)) ≤ i)) = Value.bool ((decide (i ≤ (-1))) && (decide ((-(L.length : Int)) ≤ i))) by first | (simp only [c17, Bool.true_and, Bool.false_and, Bool.and_true, Bool.and_false, Bool.true_or, Bool.or_true, Bool.false_or, Bool.or_false, Bool.not_true, Bool.not_false]; done) | simp [c17]⟩, trivial⟩⟩⟩⟩⟩) (fun _ h => h.re [0, 0] [])
        ·
          have p19 := of_decide_eq_false c17
          refine s_skip ?_
          refine s_skip ?_
          refine s_skip ?_
          refine s_skip ?_
          refine s_lt (t_pure (.bool false)) ?_
          refine s_nil ?_
          exact xs_cut () trivial (sub_of rfl ⟨⟨rfl, rfl⟩, ⟨⟨rfl, rfl⟩, ⟨⟨rfl, rfl⟩, ⟨⟨rfl, rfl⟩, ⟨⟨rfl, show Value.bool false = Value.bool ((decide (i ≤ (-1))) && (decide ((-(L.length : Int)) ≤ i))) by first | (simp only [c17, Bool.true_and, Bool.false_and, Bool.and_true, Bool.and_false, Bool.true_or, Bool.or_true, Bool.false_or, Bool.or_false, Bool.not_true, Bool.not_false]; done) | simp [c17]⟩, trivial⟩⟩⟩⟩⟩) (fun _ h => h.re [0, 0] [])
      ·
        refine k_cond ((decide (i ≤ (-1))) && (decide ((-(L.length : Int)) ≤ i))) (fun c20 => ?_) (fun c20 => ?_)
        ·
          obtain ⟨c21, c22⟩ := and_t c20
          have p23 := of_decide_eq_true c21
          have p24 := of_decide_eq_true c22
          refine k_seq ?_
          refine k_reg ?_
          refine s_lt (t_pure (.int .i64 (L.length : Int))) ?_
          refine s_lt (t_add (L.length : Int) 1 (by (try simp only [List.length_nil, List.length_cons, List.length_append, List.length_take, List.length_drop, List.length_set, List.length_replicate]); omega)) ?_
          refine s_lt (t_pure (.int .i64 i)) ?_
          refine s_lt (t_add ((L.length : Int) + 1) i (by (try simp only [List.length_nil, List.length_cons, List.length_append, List.length_take, List.length_drop, List.length_set, List.length_replicate]); omega)) ?_
          refine s_lt (t_pure (.int .i64 (((L.length : Int) + 1) + i))) ?_
          refine s_lt (t_pure (.int .i64 0)) ?_
          refine s_nil ?_
          refine xs_then ?_
          refine k_ret ?_
          refine xs_ret ?_
          have hp : absR L i = ((((L.length : Int) + 1) + i), 0) := by
            first | exact abs_pos (by omega) (by omega) | exact abs_neg (by omega) (by omega) (by omega) | exact abs_none (by omega) (by omega)
          refine xs_fin [.int .i64 (((L.length : Int) + 1) + i), .int .i64 0] (stkA 68 b L lim :: F) (SI.tmp 4 (SI.tmp 5 SI.nil)) (fun _ h => stk_shut ⟨by omega, by omega, by (try simp only [List.length_nil, List.length_cons, List.length_append, List.length_take, List.length_drop, List.length_set, List.length_replicate]); omega⟩ (h.re [0, 0] [])) ?_
          rw [hp]; exact ⟨rfl, rfl⟩
        ·
          have p25 := c20
          simp only [Bool.and_eq_true, Bool.or_eq_true, Bool.and_eq_false_iff, Bool.or_eq_false_iff, Bool.not_eq_true', Bool.not_eq_false', decide_eq_true_eq, decide_eq_false_iff_not] at p25
          refine k_skip ?_
          refine xs_then ?_
          refine k_seq ?_
          refine k_reg ?_
          refine s_lt (t_pure (.int .i64 0)) ?_
          refine s_lt (t_pure (.int .i64 6)) ?_
          refine s_nil ?_
          refine xs_then ?_
          refine k_ret ?_
          have hp : absR L i = (0, 6) := by
            first | exact abs_pos (by omega) (by omega) | exact abs_neg (by omega) (by omega) (by omega) | exact abs_none (by omega) (by omega)
          refine xs_fin [.int .i64 0, .int .i64 6] (stkA 68 b L lim :: F) (SI.tmp 4 (SI.tmp 5 SI.nil)) (fun _ h => stk_shut ⟨by omega, by omega, by (try simp only [List.length_nil, List.length_cons, List.length_append, List.length_take, List.length_drop, List.length_set, List.length_replicate]); omega⟩ (h.re [0, 0] [])) ?_
          rw [hp]; exact ⟨rfl, rfl⟩
theorem rab_n {Z : Zone} (i : Int) : SF Try.prog 42 #[.pointer none, .int .i64 i] Z [] fun r Bs => r = .tuple #[.int .i64 0, .int .i64 1] ∧ Bs = [] := by
  refine sf_enter Try.func42 34 [(0, .pointer none), (1, .int .i64 i)] (fun w0 => ?_)
  refine k_seq ?_
  refine k_reg ?_
  refine s_lt (t_pure (.int .i64 0)) ?_
  refine s_lt (t_pure (.int .i64 0)) ?_
  refine s_nil ?_
  refine xs_then ?_
  refine k_seq ?_
  refine k_seq ?_
  refine k_reg ?_
  refine s_lt (t_pure (.pointer none)) ?_
  refine s_lt (t_pure (.bool true)) ?_
  refine s_nil ?_
  refine xs_then ?_
  refine k_true ?_
  refine k_seq ?_
  refine k_reg ?_
  refine s_lt (t_pure (.int .i64 0)) ?_
  refine s_lt (t_pure (.int .i64 1)) ?_
  refine s_nil ?_
  refine xs_then ?_
  refine k_ret ?_
  refine xs_ret ?_
  refine xs_fin [.int .i64 0, .int .i64 1] [] (SI.tmp 4 (SI.tmp 5 SI.nil)) (fun _ h => h.re [] []) ⟨?_, rfl⟩
  rfl
theorem rat_s {Z : Zone} {F : List Asr} {b : Nat} {L : List Vl} {lim : Int} (i : Int) : SF Try.prog 43 #[.pointer (some ⟨b, 0, none⟩), .int .i64 i] Z (stkA 68 b L lim :: F) fun r Bs => r = .tuple #[(atR L i).1.v, .int .i64 (atR L i).2] ∧ Bs = stkA 68 b L lim :: F := by
  refine sf_enter Try.func43 26 [(0, .pointer (some ⟨b, 0, none⟩)), (1, .int .i64 i)] (fun w0 => ?_)
  refine k_fact (fun H h => stk_len (h.re [0] [])) (fun hl => ?_)
  obtain ⟨hl1, hl2, hl3⟩ := hl
  refine k_seq ?_
  refine k_reg ?_
  refine s_alloc (.agg #[.int .i64 0, .int .i64 0, .int .i64 0, .string ByteArray.empty, .int .i64 0]) #[.int .i64 0, .int .i64 0, .int .i64 0, .string ByteArray.empty, .int .i64 0] (fun g4 => ?_)
  refine s_lt (t_pure (.int .i64 0)) ?_
  refine s_nil ?_
  refine xs_then ?_
  refine k_seq ?_
  refine k_reg ?_
  refine s_lt (t_pure (.pointer (some ⟨b, 0, none⟩))) ?_
  refine s_lt (t_pure (.int .i64 i)) ?_
  refine s_call [1] (rab_s i) ?_
  rintro _ _ ⟨rfl, rfl⟩
  refine s_lt (t_pure (.tuple #[.int .i64 ((absR L i).1), .int .i64 ((absR L i).2)])) ?_
  refine s_lt (t_pure (.int .i64 ((absR L i).1))) ?_
  refine s_lt (t_pure (.int .i64 ((absR L i).2))) ?_
  refine s_lt (t_pure (.int .i64 ((absR L i).1))) ?_
  refine s_lt (t_pure (.int .i64 ((absR L i).2))) ?_
  refine s_nil ?_
  refine xs_then ?_
  refine k_seq ?_
  refine k_seq ?_
  refine k_reg ?_
  refine s_lt (t_pure (.int .i64 ((absR L i).2))) ?_
  refine s_lt t_cmp ?_
  refine s_nil ?_
  refine xs_then ?_
  refine k_cond (decide ((absR L i).2 ≠ 0)) (fun c5 => ?_) (fun c5 => ?_)
  ·
    have p6 := of_decide_eq_true c5
    obtain ⟨hk7, hk8⟩ := absR_err p6
    refine k_seq ?_
    refine k_reg ?_
    refine s_lt (t_kern (.agg #[.int .i64 0, .int .i64 0, .int .i64 0, .string ByteArray.empty, .int .i64 0])) ?_
    refine s_lt (t_pure (.int .i64 ((absR L i).2))) ?_
    refine s_store 1 #[.int .i64 0, .int .i64 0, .int .i64 0, .string ByteArray.empty, .int .i64 0] ?_
    refine s_lt (t_pure (.int .i64 ((absR L i).2))) ?_
    refine s_nil ?_
    refine xs_then ?_
    refine k_ret ?_
    refine xs_ret ?_
    have hp : atR L i = ((⟨0, 0, 0, ByteArray.empty, 0⟩ : Vl), (absR L i).2) := by
      simp [atR, zVl, p6, hk7, hk8]
    refine xs_fin [.agg #[.int .i64 0, .int .i64 0, .int .i64 0, .string ByteArray.empty, .int .i64 0], .int .i64 ((absR L i).2)] (stkA 68 b L lim :: F) (SI.agg 4 32 1 (SI.tmp 5 SI.nil)) (fun _ h => h.re [0] [1]) ?_
    rw [hp]; exact ⟨rfl, rfl⟩
  ·
    have p9 := Decidable.not_not.1 (of_decide_eq_false c5)
    obtain ⟨k10, hk11, hk12, hk13, hk14⟩ := absR_ok p9
    rw [hk11]
    refine k_skip ?_
    refine xs_then ?_
    refine k_seq ?_
    refine k_reg ?_
    refine s_lt (t_pure (.pointer (some ⟨b, 0, none⟩))) ?_
    refine s_lt (t_pure (.pointer (some ⟨b, 0, none⟩))) ?_
    refine s_lt (t_pure (.pointer (some ⟨b, 0, none⟩))) ?_
    refine s_memX (fun H h => stk_open (h.re [0] [])) (fun sv15 hw => ?_)
    obtain ⟨hw16, hw17, hw18⟩ := hw
    refine s_lt (t_load 0 sv15) ?_
    refine s_lt (t_pure (.int .i64 ((k10 : Int) + 1))) ?_
    refine s_lt (t_sub ((k10 : Int) + 1) 1 (by (try simp only [List.length_nil, List.length_cons, List.length_append, List.length_take, List.length_drop, List.length_set, List.length_replicate]); omega)) ?_
    refine s_lt (t_index VlT_ok Try.underlying22 (.own 1) (((k10 : Int) + 1) - 1) (((((k10 : Int) + 1) - 1)).toNat) (by omega) (by (try simp only [List.length_nil, List.length_cons, List.length_append, List.length_take, List.length_drop, List.length_set, List.length_replicate]); omega) (by omega)) ?_
    obtain ⟨y19, hy20⟩ : ∃ y, L[((((k10 : Int) + 1) - 1)).toNat]? = some y := ⟨_, List.getElem?_eq_getElem (by (try simp only [List.length_nil, List.length_cons, List.length_append, List.length_take, List.length_drop, List.length_set, List.length_replicate]); omega)⟩
    refine s_lt (t_loadE VlT_ok (.own 1) hy20) ?_
    refine s_store 2 #[.int .i64 y19.kind, .int .i64 y19.p, .int .i64 y19.q, .string y19.str, .int .i64 y19.ref] ?_
    refine s_lt (t_pure (.int .i64 0)) ?_
    refine s_nil ?_
    refine xs_then ?_
    refine k_ret ?_
    have hp : atR L i = (y19, 0) := by
      rw [show (((k10 : Int) + 1) - 1).toNat = k10 by omega] at hy20; rw [atR, if_pos hk14, ← hk13, List.getD_eq_getElem?_getD, hy20]; rfl
    refine xs_fin [.agg #[.int .i64 y19.kind, .int .i64 y19.p, .int .i64 y19.q, .string y19.str, .int .i64 y19.ref], .int .i64 0] (stkA 68 b L lim :: F) (SI.agg 4 32 2 (SI.tmp 5 SI.nil)) (fun _ h => stk_shut ⟨by omega, by omega, by (try simp only [List.length_nil, List.length_cons, List.length_append, List.length_take, List.length_drop, List.length_set, List.length_replicate]); omega⟩ (h.re [0, 0] [2])) ?_
    rw [hp]; exact ⟨rfl, rfl⟩
theorem rat_n {Z : Zone} (i : Int) : SF Try.prog 43 #[.pointer none, .int .i64 i] Z [] fun r Bs => r = .tuple #[zVl.v, .int .i64 1] ∧ Bs = [] := by
  refine sf_enter Try.func43 26 [(0, .pointer none), (1, .int .i64 i)] (fun w0 => ?_)
  refine k_seq ?_
  refine k_reg ?_
  refine s_alloc (.agg #[.int .i64 0, .int .i64 0, .int .i64 0, .string ByteArray.empty, .int .i64 0]) #[.int .i64 0, .int .i64 0, .int .i64 0, .string ByteArray.empty, .int .i64 0] (fun g1 => ?_)
  refine s_lt (t_pure (.int .i64 0)) ?_
  refine s_nil ?_
  refine xs_then ?_
  refine k_seq ?_
  refine k_reg ?_
  refine s_lt (t_pure (.pointer none)) ?_
  refine s_lt (t_pure (.int .i64 i)) ?_
  refine s_vcall (fun _ h => rab_n i) ?_
  rintro _ rfl
  refine s_lt (t_pure (.tuple #[.int .i64 0, .int .i64 1])) ?_
  refine s_lt (t_pure (.int .i64 0)) ?_
  refine s_lt (t_pure (.int .i64 1)) ?_
  refine s_lt (t_pure (.int .i64 0)) ?_
  refine s_lt (t_pure (.int .i64 1)) ?_
  refine s_nil ?_
  refine xs_then ?_
  refine k_seq ?_
  refine k_seq ?_
  refine k_reg ?_
  refine s_lt (t_pure (.int .i64 1)) ?_
  refine s_lt (t_cmp (c := true)) ?_
  refine s_nil ?_
  refine xs_then ?_
  refine k_true ?_
  refine k_seq ?_
  refine k_reg ?_
  refine s_lt (t_kern (.agg #[.int .i64 0, .int .i64 0, .int .i64 0, .string ByteArray.empty, .int .i64 0])) ?_
  refine s_lt (t_pure (.int .i64 1)) ?_
  refine s_store 0 #[.int .i64 0, .int .i64 0, .int .i64 0, .string ByteArray.empty, .int .i64 0] ?_
  refine s_lt (t_pure (.int .i64 1)) ?_
  refine s_nil ?_
  refine xs_then ?_
  refine k_ret ?_
  refine xs_ret ?_
  refine xs_fin [.agg #[.int .i64 0, .int .i64 0, .int .i64 0, .string ByteArray.empty, .int .i64 0], .int .i64 1] [] (SI.agg 4 32 0 (SI.tmp 5 SI.nil)) (fun _ h => h.re [] [0]) ⟨?_, rfl⟩
  rfl
theorem rput_s {Z : Zone} {F : List Asr} {b : Nat} {L : List Vl} {lim : Int} (i : Int) (v : Vl) : SF Try.prog 44 #[.pointer (some ⟨b, 0, none⟩), .int .i64 i, .agg #[.int .i64 v.kind, .int .i64 v.p, .int .i64 v.q, .string v.str, .int .i64 v.ref]] Z (stkA 68 b L lim :: F) fun r Bs => r = .int .i64 (putR L i v).1 ∧ Bs = stkA 68 b (putR L i v).2 lim :: F := by
  refine sf_enter Try.func44 29 [(0, .pointer (some ⟨b, 0, none⟩)), (1, .int .i64 i), (2, .agg #[.int .i64 v.kind, .int .i64 v.p, .int .i64 v.q, .string v.str, .int .i64 v.ref])] (fun w0 => ?_)
  refine k_fact (fun H h => stk_len (h.re [0] [])) (fun hl => ?_)
  obtain ⟨hl1, hl2, hl3⟩ := hl
  refine k_seq ?_
  refine k_reg ?_
  refine s_box #[.int .i64 v.kind, .int .i64 v.p, .int .i64 v.q, .string v.str, .int .i64 v.ref] (fun g4 => ?_)
  refine s_lt (t_pure (.int .i64 0)) ?_
  refine s_nil ?_
  refine xs_then ?_
  refine k_seq ?_
  refine k_reg ?_
  refine s_lt (t_pure (.pointer (some ⟨b, 0, none⟩))) ?_
  refine s_lt (t_pure (.int .i64 i)) ?_
  refine s_call [1] (rab_s i) ?_
  rintro _ _ ⟨rfl, rfl⟩
  refine s_lt (t_pure (.tuple #[.int .i64 ((absR L i).1), .int .i64 ((absR L i).2)])) ?_
  refine s_lt (t_pure (.int .i64 ((absR L i).1))) ?_
  refine s_lt (t_pure (.int .i64 ((absR L i).2))) ?_
  refine s_lt (t_pure (.int .i64 ((absR L i).1))) ?_
  refine s_lt (t_pure (.int .i64 ((absR L i).2))) ?_
  refine s_nil ?_
  refine xs_then ?_
  refine k_seq ?_
  refine k_seq ?_
  refine k_reg ?_
  refine s_lt (t_pure (.int .i64 ((absR L i).2))) ?_
  refine s_lt t_cmp ?_
  refine s_nil ?_
  refine xs_then ?_
  refine k_cond (decide ((absR L i).2 ≠ 0)) (fun c5 => ?_) (fun c5 => ?_)
  ·
    have p6 := of_decide_eq_true c5
    obtain ⟨hk7, hk8⟩ := absR_err p6
    refine k_seq ?_
    refine k_reg ?_
    refine s_lt (t_pure (.int .i64 ((absR L i).2))) ?_
    refine s_lt (t_pure (.int .i64 ((absR L i).2))) ?_
    refine s_nil ?_
    refine xs_then ?_
    refine k_ret ?_
    refine xs_ret ?_
    have hp : putR L i v = ((absR L i).2, L) := by
      simp [putR, p6, hk7, hk8]
    refine xs_fin [.int .i64 ((absR L i).2)] (stkA 68 b L lim :: F) (SI.tmp 6 SI.nil) (fun _ h => h.re [0] [1]) ?_
    rw [hp]; exact ⟨rfl, rfl⟩
  ·
    have p9 := Decidable.not_not.1 (of_decide_eq_false c5)
    obtain ⟨k10, hk11, hk12, hk13, hk14⟩ := absR_ok p9
    rw [hk11]
    refine k_skip ?_
    refine xs_then ?_
    refine k_seq ?_
    refine k_seq ?_
    refine k_reg ?_
    refine s_lt (t_loadA 1 #[.int .i64 v.kind, .int .i64 v.p, .int .i64 v.q, .string v.str, .int .i64 v.ref]) ?_
    refine s_vcall (fun _ h => rvalid_s v) ?_
    rintro _ rfl
    refine s_lt (t_pure (.bool (!(validB v)))) ?_
    refine s_nil ?_
    refine xs_then ?_
    refine k_cond (!(validB v)) (fun c15 => ?_) (fun c15 => ?_)
    ·
      have c16 := not_t c15
      refine k_seq ?_
      refine k_reg ?_
      refine s_lt (t_pure (.int .i64 2)) ?_
      refine s_nil ?_
      refine xs_then ?_
      refine k_ret ?_
      refine xs_ret ?_
      have hp : putR L i v = (2, L) := by
        simp [putR, p9, hk14, c16, ← hk13]
      refine xs_fin [.int .i64 2] (stkA 68 b L lim :: F) (SI.tmp 6 SI.nil) (fun _ h => h.re [0] [1]) ?_
      rw [hp]; exact ⟨rfl, rfl⟩
    ·
      have c17 := not_f c15
      refine k_skip ?_
      refine xs_then ?_
      refine k_seq ?_
      refine k_draw ?_
      refine s_lt (t_pure (.pointer (some ⟨b, 0, none⟩))) ?_
      refine s_lt (t_pure (.pointer (some ⟨b, 0, none⟩))) ?_
      refine s_lt (t_pure (.pointer (some ⟨b, 0, none⟩))) ?_
      refine s_memX (fun H h => stk_open (h.re [0] [])) (fun sv18 hw => ?_)
      obtain ⟨hw19, hw20, hw21⟩ := hw
      refine s_lt (t_load 0 sv18) ?_
      refine s_lt (t_pure (.int .i64 ((k10 : Int) + 1))) ?_
      refine s_lt (t_sub ((k10 : Int) + 1) 1 (by (try simp only [List.length_nil, List.length_cons, List.length_append, List.length_take, List.length_drop, List.length_set, List.length_replicate]); omega)) ?_
      refine s_lt (t_loadA 2 #[.int .i64 v.kind, .int .i64 v.p, .int .i64 v.q, .string v.str, .int .i64 v.ref]) ?_
      refine s_lt (t_index VlT_ok Try.underlying22 (.own 1) (((k10 : Int) + 1) - 1) (((((k10 : Int) + 1) - 1)).toNat) (by omega) (by (try simp only [List.length_nil, List.length_cons, List.length_append, List.length_take, List.length_drop, List.length_set, List.length_replicate]); omega) (by omega)) ?_
      obtain ⟨y22, hy23⟩ : ∃ y, L[((((k10 : Int) + 1) - 1)).toNat]? = some y := ⟨_, List.getElem?_eq_getElem (by (try simp only [List.length_nil, List.length_cons, List.length_append, List.length_take, List.length_drop, List.length_set, List.length_replicate]); omega)⟩
      refine s_storeE 1 0 v VlT_ok hy23 ?_
      refine s_nil ?_
      refine x_dynS (fun _ h => by kernel_rfl) ?_
      refine xs_then ?_
      refine k_seq ?_
      refine k_reg ?_
      refine s_lt (t_pure (.int .i64 0)) ?_
      refine s_nil ?_
      refine xs_then ?_
      refine k_ret ?_
      have hp : putR L i v = (0, (L.set (((((k10 : Int) + 1) - 1)).toNat) v)) := by
        simp [putR, p9, hk14, c17, ← hk13]
      refine xs_fin [.int .i64 0] (stkA 68 b (L.set (((((k10 : Int) + 1) - 1)).toNat) v) lim :: F) (SI.tmp 6 SI.nil) (fun _ h => stk_shut ⟨by omega, by omega, by (try simp only [List.length_nil, List.length_cons, List.length_append, List.length_take, List.length_drop, List.length_set, List.length_replicate]); omega⟩ (h.re [0, 0] [2])) ?_
      rw [hp]; exact ⟨rfl, rfl⟩
theorem rput_n {Z : Zone} (i : Int) (v : Vl) : SF Try.prog 44 #[.pointer none, .int .i64 i, .agg #[.int .i64 v.kind, .int .i64 v.p, .int .i64 v.q, .string v.str, .int .i64 v.ref]] Z [] fun r Bs => r = .int .i64 1 ∧ Bs = [] := by
  refine sf_enter Try.func44 29 [(0, .pointer none), (1, .int .i64 i), (2, .agg #[.int .i64 v.kind, .int .i64 v.p, .int .i64 v.q, .string v.str, .int .i64 v.ref])] (fun w0 => ?_)
  refine k_seq ?_
  refine k_reg ?_
  refine s_box #[.int .i64 v.kind, .int .i64 v.p, .int .i64 v.q, .string v.str, .int .i64 v.ref] (fun g1 => ?_)
  refine s_lt (t_pure (.int .i64 0)) ?_
  refine s_nil ?_
  refine xs_then ?_
  refine k_seq ?_
  refine k_reg ?_
  refine s_lt (t_pure (.pointer none)) ?_
  refine s_lt (t_pure (.int .i64 i)) ?_
  refine s_vcall (fun _ h => rab_n i) ?_
  rintro _ rfl
  refine s_lt (t_pure (.tuple #[.int .i64 0, .int .i64 1])) ?_
  refine s_lt (t_pure (.int .i64 0)) ?_
  refine s_lt (t_pure (.int .i64 1)) ?_
  refine s_lt (t_pure (.int .i64 0)) ?_
  refine s_lt (t_pure (.int .i64 1)) ?_
  refine s_nil ?_
  refine xs_then ?_
  refine k_seq ?_
  refine k_seq ?_
  refine k_reg ?_
  refine s_lt (t_pure (.int .i64 1)) ?_
  refine s_lt (t_cmp (c := true)) ?_
  refine s_nil ?_
  refine xs_then ?_
  refine k_true ?_
  refine k_seq ?_
  refine k_reg ?_
  refine s_lt (t_pure (.int .i64 1)) ?_
  refine s_lt (t_pure (.int .i64 1)) ?_
  refine s_nil ?_
  refine xs_then ?_
  refine k_ret ?_
  refine xs_ret ?_
  refine xs_fin [.int .i64 1] [] (SI.tmp 6 SI.nil) (fun _ h => h.re [] [0]) ⟨?_, rfl⟩
  rfl
theorem rrot_s {Z : Zone} {F : List Asr} {b : Nat} {L : List Vl} {lim : Int} (i n : Int) : SF Try.prog 47 #[.pointer (some ⟨b, 0, none⟩), .int .i64 i, .int .i64 n] Z (stkA 68 b L lim :: F) fun r Bs => r = .int .i64 (rotR L i n).1 ∧ Bs = stkA 68 b (rotR L i n).2 lim :: F := by
  refine sf_enter Try.func47 68 [(0, .pointer (some ⟨b, 0, none⟩)), (1, .int .i64 i), (2, .int .i64 n)] (fun w0 => ?_)
  refine k_fact (fun H h => stk_len (h.re [0] [])) (fun hl => ?_)
  obtain ⟨hl1, hl2, hl3⟩ := hl
  refine k_seq ?_
  refine k_reg ?_
  refine s_lt (t_pure (.int .i64 0)) ?_
  refine s_nil ?_
  refine xs_then ?_
  refine k_seq ?_
  refine k_reg ?_
  refine s_lt (t_pure (.pointer (some ⟨b, 0, none⟩))) ?_
  refine s_lt (t_pure (.int .i64 i)) ?_
  refine s_call [0] (rab_s i) ?_
  rintro _ _ ⟨rfl, rfl⟩
  refine s_lt (t_pure (.tuple #[.int .i64 ((absR L i).1), .int .i64 ((absR L i).2)])) ?_
  refine s_lt (t_pure (.int .i64 ((absR L i).1))) ?_
  refine s_lt (t_pure (.int .i64 ((absR L i).2))) ?_
  refine s_lt (t_pure (.int .i64 ((absR L i).1))) ?_
  refine s_lt (t_pure (.int .i64 ((absR L i).2))) ?_
  refine s_nil ?_
  refine xs_then ?_
  refine k_seq ?_
  refine k_seq ?_
  refine k_reg ?_
  refine s_lt (t_pure (.int .i64 ((absR L i).2))) ?_
  refine s_lt t_cmp ?_
  refine s_nil ?_
  refine xs_then ?_
  refine k_cond (decide ((absR L i).2 ≠ 0)) (fun c4 => ?_) (fun c4 => ?_)
  ·
    have p5 := of_decide_eq_true c4
    obtain ⟨hk6, hk7⟩ := absR_err p5
    refine k_seq ?_
    refine k_reg ?_
    refine s_lt (t_pure (.int .i64 ((absR L i).2))) ?_
    refine s_lt (t_pure (.int .i64 ((absR L i).2))) ?_
    refine s_nil ?_
    refine xs_then ?_
    refine k_ret ?_
    refine xs_ret ?_
    have hp : rotR L i n = ((absR L i).2, L) := by
      simp [rotR, p5, hk6, hk7]
    refine xs_fin [.int .i64 ((absR L i).2)] (stkA 68 b L lim :: F) (SI.tmp 6 SI.nil) (fun _ h => h.re [0] []) ?_
    rw [hp]; exact ⟨rfl, rfl⟩
  ·
    have p8 := Decidable.not_not.1 (of_decide_eq_false c4)
    obtain ⟨k9, hk10, hk11, hk12, hk13⟩ := absR_ok p8
    rw [hk10]
    refine k_skip ?_
    refine xs_then ?_
    refine k_seq ?_
    refine k_reg ?_
    refine s_lt (t_pure (.pointer (some ⟨b, 0, none⟩))) ?_
    refine s_lt (t_pure (.pointer (some ⟨b, 0, none⟩))) ?_
    refine s_lt (t_pure (.pointer (some ⟨b, 0, none⟩))) ?_
    refine s_memX (fun H h => stk_open (h.re [0] [])) (fun sv14 hw => ?_)
    obtain ⟨hw15, hw16, hw17⟩ := hw
    refine s_lt (t_load 0 sv14) ?_
    refine s_lt (t_len VlT_ok Try.underlying22 (.own 1)) ?_
    refine s_lt (t_pure (.int .i64 ((k9 : Int) + 1))) ?_
    refine s_lt (t_sub (L.length : Int) ((k9 : Int) + 1) (by (try simp only [List.length_nil, List.length_cons, List.length_append, List.length_take, List.length_drop, List.length_set, List.length_replicate]); omega)) ?_
    refine s_lt (t_add ((L.length : Int) - ((k9 : Int) + 1)) 1 (by (try simp only [List.length_nil, List.length_cons, List.length_append, List.length_take, List.length_drop, List.length_set, List.length_replicate]); omega)) ?_
    refine s_lt (t_pure (.int .i64 (((L.length : Int) - ((k9 : Int) + 1)) + 1))) ?_
    refine s_nil ?_
    refine xs_then ?_
    refine k_seq ?_
    obtain ⟨m18, hm, hkm⟩ : ∃ m : Nat, (m : Int) = (((L.length : Int) - ((k9 : Int) + 1)) + 1) ∧ k9 + m = L.length := ⟨L.length - k9, by omega, by omega⟩
    rw [← hm]
    refine k_reg ?_
    refine s_lt (t_pure (.int .i64 n)) ?_
    refine s_lt (t_pure (.int .i64 (m18 : Int))) ?_
    have ht19 : (0 : Int) < (m18 : Int) := by omega
    have ht20 := Int.tmod_lt_of_pos n ht19; have ht21 := Int.lt_tmod_of_pos n ht19; have ht22 := tmod_emod n (m18 : Int) ht19
    refine s_lt (t_rem n (m18 : Int) (by omega)) ?_
    refine s_lt (t_pure (.int .i64 (Int.tmod n (m18 : Int)))) ?_
    refine s_nil ?_
    refine xs_then ?_
    refine k_seq ?_
    refine k_seq ?_
    refine k_reg ?_
    refine s_lt (t_pure (.int .i64 (Int.tmod n (m18 : Int)))) ?_
    refine s_lt t_cmp ?_
    refine s_nil ?_
    refine xs_then ?_
    refine k_cond (decide ((Int.tmod n (m18 : Int)) < 0)) (fun c23 => ?_) (fun c23 => ?_)
    ·
      have p24 := of_decide_eq_true c23
      refine k_reg ?_
      refine s_lt (t_pure (.int .i64 (Int.tmod n (m18 : Int)))) ?_
      refine s_lt (t_pure (.int .i64 (m18 : Int))) ?_
      refine s_lt (t_add (Int.tmod n (m18 : Int)) (m18 : Int) (by (try simp only [List.length_nil, List.length_cons, List.length_append, List.length_take, List.length_drop, List.length_set, List.length_replicate]); omega)) ?_
      refine s_lt (t_pure (.int .i64 ((Int.tmod n (m18 : Int)) + (m18 : Int)))) ?_
      refine s_nil ?_
      refine xs_then ?_
      refine k_seq ?_
      obtain ⟨nn25, hnn, hnn2, hnn3⟩ : ∃ q : Nat, (q : Int) = ((Int.tmod n (m18 : Int)) + (m18 : Int)) ∧ q < m18 ∧ (q : Int) = n % (m18 : Int) := ⟨(((Int.tmod n (m18 : Int)) + (m18 : Int))).toNat, by omega, by omega, by omega⟩
      rw [← hnn]
      refine k_reg ?_
      refine s_buildSlice (e := 32) [] #[] (fun g26 => ?_) (hb := by kernel_rfl)
      refine s_lt (t_pure (.pointer (some ⟨b, 0, none⟩))) ?_
      refine s_lt (t_pure (.pointer (some ⟨b, 0, none⟩))) ?_
      refine s_lt (t_pure (.pointer (some ⟨b, 0, none⟩))) ?_
      refine s_lt (t_load 1 sv14) ?_
      refine s_mem (fun _ h => Holds.slice 0 h VlT_ok []) ?_
      refine s_append (L := []) 0 VlT_ok Try.underlying22 (.own 2) (by show _ * 48 ≤ _; (try simp only [List.length_nil, List.length_cons, List.length_append, List.length_take, List.length_drop, List.length_set, List.length_replicate]); omega) (by (try simp only [List.length_nil, List.length_cons, List.length_append, List.length_take, List.length_drop, List.length_set, List.length_replicate]); omega) (fun v27 => ?_)
      refine s_lt (t_pure v27) ?_
      refine s_nil ?_
      refine xs_then ?_
      refine k_seq ?_
      refine k_seq ?_
      refine k_reg ?_
      refine s_lt (t_pure (.int .i64 0)) ?_
      refine s_nil ?_
      refine xs_then ?_
      refine k_block ?_
      refine k_loop (ι := Nat × List Vl) (fun (j, A) => j ≤ m18 ∧ A.length = L.length ∧ ∀ s, A[s]? = rotI L k9 nn25 m18 j s) (fun (j, A) => [(0, .pointer (some ⟨b, 0, none⟩)), (2, .int .i64 (nn25 : Int)), (6, .int .i64 0), (7, .int .i64 ((k9 : Int) + 1)), (9, .int .i64 (m18 : Int)), (10, v27), (11, .int .i64 (j : Int))]) (fun (j, A) => blkA b #[sv14, .int .i64 lim] 68 :: own VlT sv14 A :: own VlT v27 ([] ++ L) :: F) (fun (j, A) => m18 - j) (0, L) ⟨Nat.zero_le _, rfl, fun s => by rw [rotI, if_neg (by omega)]⟩ (sub_of rfl ⟨⟨rfl, rfl⟩, ⟨⟨rfl, rfl⟩, ⟨⟨rfl, rfl⟩, ⟨⟨rfl, rfl⟩, ⟨⟨rfl, rfl⟩, ⟨⟨rfl, rfl⟩, ⟨⟨rfl, rfl⟩, trivial⟩⟩⟩⟩⟩⟩⟩) (fun _ h => h.re [1, 1, 0] []) ?_
      rintro ⟨j, A⟩ hi28
      replace hi28 : j ≤ m18 ∧ A.length = L.length ∧ ∀ s, A[s]? = rotI L k9 nn25 m18 j s := hi28
      show SK _ _ _ _ _ [(0, .pointer (some ⟨b, 0, none⟩)), (2, .int .i64 (nn25 : Int)), (6, .int .i64 0), (7, .int .i64 ((k9 : Int) + 1)), (9, .int .i64 (m18 : Int)), (10, v27), (11, .int .i64 (j : Int))] _ (blkA b #[sv14, .int .i64 lim] 68 :: own VlT sv14 A :: own VlT v27 ([] ++ L) :: F)
      obtain ⟨hj, hA, hI⟩ := hi28
      refine k_seq ?_
      refine k_seq ?_
      refine k_reg ?_
      refine s_lt (t_pure (.int .i64 (j : Int))) ?_
      refine s_lt (t_pure (.int .i64 (m18 : Int))) ?_
      refine s_lt t_cmp ?_
      refine s_nil ?_
      refine xs_then ?_
      refine k_cond (decide ((j : Int) < (m18 : Int))) (fun c29 => ?_) (fun c29 => ?_)
      ·
        have p30 := of_decide_eq_true c29
        refine k_skip ?_
        refine xs_then ?_
        refine k_seq ?_
        refine k_block ?_
        refine k_draw ?_
        refine s_lt (t_pure (.pointer (some ⟨b, 0, none⟩))) ?_
        refine s_lt (t_pure (.pointer (some ⟨b, 0, none⟩))) ?_
        refine s_lt (t_pure (.pointer (some ⟨b, 0, none⟩))) ?_
        refine s_lt (t_load 0 sv14) ?_
        refine s_lt (t_pure (.int .i64 ((k9 : Int) + 1))) ?_
        refine s_lt (t_sub ((k9 : Int) + 1) 1 (by (try simp only [List.length_nil, List.length_cons, List.length_append, List.length_take, List.length_drop, List.length_set, List.length_replicate]); omega)) ?_
        refine s_lt (t_pure (.int .i64 (j : Int))) ?_
        refine s_lt (t_pure (.int .i64 (nn25 : Int))) ?_
        refine s_lt (t_add (j : Int) (nn25 : Int) (by (try simp only [List.length_nil, List.length_cons, List.length_append, List.length_take, List.length_drop, List.length_set, List.length_replicate]); omega)) ?_
        refine s_lt (t_pure (.int .i64 (m18 : Int))) ?_
        have ht31 := Nat.mod_lt (j + nn25) (y := m18) (by omega)
        refine s_lt (Lt.to (v' := .int .i64 (((j + nn25) % m18 : Nat) : Int)) (t_rem ((j : Int) + (nn25 : Int)) (m18 : Int) (by omega)) rfl) ?_
        refine s_lt (t_add (((k9 : Int) + 1) - 1) (((j + nn25) % m18 : Nat) : Int) (by (try simp only [List.length_nil, List.length_cons, List.length_append, List.length_take, List.length_drop, List.length_set, List.length_replicate]); omega)) ?_
        refine s_lt (t_pure v27) ?_
        refine s_lt (t_pure (.int .i64 ((k9 : Int) + 1))) ?_
        refine s_lt (t_sub ((k9 : Int) + 1) 1 (by (try simp only [List.length_nil, List.length_cons, List.length_append, List.length_take, List.length_drop, List.length_set, List.length_replicate]); omega)) ?_
        refine s_lt (t_pure (.int .i64 (j : Int))) ?_
        refine s_lt (t_add (((k9 : Int) + 1) - 1) (j : Int) (by (try simp only [List.length_nil, List.length_cons, List.length_append, List.length_take, List.length_drop, List.length_set, List.length_replicate]); omega)) ?_
        refine s_lt (t_index VlT_ok Try.underlying22 (.own 2) ((((k9 : Int) + 1) - 1) + (j : Int)) ((((((k9 : Int) + 1) - 1) + (j : Int))).toNat) (by omega) (by (try simp only [List.length_nil, List.length_cons, List.length_append, List.length_take, List.length_drop, List.length_set, List.length_replicate]); omega) (by omega)) ?_
        obtain ⟨y32, hy33⟩ : ∃ y, ([] ++ L)[(((((k9 : Int) + 1) - 1) + (j : Int))).toNat]? = some y := ⟨_, List.getElem?_eq_getElem (by (try simp only [List.length_nil, List.length_cons, List.length_append, List.length_take, List.length_drop, List.length_set, List.length_replicate]); omega)⟩
        refine s_lt (t_loadE VlT_ok (.own 2) hy33) ?_
        refine s_lt (t_index VlT_ok Try.underlying22 (.own 1) ((((k9 : Int) + 1) - 1) + (((j + nn25) % m18 : Nat) : Int)) ((((((k9 : Int) + 1) - 1) + (((j + nn25) % m18 : Nat) : Int))).toNat) (by omega) (by (try simp only [List.length_nil, List.length_cons, List.length_append, List.length_take, List.length_drop, List.length_set, List.length_replicate]); omega) (by omega)) ?_
        obtain ⟨y34, hy35⟩ : ∃ y, A[(((((k9 : Int) + 1) - 1) + (((j + nn25) % m18 : Nat) : Int))).toNat]? = some y := ⟨_, List.getElem?_eq_getElem (by (try simp only [List.length_nil, List.length_cons, List.length_append, List.length_take, List.length_drop, List.length_set, List.length_replicate]); omega)⟩
        refine s_storeE 1 0 y32 VlT_ok hy35 ?_
        refine s_nil ?_
        refine x_dynS (fun _ h => by kernel_rfl) ?_
        refine xs_block ?_
        refine xs_then ?_
        refine k_reg ?_
        refine s_lt (t_pure (.int .i64 (j : Int))) ?_
        refine s_lt (t_add (j : Int) 1 (by (try simp only [List.length_nil, List.length_cons, List.length_append, List.length_take, List.length_drop, List.length_set, List.length_replicate]); omega)) ?_
        refine s_lt (t_pure (.int .i64 ((j : Int) + 1))) ?_
        refine s_nil ?_
        exact xs_round (j + 1, (A.set ((((((k9 : Int) + 1) - 1) + (((j + nn25) % m18 : Nat) : Int))).toNat) y32)) (by show m18 - (j + 1) < m18 - j; omega) (by refine ⟨by omega, by rw [List.length_set]; exact hA, fun s => ?_⟩; have e := rot_step hI hA hkm hnn2 (by omega) (by rw [← hy33]; congr 1; omega) s; rw [← e]; congr 2; omega) (sub_of rfl ⟨⟨rfl, rfl⟩, ⟨⟨rfl, rfl⟩, ⟨⟨rfl, rfl⟩, ⟨⟨rfl, rfl⟩, ⟨⟨rfl, rfl⟩, ⟨⟨rfl, rfl⟩, ⟨⟨rfl, rfl⟩, trivial⟩⟩⟩⟩⟩⟩⟩) (fun _ h => h.re [0, 0, 0] [])
      ·
        have p36 := of_decide_eq_false c29
        refine k_exit ?_
        refine xs_exit ?_
        refine xs_exit ?_
        refine xs_here ?_
        refine xs_then ?_
        refine k_seq ?_
        refine k_reg ?_
        refine s_lt (t_pure (.int .i64 0)) ?_
        refine s_nil ?_
        refine xs_then ?_
        refine k_ret ?_
        have hp : rotR L i n = (0, A) := by
          obtain rfl : j = m18 := by omega
          have e := rot_end (n := n) hI hkm hnn2 hnn3
          rw [rotR, if_pos hk13, ← hk12, ← e]
        refine xs_fin [.int .i64 0] (stkA 68 b A lim :: F) (SI.tmp 6 SI.nil) (fun _ h => stk_shut ⟨by omega, by omega, by (try simp only [List.length_nil, List.length_cons, List.length_append, List.length_take, List.length_drop, List.length_set, List.length_replicate]); omega⟩ (h.re [0, 0] [2])) ?_
        rw [hp]; exact ⟨rfl, rfl⟩
    ·
      have p37 := of_decide_eq_false c23
      refine k_skip ?_
      refine xs_then ?_
      refine k_seq ?_
      obtain ⟨nn38, hnn, hnn2, hnn3⟩ : ∃ q : Nat, (q : Int) = (Int.tmod n (m18 : Int)) ∧ q < m18 ∧ (q : Int) = n % (m18 : Int) := ⟨((Int.tmod n (m18 : Int))).toNat, by omega, by omega, by omega⟩
      rw [← hnn]
      refine k_reg ?_
      refine s_buildSlice (e := 32) [] #[] (fun g39 => ?_) (hb := by kernel_rfl)
      refine s_lt (t_pure (.pointer (some ⟨b, 0, none⟩))) ?_
      refine s_lt (t_pure (.pointer (some ⟨b, 0, none⟩))) ?_
      refine s_lt (t_pure (.pointer (some ⟨b, 0, none⟩))) ?_
      refine s_lt (t_load 1 sv14) ?_
      refine s_mem (fun _ h => Holds.slice 0 h VlT_ok []) ?_
      refine s_append (L := []) 0 VlT_ok Try.underlying22 (.own 2) (by show _ * 48 ≤ _; (try simp only [List.length_nil, List.length_cons, List.length_append, List.length_take, List.length_drop, List.length_set, List.length_replicate]); omega) (by (try simp only [List.length_nil, List.length_cons, List.length_append, List.length_take, List.length_drop, List.length_set, List.length_replicate]); omega) (fun v40 => ?_)
      refine s_lt (t_pure v40) ?_
      refine s_nil ?_
      refine xs_then ?_
      refine k_seq ?_
      refine k_seq ?_
      refine k_reg ?_
      refine s_lt (t_pure (.int .i64 0)) ?_
      refine s_nil ?_
      refine xs_then ?_
      refine k_block ?_
      refine k_loop (ι := Nat × List Vl) (fun (j, A) => j ≤ m18 ∧ A.length = L.length ∧ ∀ s, A[s]? = rotI L k9 nn38 m18 j s) (fun (j, A) => [(0, .pointer (some ⟨b, 0, none⟩)), (2, .int .i64 (nn38 : Int)), (6, .int .i64 0), (7, .int .i64 ((k9 : Int) + 1)), (9, .int .i64 (m18 : Int)), (10, v40), (11, .int .i64 (j : Int))]) (fun (j, A) => blkA b #[sv14, .int .i64 lim] 68 :: own VlT sv14 A :: own VlT v40 ([] ++ L) :: F) (fun (j, A) => m18 - j) (0, L) ⟨Nat.zero_le _, rfl, fun s => by rw [rotI, if_neg (by omega)]⟩ (sub_of rfl ⟨⟨rfl, rfl⟩, ⟨⟨rfl, rfl⟩, ⟨⟨rfl, rfl⟩, ⟨⟨rfl, rfl⟩, ⟨⟨rfl, rfl⟩, ⟨⟨rfl, rfl⟩, ⟨⟨rfl, rfl⟩, trivial⟩⟩⟩⟩⟩⟩⟩) (fun _ h => h.re [1, 1, 0] []) ?_
      rintro ⟨j, A⟩ hi41
      replace hi41 : j ≤ m18 ∧ A.length = L.length ∧ ∀ s, A[s]? = rotI L k9 nn38 m18 j s := hi41
      show SK _ _ _ _ _ [(0, .pointer (some ⟨b, 0, none⟩)), (2, .int .i64 (nn38 : Int)), (6, .int .i64 0), (7, .int .i64 ((k9 : Int) + 1)), (9, .int .i64 (m18 : Int)), (10, v40), (11, .int .i64 (j : Int))] _ (blkA b #[sv14, .int .i64 lim] 68 :: own VlT sv14 A :: own VlT v40 ([] ++ L) :: F)
      obtain ⟨hj, hA, hI⟩ := hi41
      refine k_seq ?_
      refine k_seq ?_
      refine k_reg ?_
      refine s_lt (t_pure (.int .i64 (j : Int))) ?_
      refine s_lt (t_pure (.int .i64 (m18 : Int))) ?_
      refine s_lt t_cmp ?_
      refine s_nil ?_
      refine xs_then ?_
      refine k_cond (decide ((j : Int) < (m18 : Int))) (fun c42 => ?_) (fun c42 => ?_)
      ·
        have p43 := of_decide_eq_true c42
        refine k_skip ?_
        refine xs_then ?_
        refine k_seq ?_
        refine k_block ?_
        refine k_draw ?_
        refine s_lt (t_pure (.pointer (some ⟨b, 0, none⟩))) ?_
        refine s_lt (t_pure (.pointer (some ⟨b, 0, none⟩))) ?_
        refine s_lt (t_pure (.pointer (some ⟨b, 0, none⟩))) ?_
        refine s_lt (t_load 0 sv14) ?_
        refine s_lt (t_pure (.int .i64 ((k9 : Int) + 1))) ?_
        refine s_lt (t_sub ((k9 : Int) + 1) 1 (by (try simp only [List.length_nil, List.length_cons, List.length_append, List.length_take, List.length_drop, List.length_set, List.length_replicate]); omega)) ?_
        refine s_lt (t_pure (.int .i64 (j : Int))) ?_
        refine s_lt (t_pure (.int .i64 (nn38 : Int))) ?_
        refine s_lt (t_add (j : Int) (nn38 : Int) (by (try simp only [List.length_nil, List.length_cons, List.length_append, List.length_take, List.length_drop, List.length_set, List.length_replicate]); omega)) ?_
        refine s_lt (t_pure (.int .i64 (m18 : Int))) ?_
        have ht44 := Nat.mod_lt (j + nn38) (y := m18) (by omega)
        refine s_lt (Lt.to (v' := .int .i64 (((j + nn38) % m18 : Nat) : Int)) (t_rem ((j : Int) + (nn38 : Int)) (m18 : Int) (by omega)) rfl) ?_
        refine s_lt (t_add (((k9 : Int) + 1) - 1) (((j + nn38) % m18 : Nat) : Int) (by (try simp only [List.length_nil, List.length_cons, List.length_append, List.length_take, List.length_drop, List.length_set, List.length_replicate]); omega)) ?_
        refine s_lt (t_pure v40) ?_
        refine s_lt (t_pure (.int .i64 ((k9 : Int) + 1))) ?_
        refine s_lt (t_sub ((k9 : Int) + 1) 1 (by (try simp only [List.length_nil, List.length_cons, List.length_append, List.length_take, List.length_drop, List.length_set, List.length_replicate]); omega)) ?_
        refine s_lt (t_pure (.int .i64 (j : Int))) ?_
        refine s_lt (t_add (((k9 : Int) + 1) - 1) (j : Int) (by (try simp only [List.length_nil, List.length_cons, List.length_append, List.length_take, List.length_drop, List.length_set, List.length_replicate]); omega)) ?_
        refine s_lt (t_index VlT_ok Try.underlying22 (.own 2) ((((k9 : Int) + 1) - 1) + (j : Int)) ((((((k9 : Int) + 1) - 1) + (j : Int))).toNat) (by omega) (by (try simp only [List.length_nil, List.length_cons, List.length_append, List.length_take, List.length_drop, List.length_set, List.length_replicate]); omega) (by omega)) ?_
        obtain ⟨y45, hy46⟩ : ∃ y, ([] ++ L)[(((((k9 : Int) + 1) - 1) + (j : Int))).toNat]? = some y := ⟨_, List.getElem?_eq_getElem (by (try simp only [List.length_nil, List.length_cons, List.length_append, List.length_take, List.length_drop, List.length_set, List.length_replicate]); omega)⟩
        refine s_lt (t_loadE VlT_ok (.own 2) hy46) ?_
        refine s_lt (t_index VlT_ok Try.underlying22 (.own 1) ((((k9 : Int) + 1) - 1) + (((j + nn38) % m18 : Nat) : Int)) ((((((k9 : Int) + 1) - 1) + (((j + nn38) % m18 : Nat) : Int))).toNat) (by omega) (by (try simp only [List.length_nil, List.length_cons, List.length_append, List.length_take, List.length_drop, List.length_set, List.length_replicate]); omega) (by omega)) ?_
        obtain ⟨y47, hy48⟩ : ∃ y, A[(((((k9 : Int) + 1) - 1) + (((j + nn38) % m18 : Nat) : Int))).toNat]? = some y := ⟨_, List.getElem?_eq_getElem (by (try simp only [List.length_nil, List.length_cons, List.length_append, List.length_take, List.length_drop, List.length_set, List.length_replicate]); omega)⟩
        refine s_storeE 1 0 y45 VlT_ok hy48 ?_
        refine s_nil ?_
        refine x_dynS (fun _ h => by kernel_rfl) ?_
        refine xs_block ?_
        refine xs_then ?_
        refine k_reg ?_
        refine s_lt (t_pure (.int .i64 (j : Int))) ?_
        refine s_lt (t_add (j : Int) 1 (by (try simp only [List.length_nil, List.length_cons, List.length_append, List.length_take, List.length_drop, List.length_set, List.length_replicate]); omega)) ?_
        refine s_lt (t_pure (.int .i64 ((j : Int) + 1))) ?_
        refine s_nil ?_
        exact xs_round (j + 1, (A.set ((((((k9 : Int) + 1) - 1) + (((j + nn38) % m18 : Nat) : Int))).toNat) y45)) (by show m18 - (j + 1) < m18 - j; omega) (by refine ⟨by omega, by rw [List.length_set]; exact hA, fun s => ?_⟩; have e := rot_step hI hA hkm hnn2 (by omega) (by rw [← hy46]; congr 1; omega) s; rw [← e]; congr 2; omega) (sub_of rfl ⟨⟨rfl, rfl⟩, ⟨⟨rfl, rfl⟩, ⟨⟨rfl, rfl⟩, ⟨⟨rfl, rfl⟩, ⟨⟨rfl, rfl⟩, ⟨⟨rfl, rfl⟩, ⟨⟨rfl, rfl⟩, trivial⟩⟩⟩⟩⟩⟩⟩) (fun _ h => h.re [0, 0, 0] [])
      ·
        have p49 := of_decide_eq_false c42
        refine k_exit ?_
        refine xs_exit ?_
        refine xs_exit ?_
        refine xs_here ?_
        refine xs_then ?_
        refine k_seq ?_
        refine k_reg ?_
        refine s_lt (t_pure (.int .i64 0)) ?_
        refine s_nil ?_
        refine xs_then ?_
        refine k_ret ?_
        have hp : rotR L i n = (0, A) := by
          obtain rfl : j = m18 := by omega
          have e := rot_end (n := n) hI hkm hnn2 hnn3
          rw [rotR, if_pos hk13, ← hk12, ← e]
        refine xs_fin [.int .i64 0] (stkA 68 b A lim :: F) (SI.tmp 6 SI.nil) (fun _ h => stk_shut ⟨by omega, by omega, by (try simp only [List.length_nil, List.length_cons, List.length_append, List.length_take, List.length_drop, List.length_set, List.length_replicate]); omega⟩ (h.re [0, 0] [2])) ?_
        rw [hp]; exact ⟨rfl, rfl⟩
theorem rrot_n {Z : Zone} (i n : Int) : SF Try.prog 47 #[.pointer none, .int .i64 i, .int .i64 n] Z [] fun r Bs => r = .int .i64 1 ∧ Bs = [] := by
  refine sf_enter Try.func47 68 [(0, .pointer none), (1, .int .i64 i), (2, .int .i64 n)] (fun w0 => ?_)
  refine k_seq ?_
  refine k_reg ?_
  refine s_lt (t_pure (.int .i64 0)) ?_
  refine s_nil ?_
  refine xs_then ?_
  refine k_seq ?_
  refine k_reg ?_
  refine s_lt (t_pure (.pointer none)) ?_
  refine s_lt (t_pure (.int .i64 i)) ?_
  refine s_vcall (fun _ h => rab_n i) ?_
  rintro _ rfl
  refine s_lt (t_pure (.tuple #[.int .i64 0, .int .i64 1])) ?_
  refine s_lt (t_pure (.int .i64 0)) ?_
  refine s_lt (t_pure (.int .i64 1)) ?_
  refine s_lt (t_pure (.int .i64 0)) ?_
  refine s_lt (t_pure (.int .i64 1)) ?_
  refine s_nil ?_
  refine xs_then ?_
  refine k_seq ?_
  refine k_seq ?_
  refine k_reg ?_
  refine s_lt (t_pure (.int .i64 1)) ?_
  refine s_lt (t_cmp (c := true)) ?_
  refine s_nil ?_
  refine xs_then ?_
  refine k_true ?_
  refine k_seq ?_
  refine k_reg ?_
  refine s_lt (t_pure (.int .i64 1)) ?_
  refine s_lt (t_pure (.int .i64 1)) ?_
  refine s_nil ?_
  refine xs_then ?_
  refine k_ret ?_
  refine xs_ret ?_
  refine xs_fin [.int .i64 1] [] (SI.tmp 6 SI.nil) (fun _ h => h.re [] []) ⟨?_, rfl⟩
  rfl
theorem rins_s {Z : Zone} {F : List Asr} {b : Nat} {L : List Vl} {lim : Int} (i : Int) : SF Try.prog 45 #[.pointer (some ⟨b, 0, none⟩), .int .i64 i] Z (stkA 68 b L lim :: F) fun r Bs => r = .int .i64 (rotR L i 1).1 ∧ Bs = stkA 68 b (rotR L i 1).2 lim :: F := by
  refine sf_enter Try.func45 8 [(0, .pointer (some ⟨b, 0, none⟩)), (1, .int .i64 i)] (fun w0 => ?_)
  refine k_fact (fun H h => stk_len (h.re [0] [])) (fun hl => ?_)
  obtain ⟨hl1, hl2, hl3⟩ := hl
  refine k_seq ?_
  refine k_reg ?_
  refine s_lt (t_pure (.int .i64 0)) ?_
  refine s_nil ?_
  refine xs_then ?_
  refine k_seq ?_
  refine k_reg ?_
  refine s_lt (t_pure (.pointer (some ⟨b, 0, none⟩))) ?_
  refine s_lt (t_pure (.int .i64 i)) ?_
  refine s_call [0] (rrot_s i 1) ?_
  rintro _ _ ⟨rfl, rfl⟩
  refine s_lt (t_pure (.int .i64 ((rotR L i 1).1))) ?_
  refine s_nil ?_
  refine xs_then ?_
  refine k_ret ?_
  have hp : rotR L i 1 = ((rotR L i 1).1, (rotR L i 1).2) := by
    rfl
  refine xs_fin [.int .i64 ((rotR L i 1).1)] (stkA 68 b ((rotR L i 1).2) lim :: F) (SI.tmp 4 SI.nil) (fun _ h => h.re [0] []) ?_
  rw [hp]; exact ⟨rfl, rfl⟩
theorem rins_n {Z : Zone} (i : Int) : SF Try.prog 45 #[.pointer none, .int .i64 i] Z [] fun r Bs => r = .int .i64 1 ∧ Bs = [] := by
  refine sf_enter Try.func45 8 [(0, .pointer none), (1, .int .i64 i)] (fun w0 => ?_)
  refine k_seq ?_
  refine k_reg ?_
  refine s_lt (t_pure (.int .i64 0)) ?_
  refine s_nil ?_
  refine xs_then ?_
  refine k_seq ?_
  refine k_reg ?_
  refine s_lt (t_pure (.pointer none)) ?_
  refine s_lt (t_pure (.int .i64 i)) ?_
  refine s_vcall (fun _ h => rrot_n i 1) ?_
  rintro _ rfl
  refine s_lt (t_pure (.int .i64 1)) ?_
  refine s_nil ?_
  refine xs_then ?_
  refine k_ret ?_
  refine xs_fin [.int .i64 1] [] (SI.tmp 4 SI.nil) (fun _ h => h.re [] []) ⟨?_, rfl⟩
  rfl
theorem rrem_s {Z : Zone} {F : List Asr} {b : Nat} {L : List Vl} {lim : Int} (i : Int) : SF Try.prog 46 #[.pointer (some ⟨b, 0, none⟩), .int .i64 i] Z (stkA 68 b L lim :: F) fun r Bs => r = .int .i64 (rremR L i).1 ∧ Bs = stkA 68 b (rremR L i).2 lim :: F := by
  refine sf_enter Try.func46 14 [(0, .pointer (some ⟨b, 0, none⟩)), (1, .int .i64 i)] (fun w0 => ?_)
  refine k_fact (fun H h => stk_len (h.re [0] [])) (fun hl => ?_)
  obtain ⟨hl1, hl2, hl3⟩ := hl
  refine k_seq ?_
  refine k_reg ?_
  refine s_lt (t_pure (.int .i64 0)) ?_
  refine s_nil ?_
  refine xs_then ?_
  refine k_seq ?_
  refine k_reg ?_
  refine s_lt (t_pure (.pointer (some ⟨b, 0, none⟩))) ?_
  refine s_lt (t_pure (.int .i64 i)) ?_
  refine s_call [0] (rrot_s i (-1)) ?_
  rintro _ _ ⟨rfl, rfl⟩
  refine s_lt (t_pure (.int .i64 ((rotR L i (-1)).1))) ?_
  refine s_nil ?_
  refine xs_then ?_
  refine k_seq ?_
  refine k_seq ?_
  refine k_reg ?_
  refine s_lt (t_pure (.int .i64 ((rotR L i (-1)).1))) ?_
  refine s_lt t_cmp ?_
  refine s_nil ?_
  refine xs_then ?_
  refine k_cond (decide ((rotR L i (-1)).1 ≠ 0)) (fun c4 => ?_) (fun c4 => ?_)
  ·
    have p5 := of_decide_eq_true c4
    refine k_seq ?_
    refine k_reg ?_
    refine s_lt (t_pure (.int .i64 ((rotR L i (-1)).1))) ?_
    refine s_lt (t_pure (.int .i64 ((rotR L i (-1)).1))) ?_
    refine s_nil ?_
    refine xs_then ?_
    refine k_ret ?_
    refine xs_ret ?_
    have hp : rremR L i = ((rotR L i (-1)).1, (rotR L i (-1)).2) := by
      exact rrem_a p5
    refine xs_fin [.int .i64 ((rotR L i (-1)).1)] (stkA 68 b ((rotR L i (-1)).2) lim :: F) (SI.tmp 4 SI.nil) (fun _ h => h.re [0] []) ?_
    rw [hp]; exact ⟨rfl, rfl⟩
  ·
    have p6 := Decidable.not_not.1 (of_decide_eq_false c4)
    refine k_skip ?_
    refine xs_then ?_
    refine k_seq ?_
    refine k_reg ?_
    refine s_lt (t_pure (.pointer (some ⟨b, 0, none⟩))) ?_
    refine s_call [0] (rpop_s 1) ?_
    rintro _ _ ⟨rfl, rfl⟩
    refine s_lt (t_pure (.int .i64 ((popR ((rotR L i (-1)).2) 1).1))) ?_
    refine s_nil ?_
    refine xs_then ?_
    refine k_ret ?_
    have hp : rremR L i = ((popR ((rotR L i (-1)).2) 1).1, (popR ((rotR L i (-1)).2) 1).2) := by
      exact rrem_b p6
    refine xs_fin [.int .i64 ((popR ((rotR L i (-1)).2) 1).1)] (stkA 68 b ((popR ((rotR L i (-1)).2) 1).2) lim :: F) (SI.tmp 4 SI.nil) (fun _ h => h.re [0] []) ?_
    rw [hp]; exact ⟨rfl, rfl⟩
theorem rrem_n {Z : Zone} (i : Int) : SF Try.prog 46 #[.pointer none, .int .i64 i] Z [] fun r Bs => r = .int .i64 1 ∧ Bs = [] := by
  refine sf_enter Try.func46 14 [(0, .pointer none), (1, .int .i64 i)] (fun w0 => ?_)
  refine k_seq ?_
  refine k_reg ?_
  refine s_lt (t_pure (.int .i64 0)) ?_
  refine s_nil ?_
  refine xs_then ?_
  refine k_seq ?_
  refine k_reg ?_
  refine s_lt (t_pure (.pointer none)) ?_
  refine s_lt (t_pure (.int .i64 i)) ?_
  refine s_vcall (fun _ h => rrot_n i (-1)) ?_
  rintro _ rfl
  refine s_lt (t_pure (.int .i64 1)) ?_
  refine s_nil ?_
  refine xs_then ?_
  refine k_seq ?_
  refine k_seq ?_
  refine k_reg ?_
  refine s_lt (t_pure (.int .i64 1)) ?_
  refine s_lt (t_cmp (c := true)) ?_
  refine s_nil ?_
  refine xs_then ?_
  refine k_true ?_
  refine k_seq ?_
  refine k_reg ?_
  refine s_lt (t_pure (.int .i64 1)) ?_
  refine s_lt (t_pure (.int .i64 1)) ?_
  refine s_nil ?_
  refine xs_then ?_
  refine k_ret ?_
  refine xs_ret ?_
  refine xs_fin [.int .i64 1] [] (SI.tmp 4 SI.nil) (fun _ h => h.re [] []) ⟨?_, rfl⟩
  rfl
theorem rcopy_s {Z : Zone} {F : List Asr} {b : Nat} {L : List Vl} {lim : Int} (i j : Int) : SF Try.prog 48 #[.pointer (some ⟨b, 0, none⟩), .int .i64 i, .int .i64 j] Z (stkA 68 b L lim :: F) fun r Bs => r = .int .i64 (rcopyR L i j).1 ∧ Bs = stkA 68 b (rcopyR L i j).2 lim :: F := by
  refine sf_enter Try.func48 22 [(0, .pointer (some ⟨b, 0, none⟩)), (1, .int .i64 i), (2, .int .i64 j)] (fun w0 => ?_)
  refine k_fact (fun H h => stk_len (h.re [0] [])) (fun hl => ?_)
  obtain ⟨hl1, hl2, hl3⟩ := hl
  refine k_seq ?_
  refine k_reg ?_
  refine s_lt (t_pure (.int .i64 0)) ?_
  refine s_nil ?_
  refine xs_then ?_
  refine k_seq ?_
  refine k_reg ?_
  refine s_lt (t_pure (.pointer (some ⟨b, 0, none⟩))) ?_
  refine s_lt (t_pure (.int .i64 i)) ?_
  refine s_call [0] (rat_s i) ?_
  rintro _ _ ⟨rfl, rfl⟩
  refine s_lt (t_pure (.tuple #[.agg #[.int .i64 (((atR L i).1).kind), .int .i64 (((atR L i).1).p), .int .i64 (((atR L i).1).q), .string (((atR L i).1).str), .int .i64 (((atR L i).1).ref)], .int .i64 ((atR L i).2)])) ?_
  refine s_lt (t_pure (.agg #[.int .i64 (((atR L i).1).kind), .int .i64 (((atR L i).1).p), .int .i64 (((atR L i).1).q), .string (((atR L i).1).str), .int .i64 (((atR L i).1).ref)])) ?_
  refine s_lt (t_pure (.int .i64 ((atR L i).2))) ?_
  refine s_alloc (.agg #[.int .i64 0, .int .i64 0, .int .i64 0, .string ByteArray.empty, .int .i64 0]) #[.int .i64 0, .int .i64 0, .int .i64 0, .string ByteArray.empty, .int .i64 0] (fun g4 => ?_)
  refine s_store 0 #[.int .i64 (((atR L i).1).kind), .int .i64 (((atR L i).1).p), .int .i64 (((atR L i).1).q), .string (((atR L i).1).str), .int .i64 (((atR L i).1).ref)] ?_
  refine s_lt (t_pure (.int .i64 ((atR L i).2))) ?_
  refine s_nil ?_
  refine xs_then ?_
  refine k_seq ?_
  refine k_seq ?_
  refine k_reg ?_
  refine s_lt (t_pure (.int .i64 ((atR L i).2))) ?_
  refine s_lt t_cmp ?_
  refine s_nil ?_
  refine xs_then ?_
  refine k_cond (decide ((atR L i).2 ≠ 0)) (fun c5 => ?_) (fun c5 => ?_)
  ·
    have p6 := of_decide_eq_true c5
    refine k_seq ?_
    refine k_reg ?_
    refine s_lt (t_pure (.int .i64 ((atR L i).2))) ?_
    refine s_lt (t_pure (.int .i64 ((atR L i).2))) ?_
    refine s_nil ?_
    refine xs_then ?_
    refine k_ret ?_
    refine xs_ret ?_
    have hp : rcopyR L i j = ((atR L i).2, L) := by
      exact rcopy_a p6
    refine xs_fin [.int .i64 ((atR L i).2)] (stkA 68 b L lim :: F) (SI.tmp 6 SI.nil) (fun _ h => h.re [1] [1]) ?_
    rw [hp]; exact ⟨rfl, rfl⟩
  ·
    have p7 := Decidable.not_not.1 (of_decide_eq_false c5)
    refine k_skip ?_
    refine xs_then ?_
    refine k_seq ?_
    refine k_reg ?_
    refine s_lt (t_pure (.pointer (some ⟨b, 0, none⟩))) ?_
    refine s_lt (t_pure (.int .i64 j)) ?_
    refine s_lt (t_loadA 0 #[.int .i64 (((atR L i).1).kind), .int .i64 (((atR L i).1).p), .int .i64 (((atR L i).1).q), .string (((atR L i).1).str), .int .i64 (((atR L i).1).ref)]) ?_
    refine s_call [1] (rput_s j ((atR L i).1)) ?_
    rintro _ _ ⟨rfl, rfl⟩
    refine s_lt (t_pure (.int .i64 ((putR L j ((atR L i).1)).1))) ?_
    refine s_nil ?_
    refine xs_then ?_
    refine k_ret ?_
    have hp : rcopyR L i j = ((putR L j ((atR L i).1)).1, (putR L j ((atR L i).1)).2) := by
      exact rcopy_b p7
    refine xs_fin [.int .i64 ((putR L j ((atR L i).1)).1)] (stkA 68 b ((putR L j ((atR L i).1)).2) lim :: F) (SI.tmp 6 SI.nil) (fun _ h => h.re [0] [1]) ?_
    rw [hp]; exact ⟨rfl, rfl⟩
theorem rcopy_n {Z : Zone} (i j : Int) : SF Try.prog 48 #[.pointer none, .int .i64 i, .int .i64 j] Z [] fun r Bs => r = .int .i64 1 ∧ Bs = [] := by
  refine sf_enter Try.func48 22 [(0, .pointer none), (1, .int .i64 i), (2, .int .i64 j)] (fun w0 => ?_)
  refine k_seq ?_
  refine k_reg ?_
  refine s_lt (t_pure (.int .i64 0)) ?_
  refine s_nil ?_
  refine xs_then ?_
  refine k_seq ?_
  refine k_reg ?_
  refine s_lt (t_pure (.pointer none)) ?_
  refine s_lt (t_pure (.int .i64 i)) ?_
  refine s_vcall (fun _ h => rat_n i) ?_
  rintro _ rfl
  refine s_lt (t_pure (.tuple #[.agg #[.int .i64 zVl.kind, .int .i64 zVl.p, .int .i64 zVl.q, .string zVl.str, .int .i64 zVl.ref], .int .i64 1])) ?_
  refine s_lt (t_pure (.agg #[.int .i64 zVl.kind, .int .i64 zVl.p, .int .i64 zVl.q, .string zVl.str, .int .i64 zVl.ref])) ?_
  refine s_lt (t_pure (.int .i64 1)) ?_
  refine s_alloc (.agg #[.int .i64 0, .int .i64 0, .int .i64 0, .string ByteArray.empty, .int .i64 0]) #[.int .i64 0, .int .i64 0, .int .i64 0, .string ByteArray.empty, .int .i64 0] (fun g1 => ?_)
  refine s_store 0 #[.int .i64 zVl.kind, .int .i64 zVl.p, .int .i64 zVl.q, .string zVl.str, .int .i64 zVl.ref] ?_
  refine s_lt (t_pure (.int .i64 1)) ?_
  refine s_nil ?_
  refine xs_then ?_
  refine k_seq ?_
  refine k_seq ?_
  refine k_reg ?_
  refine s_lt (t_pure (.int .i64 1)) ?_
  refine s_lt (t_cmp (c := true)) ?_
  refine s_nil ?_
  refine xs_then ?_
  refine k_true ?_
  refine k_seq ?_
  refine k_reg ?_
  refine s_lt (t_pure (.int .i64 1)) ?_
  refine s_lt (t_pure (.int .i64 1)) ?_
  refine s_nil ?_
  refine xs_then ?_
  refine k_ret ?_
  refine xs_ret ?_
  refine xs_fin [.int .i64 1] [] (SI.tmp 6 SI.nil) (fun _ h => h.re [] [0]) ⟨?_, rfl⟩
  rfl
end Go.Proofs.Ytnhbejiakfaohaa
