/-
  FinalizerRevives walked. No condition but that the arguments are what the types say.
-/
import Derived.Test.YtipmkaabogocfaaF13
set_option linter.unusedSimpArgs false
set_option linter.unusedVariables false
set_option maxRecDepth 100000
set_option maxHeartbeats 2000000
namespace Go.Proofs.Ytipmkaabogocfaa
open Go.Hp Go.J Go.S
open Go.Mem (Ty KTy blk elemAt pre suf blk_pre blk_suf aget aset strK aggDesc)
theorem revives_w {Z : Zone} {ov rv : Value} {l : List Ob} {R : List Int} (hg : KnG Z ov rv l R) {lv : Value} {L : List Int} {n : Int} (hL : Kn Z iTy lv L) (hn : 0 ≤ n ∧ n ≤ 255) : SF Try.prog 7 #[.agg #[ov, rv], lv, .int .u8 n] Z [] fun r Bs => r = .bool true ∧ Bs = [] := by
  refine sf_enter Try.func7 115 [(0, .agg #[ov, rv]), (1, lv), (2, .int .u8 n)] (fun w0 => ?_)
  refine k_seq ?_
  refine k_reg ?_
  refine s_box #[ov, rv] (fun g1 => ?_)
  refine s_lt (t_pure (.bool false)) ?_
  refine s_nil ?_
  refine xs_then ?_
  refine k_seq ?_
  refine k_cut (ι := Unit) (fun _ => True) (fun _ => [(1, lv), (2, .int .u8 n), (3, .pointer (some ⟨g1, 0, none⟩)), (6, .bool false), (23, .bool ((largeB l R) || (decide ((errI (chk 0 l)) ≠ 0))))]) (fun _ => [blkA g1 #[ov, rv] 44]) ?_ (fun _ _ => ?_)
  ·
    refine k_reg ?_
    refine s_lt (t_loadA 0 #[ov, rv]) ?_
    refine s_vcall (fun _ h => large_s (hg.up h)) ?_
    rintro _ rfl
    refine s_lt (t_pure (.bool (largeB l R))) ?_
    refine s_fork 19 (largeB l R) (fun c2 => ?_) (fun c2 => ?_)
    ·
      refine s_skip ?_
      refine s_skip ?_
      refine s_skip ?_
      refine s_lt (t_pure (.bool true)) ?_
      refine s_nil ?_
      exact xs_cut () trivial (sub_of rfl ⟨⟨rfl, rfl⟩, ⟨⟨rfl, rfl⟩, ⟨⟨rfl, rfl⟩, ⟨⟨rfl, rfl⟩, ⟨⟨rfl, show Value.bool true = Value.bool ((largeB l R) || (decide ((errI (chk 0 l)) ≠ 0))) by first | (simp only [c2, Bool.true_and, Bool.false_and, Bool.and_true, Bool.and_false, Bool.true_or, Bool.or_true, Bool.false_or, Bool.or_false, Bool.not_true, Bool.not_false]; done) | simp [c2]⟩, trivial⟩⟩⟩⟩⟩) (fun _ h => h.re [0] [])
    ·
      obtain ⟨hl0, hr0, hsm0⟩ := small_of c2
      have hsm : ∀ o ∈ l, o.refs.length ≤ 400 ∧ o.ents.length ≤ 400 := fun o ho => by have := hsm0 o ho; omega
      have hp0 := pot_le l hsm []
      have hp : pot l [] ≤ 1000000 := by omega
      have hl : l.length ≤ 100000 := by omega
      have hr : R.length ≤ 100000 := by omega
      refine s_lt (t_loadA 0 #[ov, rv]) ?_
      refine s_vcall (fun _ h => rcheck_s (hg.up h)) ?_
      rintro _ rfl
      refine s_lt t_cmp ?_
      refine s_lt (t_pure (.bool (decide ((errI (chk 0 l)) ≠ 0)))) ?_
      refine s_nil ?_
      exact xs_cut () trivial (sub_of rfl ⟨⟨rfl, rfl⟩, ⟨⟨rfl, rfl⟩, ⟨⟨rfl, rfl⟩, ⟨⟨rfl, rfl⟩, ⟨⟨rfl, show Value.bool (decide ((errI (chk 0 l)) ≠ 0)) = Value.bool ((largeB l R) || (decide ((errI (chk 0 l)) ≠ 0))) by first | (simp only [c2, Bool.true_and, Bool.false_and, Bool.and_true, Bool.and_false, Bool.true_or, Bool.or_true, Bool.false_or, Bool.or_false, Bool.not_true, Bool.not_false]; done) | simp [c2]⟩, trivial⟩⟩⟩⟩⟩) (fun _ h => h.re [0] [])
  ·
    refine k_cond ((largeB l R) || (decide ((errI (chk 0 l)) ≠ 0))) (fun c3 => ?_) (fun c3 => ?_)
    ·
      have p4 := c3
      simp only [Bool.and_eq_true, Bool.or_eq_true, Bool.and_eq_false_iff, Bool.or_eq_false_iff, Bool.not_eq_true', Bool.not_eq_false', decide_eq_true_eq, decide_eq_false_iff_not] at p4
      refine k_seq ?_
      refine k_reg ?_
      refine s_vcall (fun _ h => awake_s) ?_
      rintro _ rfl
      refine s_lt (t_pure (.bool true)) ?_
      refine s_nil ?_
      refine xs_then ?_
      refine k_ret ?_
      refine xs_ret ?_
      exact xs_fin [.bool true] [] (SI.tmp 6 SI.nil) (fun _ h => h.re [] [0]) ⟨rfl, rfl⟩
    ·
      obtain ⟨c5, c6⟩ := or_f c3
      obtain ⟨hl0, hr0, hsm0⟩ := small_of c5
      have hsm : ∀ o ∈ l, o.refs.length ≤ 400 ∧ o.ents.length ≤ 400 := fun o ho => by have := hsm0 o ho; omega
      have hp0 := pot_le l hsm []
      have hp : pot l [] ≤ 1000000 := by omega
      have hl : l.length ≤ 100000 := by omega
      have hr : R.length ≤ 100000 := by omega
      have p7 := Decidable.not_not.1 (of_decide_eq_false c6)
      have hc := errI_ok p7; have hs := chk_asc hc
      have hc := errI_ok p7
      refine k_skip ?_
      refine xs_then ?_
      refine k_seq ?_
      refine k_reg ?_
      refine s_lt (t_pure lv) ?_
      refine s_lt (t_pure (.int .u8 n)) ?_
      refine s_pcall (fun _ h => queues_s (L := L) (Acc.kn (.zn hL) h) hn) ?_
      rintro _ _ ⟨qb8, pb9, rg10, pd11, rfl, hq12, rfl⟩
      refine s_lt (t_pure (.tuple #[.pointer (some ⟨qb8, 0, none⟩), .pointer (some ⟨pb9, 0, none⟩)])) ?_
      refine s_lt (t_pure (.pointer (some ⟨qb8, 0, none⟩))) ?_
      refine s_lt (t_pure (.pointer (some ⟨pb9, 0, none⟩))) ?_
      refine s_lt (t_pure (.pointer (some ⟨qb8, 0, none⟩))) ?_
      refine s_lt (t_pure (.pointer (some ⟨pb9, 0, none⟩))) ?_
      refine s_nil ?_
      refine xs_then ?_
      refine k_seq ?_
      refine k_seq ?_
      refine k_reg ?_
      refine s_lt (t_pure (.pointer (some ⟨qb8, 0, none⟩))) ?_
      refine s_lt (t_pure (.bool false)) ?_
      refine s_nil ?_
      refine xs_then ?_
      refine k_false ?_
      refine k_skip ?_
      refine xs_then ?_
      refine k_seq ?_
      refine k_reg ?_
      refine s_lt (t_pure (.pointer (some ⟨qb8, 0, none⟩))) ?_
      refine s_call [0] (registered_s (reg := rg10) (by first | omega | (simp only [List.length_append]; omega))) ?_
      rintro v13 _ rfl
      refine s_fact (fun H h => ((Acc.own (T := iTy) (L := rg10) 0 rfl) H h).form) (fun hf14 => ?_)
      refine s_lt (t_pure v13) ?_
      refine s_nil ?_
      refine xs_then ?_
      refine k_seq ?_
      refine k_reg ?_
      refine s_lt (t_loadA 3 #[ov, rv]) ?_
      refine s_lt (t_pure (.pointer (some ⟨qb8, 0, none⟩))) ?_
      refine s_call [1] (cycle_ok (l := l) (R := R) (reg := rg10) (pend := pd11) hg (by omega) (by omega) hsm (by first | omega | decide) (by first | omega | decide) hc) ?_
      rintro _ _ ⟨ov15, rv16, fv17, l18, rfl, hl19, rfl⟩
      have hcl := cyc_lens hl19
      have hPl : (cycP l R rg10 pd11).length ≤ 60 := by have := cycP_len l R rg10 pd11; show (_ ++ _ : List Int).length ≤ _; omega
      have hRl : (cycR l R rg10).length ≤ 60 := by have := stay_len (aliveR l R) rg10; show (stayL _ _).length ≤ _; omega
      refine s_fact (fun H h => ((Acc.own (T := iTy) (L := (cycF l R rg10 pd11)) 2 rfl) H h).form) (fun hf20 => ?_)
      refine s_lt (t_pure (.tuple #[.agg #[ov15, rv16], fv17, .int .i64 0])) ?_
      refine s_lt (t_pure (.agg #[ov15, rv16])) ?_
      refine s_lt (t_pure fv17) ?_
      refine s_lt (t_pure (.int .i64 0)) ?_
      refine s_alloc (.agg #[(.slice none 0 0), (.slice none 0 0)]) #[(.slice none 0 0), (.slice none 0 0)] (fun g21 => ?_)
      refine s_fact (fun H h => ((show Acc _ _ ObT _ _ from (accF 2)) H h).form) (fun hf22 => ?_)
      refine s_fact (fun H h => ((show Acc _ _ iTy _ _ from (accR 2)) H h).form) (fun hf23 => ?_)
      refine s_store (u := .agg #[ov15, rv16]) (m := 2) 0 #[ov15, rv16] ?_ (hm := by (obtain ⟨_, _, e0⟩ := hf22; obtain ⟨_, _, e1⟩ := hf23; rw [e0, e1]; rfl)) (h1 := by (obtain ⟨_, _, e0⟩ := hf22; obtain ⟨_, _, e1⟩ := hf23; rw [e0, e1]; rfl)) (ha' := by (obtain ⟨_, _, e0⟩ := hf22; obtain ⟨_, _, e1⟩ := hf23; rw [e0, e1]; rfl))
      refine s_lt (t_pure fv17) ?_
      refine s_lt (t_pure (.int .i64 0)) ?_
      refine s_nil ?_
      refine xs_then ?_
      refine k_seq ?_
      refine k_seq ?_
      refine k_reg ?_
      refine s_lt (t_pure (.int .i64 0)) ?_
      refine s_lt (t_cmp (c := false)) ?_
      refine s_lt (t_pure (.bool false)) ?_
      refine s_lt (t_pure (.pointer (some ⟨g21, 0, none⟩))) ?_
      refine s_lt (t_load 0 ov15) ?_
      refine s_lt (t_len ObT_ok Try.underlying42 (accF 2)) ?_
      refine s_lt (t_pure fv17) ?_
      refine s_lt (t_len iTy_ok Try.underlying22 (.own 3)) ?_
      refine s_lt (t_add (l18.length : Int) ((cycF l R rg10 pd11).length : Int) (by (try simp only [List.length_nil, List.length_cons, List.length_append, List.length_take, List.length_drop, List.length_set, List.length_replicate, List.length_reverse, bits_len]); omega)) ?_
      refine s_lt (t_pure (.pointer (some ⟨g1, 0, none⟩))) ?_
      refine s_lt (t_load 6 ov) ?_
      refine s_lt (t_len ObT_ok Try.underlying42 (.zn hg.obs)) ?_
      refine s_lt (Lt.to t_cmp (congrArg Value.bool (decide_eq_false (by omega) : (decide (((l18.length : Int) + ((cycF l R rg10 pd11).length : Int)) ≠ (l.length : Int))) = false))) ?_
      refine s_lt (t_pure (.bool false)) ?_
      refine s_nil ?_
      refine xs_then ?_
      refine k_false ?_
      refine k_skip ?_
      refine xs_then ?_
      refine k_seq ?_
      refine k_held [blkA g21 #[ov15, rv16] 44, own iTy fv17 (cycF l R rg10 pd11), own iTy v13 rg10, blkA g1 #[ov, rv] 44] ?_
      refine h_lt 0 rfl (np_then np_finS) [0, 2, 2, 3] (fun _ => (t_loadA 3 #[ov, rv])) ?_
      refine h_lt 1 rfl (np_then np_finS) [0, 2, 2, 3] (fun _ => (t_pure (.pointer (some ⟨qb8, 0, none⟩)))) ?_
      refine h_stepS 2 ?_
      refine s_call [1] (pending_s (pend := (cycP l R rg10 pd11)) (by first | omega | (simp only [List.length_append]; omega))) ?_
      rintro v24 _ rfl
      refine s_fact (fun H h => ((Acc.own (T := iTy) (L := (cycP l R rg10 pd11)) 0 rfl) H h).form) (fun hf25 => ?_)
      refine s_nil (xs_held [2, 3, 3, 4] ?_)
      refine h_stepS 3 ?_
      refine s_pcall (fun _ h => reach_s (hg.up h) (chk_asc hc) hp (L := (cycP l R rg10 pd11)) (Acc.kn (.own 0) h) (by first | omega | (simp only [List.length_append]; omega))) ?_
      rintro v26 _ ⟨M27, hM28, hMl29, rfl⟩
      refine s_fact (fun H h => ((Acc.own (T := iTy) (L := M27) 0 rfl) H h).form) (fun hf30 => ?_)
      refine s_nil (xs_held [3, 4, 4, 5] ?_)
      refine h_lt 4 rfl (np_then np_finS) [3, 4, 4, 5] (fun _ => (t_pure v26)) ?_
      refine h_doneS ?_
      refine xs_then ?_
      refine k_seq ?_
      refine k_reg ?_
      refine s_lt (t_pure v26) ?_
      refine s_lt (t_loadA 8 #[ov, rv]) ?_
      refine s_lt (t_pure (.pointer (some ⟨g1, 1, none⟩))) ?_
      refine s_lt (t_load 8 rv) ?_
      refine s_pcall (fun _ h => reach_s (hg.up h) (chk_asc hc) hp (L := R) (Acc.kn (.zn hg.roots) h) (by first | omega | (simp only [List.length_append]; omega))) ?_
      rintro v31 _ ⟨M32, hM33, hMl34, rfl⟩
      refine s_fact (fun H h => ((Acc.own (T := iTy) (L := M32) 0 rfl) H h).form) (fun hf35 => ?_)
      refine s_append (L := M27) 1 iTy_ok Try.underlying22 (.own 0) (by show _ * 8 ≤ _; (try simp only [List.length_nil, List.length_cons, List.length_append, List.length_take, List.length_drop, List.length_set, List.length_replicate, List.length_reverse, bits_len]); omega) (by (try simp only [List.length_nil, List.length_cons, List.length_append, List.length_take, List.length_drop, List.length_set, List.length_replicate, List.length_reverse, bits_len]); omega) (fun v36 => ?_)
      refine s_fact (fun H h => ((Acc.own (T := iTy) (L := (M27 ++ M32)) 1 rfl) H h).form) (fun hf37 => ?_)
      refine s_lt (t_pure v36) ?_
      refine s_nil ?_
      refine xs_then ?_
      refine k_seq ?_
      refine k_seq ?_
      refine k_reg ?_
      refine s_lt (t_pure v36) ?_
      refine s_lt (t_len iTy_ok Try.underlying22 (.own 1)) ?_
      refine s_lt (t_pure (.int .i64 0)) ?_
      refine s_nil ?_
      refine xs_then ?_
      refine k_block ?_
      have hlive : ∀ x ∈ (M27 ++ M32), x ∈ cycB l R rg10 pd11 ∧ Is l x := by
        intro x hx; rcases List.mem_append.1 hx with hx | hx
        · have q := hM28 x hx; exact ⟨rr_cyc (reg := rg10) (pend := pd11) hc (fun y hy => List.mem_append_right _ hy) q.1 q.2, q.2⟩
        · have q := hM33 x hx; exact ⟨rr_cyc (reg := rg10) (pend := pd11) hc (fun y hy => List.mem_append_left _ hy) q.1 q.2, q.2⟩
      refine k_loop (ι := Nat) (fun i => i ≤ ((M27 ++ M32)).length) (fun i => [(3, .pointer (some ⟨g1, 0, none⟩)), (6, .bool false), (7, .pointer (some ⟨qb8, 0, none⟩)), (9, v13), (10, .pointer (some ⟨g21, 0, none⟩)), (11, fv17), (13, v36), (67, .int .i64 ((M27 ++ M32).length : Int)), (68, .int .i64 (i : Int))]) (fun i => [own iTy v31 M32, own iTy v36 (M27 ++ M32), own iTy v24 (cycP l R rg10 pd11), qA qb8 (cycR l R rg10) (cycP l R rg10 pd11), blkA g21 #[ov15, rv16] 44, frz (GrA ov15 rv16 l18 R), own iTy fv17 (cycF l R rg10 pd11), own iTy v13 rg10, rqA pb9 rg10 pd11, blkA g1 #[ov, rv] 44]) (fun i => ((M27 ++ M32)).length - i) 0 (Nat.zero_le _) (sub_of rfl ⟨⟨rfl, rfl⟩, ⟨⟨rfl, rfl⟩, ⟨⟨rfl, rfl⟩, ⟨⟨rfl, rfl⟩, ⟨⟨rfl, rfl⟩, ⟨⟨rfl, rfl⟩, ⟨⟨rfl, rfl⟩, ⟨⟨rfl, rfl⟩, ⟨⟨rfl, rfl⟩, trivial⟩⟩⟩⟩⟩⟩⟩⟩⟩) (fun _ h => h.re [0, 0, 0, 0, 0, 0, 0, 0, 0, 0] []) ?_
      rintro i hi38
      show SK _ _ _ _ _ [(3, .pointer (some ⟨g1, 0, none⟩)), (6, .bool false), (7, .pointer (some ⟨qb8, 0, none⟩)), (9, v13), (10, .pointer (some ⟨g21, 0, none⟩)), (11, fv17), (13, v36), (67, .int .i64 ((M27 ++ M32).length : Int)), (68, .int .i64 (i : Int))] _ [own iTy v31 M32, own iTy v36 (M27 ++ M32), own iTy v24 (cycP l R rg10 pd11), qA qb8 (cycR l R rg10) (cycP l R rg10 pd11), blkA g21 #[ov15, rv16] 44, frz (GrA ov15 rv16 l18 R), own iTy fv17 (cycF l R rg10 pd11), own iTy v13 rg10, rqA pb9 rg10 pd11, blkA g1 #[ov, rv] 44]
      have hLVa : ((M27 ++ M32)).length = M27.length + M32.length := List.length_append
      refine k_seq ?_
      refine k_reg ?_
      refine s_lt t_cmp ?_
      refine s_nil ?_
      refine xs_then ?_
      refine k_seq ?_
      refine k_cond (decide ((i : Int) < ((M27 ++ M32).length : Int))) (fun c39 => ?_) (fun c39 => ?_)
      ·
        have p40 := of_decide_eq_true c39
        refine k_skip ?_
        refine xs_then ?_
        refine k_seq ?_
        refine k_block ?_
        refine k_seq ?_
        refine k_reg ?_
        refine s_lt (t_pure (.int .i64 (i : Int))) ?_
        refine s_lt (t_pure (.int .i64 (i : Int))) ?_
        refine s_nil ?_
        refine xs_then ?_
        refine k_seq ?_
        refine k_draw ?_
        refine s_lt (t_loadA 4 #[ov15, rv16]) ?_
        refine s_lt (t_pure v36) ?_
        refine s_lt (t_pure (.int .i64 (i : Int))) ?_
        refine s_lt (t_index iTy_ok Try.underlying22 (.own 1) (i : Int) i (by omega) (by (try simp only [List.length_nil, List.length_cons, List.length_append, List.length_take, List.length_drop, List.length_set, List.length_replicate, List.length_reverse, bits_len]); omega) (by omega)) ?_
        obtain ⟨y41, hy42⟩ : ∃ y, (M27 ++ M32)[i]? = some y := ⟨_, List.getElem?_eq_getElem (by (try simp only [List.length_nil, List.length_cons, List.length_append, List.length_take, List.length_drop, List.length_set, List.length_replicate, List.length_reverse, bits_len]); omega)⟩
        refine s_lt (t_loadE iTy_ok (.own 1) hy42) ?_
        refine s_vcall (fun _ h => findl_s (GrA.kn (h.frzF 5)) y41) ?_
        rintro _ rfl
        refine s_lt (Lt.to t_cmp (congrArg Value.bool (decide_eq_false (by have q := hlive _ (List.mem_of_getElem? hy42); have := findI_pos (cyc_found hl19 q.2 q.1); omega) : (decide ((findI l18 y41) < 0)) = false))) ?_
        refine s_lt (t_pure (.bool false)) ?_
        refine s_lt (t_pure fv17) ?_
        refine s_lt (t_pure v36) ?_
        refine s_lt (t_pure (.int .i64 (i : Int))) ?_
        refine s_lt (t_index iTy_ok Try.underlying22 (.own 1) (i : Int) i (by omega) (by (try simp only [List.length_nil, List.length_cons, List.length_append, List.length_take, List.length_drop, List.length_set, List.length_replicate, List.length_reverse, bits_len]); omega) (by omega)) ?_
        refine s_lt (t_loadE iTy_ok (.own 1) hy42) ?_
        refine s_vcall (fun _ h => count_s (L := (cycF l R rg10 pd11)) (Acc.kn (.own 6) h) y41 (by (try simp only [List.length_nil, List.length_cons, List.length_append, List.length_take, List.length_drop, List.length_set, List.length_replicate, List.length_reverse, bits_len]); omega)) ?_
        rintro _ rfl
        refine s_lt (Lt.to t_cmp (congrArg Value.bool (decide_eq_false (by have q := hlive _ (List.mem_of_getElem? hy42); intro hlt; have hm := (cnt_pos (L := cycF l R rg10 pd11) (n := y41)).1 (by omega); unfold cycF at hm; rw [List.mem_filter] at hm; simp [q.1] at hm) : (decide ((0 : Int) < (cntI (cycF l R rg10 pd11) y41 : Int))) = false))) ?_
        refine s_lt (t_pure (.bool false)) ?_
        refine s_nil ?_
        refine x_dynS (fun _ h => by kernel_rfl) ?_
        refine xs_then ?_
        refine k_false ?_
        refine k_skip ?_
        refine xs_block ?_
        refine xs_then ?_
        refine k_reg ?_
        refine s_lt (t_add (i : Int) 1 (by (try simp only [List.length_nil, List.length_cons, List.length_append, List.length_take, List.length_drop, List.length_set, List.length_replicate, List.length_reverse, bits_len]); omega)) ?_
        refine s_lt (t_pure (.int .i64 ((i : Int) + 1))) ?_
        refine s_nil ?_
        exact xs_round (i + 1) (by omega) (by show i + 1 ≤ ((M27 ++ M32)).length; omega) (sub_of rfl ⟨⟨rfl, rfl⟩, ⟨⟨rfl, rfl⟩, ⟨⟨rfl, rfl⟩, ⟨⟨rfl, rfl⟩, ⟨⟨rfl, rfl⟩, ⟨⟨rfl, rfl⟩, ⟨⟨rfl, rfl⟩, ⟨⟨rfl, rfl⟩, ⟨⟨rfl, rfl⟩, trivial⟩⟩⟩⟩⟩⟩⟩⟩⟩) (fun _ h => h.re [0, 0, 0, 0, 0, 0, 0, 0, 0, 0] [])
      ·
        have p43 := of_decide_eq_false c39
        refine k_exit ?_
        refine xs_exit ?_
        refine xs_exit ?_
        refine xs_here ?_
        refine xs_then ?_
        refine k_seq ?_
        refine k_reg ?_
        refine s_lt (t_loadA 9 #[ov, rv]) ?_
        refine s_lt (t_pure (.pointer (some ⟨g1, 1, none⟩))) ?_
        refine s_lt (t_load 9 rv) ?_
        refine s_pcall (fun _ h => reach_s (hg.up h) (chk_asc hc) hp (L := R) (Acc.kn (.zn hg.roots) h) (by first | omega | (simp only [List.length_append]; omega))) ?_
        rintro v44 _ ⟨M45, hM46, hMl47, rfl⟩
        refine s_fact (fun H h => ((Acc.own (T := iTy) (L := M45) 0 rfl) H h).form) (fun hf48 => ?_)
        refine s_lt (t_pure v44) ?_
        refine s_nil ?_
        refine xs_then ?_
        refine k_seq ?_
        refine k_seq ?_
        refine k_reg ?_
        refine s_lt (t_pure v13) ?_
        refine s_lt (t_len iTy_ok Try.underlying22 (.own 8)) ?_
        refine s_lt (t_pure (.int .i64 0)) ?_
        refine s_nil ?_
        refine xs_then ?_
        refine k_block ?_
        refine k_loop (ι := Nat) (fun j => j ≤ rg10.length) (fun j => [(6, .bool false), (7, .pointer (some ⟨qb8, 0, none⟩)), (9, v13), (15, v44), (93, .int .i64 (rg10.length : Int)), (94, .int .i64 (j : Int))]) (fun j => [own iTy v44 M45, own iTy v31 M32, own iTy v36 (M27 ++ M32), own iTy v24 (cycP l R rg10 pd11), qA qb8 (cycR l R rg10) (cycP l R rg10 pd11), blkA g21 #[ov15, rv16] 44, frz (GrA ov15 rv16 l18 R), own iTy fv17 (cycF l R rg10 pd11), own iTy v13 rg10, rqA pb9 rg10 pd11, blkA g1 #[ov, rv] 44]) (fun j => rg10.length - j) 0 (Nat.zero_le _) (sub_of rfl ⟨⟨rfl, rfl⟩, ⟨⟨rfl, rfl⟩, ⟨⟨rfl, rfl⟩, ⟨⟨rfl, rfl⟩, ⟨⟨rfl, rfl⟩, ⟨⟨rfl, rfl⟩, trivial⟩⟩⟩⟩⟩⟩) (fun _ h => h.re [0, 0, 0, 0, 0, 0, 0, 0, 0, 0, 0] []) ?_
        rintro j hi49
        show SK _ _ _ _ _ [(6, .bool false), (7, .pointer (some ⟨qb8, 0, none⟩)), (9, v13), (15, v44), (93, .int .i64 (rg10.length : Int)), (94, .int .i64 (j : Int))] _ [own iTy v44 M45, own iTy v31 M32, own iTy v36 (M27 ++ M32), own iTy v24 (cycP l R rg10 pd11), qA qb8 (cycR l R rg10) (cycP l R rg10 pd11), blkA g21 #[ov15, rv16] 44, frz (GrA ov15 rv16 l18 R), own iTy fv17 (cycF l R rg10 pd11), own iTy v13 rg10, rqA pb9 rg10 pd11, blkA g1 #[ov, rv] 44]
        refine k_seq ?_
        refine k_reg ?_
        refine s_lt t_cmp ?_
        refine s_nil ?_
        refine xs_then ?_
        refine k_seq ?_
        refine k_cond (decide ((j : Int) < (rg10.length : Int))) (fun c50 => ?_) (fun c50 => ?_)
        ·
          have p51 := of_decide_eq_true c50
          refine k_skip ?_
          refine xs_then ?_
          refine k_seq ?_
          refine k_block ?_
          refine k_seq ?_
          refine k_reg ?_
          refine s_lt (t_pure (.int .i64 (j : Int))) ?_
          refine s_lt (t_pure (.int .i64 (j : Int))) ?_
          refine s_nil ?_
          refine xs_then ?_
          refine k_seq ?_
          refine k_reg ?_
          refine s_lt (t_pure v44) ?_
          refine s_lt (t_pure v13) ?_
          refine s_lt (t_pure (.int .i64 (j : Int))) ?_
          refine s_lt (t_index iTy_ok Try.underlying22 (.own 8) (j : Int) j (by omega) (by (try simp only [List.length_nil, List.length_cons, List.length_append, List.length_take, List.length_drop, List.length_set, List.length_replicate, List.length_reverse, bits_len]); omega) (by omega)) ?_
          obtain ⟨y52, hy53⟩ : ∃ y, rg10[j]? = some y := ⟨_, List.getElem?_eq_getElem (by (try simp only [List.length_nil, List.length_cons, List.length_append, List.length_take, List.length_drop, List.length_set, List.length_replicate, List.length_reverse, bits_len]); omega)⟩
          refine s_lt (t_loadE iTy_ok (.own 8) hy53) ?_
          refine s_vcall (fun _ h => count_s (L := M45) (Acc.kn (.own 0) h) y52 (by (try simp only [List.length_nil, List.length_cons, List.length_append, List.length_take, List.length_drop, List.length_set, List.length_replicate, List.length_reverse, bits_len]); omega)) ?_
          rintro _ rfl
          refine s_lt t_cmp ?_
          refine s_lt (t_pure (.bool (decide ((0 : Int) < (cntI M45 y52 : Int))))) ?_
          refine s_fork 104 (decide ((0 : Int) < (cntI M45 y52 : Int))) (fun c54 => ?_) (fun c54 => ?_)
          ·
            have p55 := of_decide_eq_true c54
            refine s_lt (t_pure (.pointer (some ⟨qb8, 0, none⟩))) ?_
            refine s_lt (t_pure v13) ?_
            refine s_lt (t_pure (.int .i64 (j : Int))) ?_
            refine s_lt (t_index iTy_ok Try.underlying22 (.own 8) (j : Int) j (by omega) (by (try simp only [List.length_nil, List.length_cons, List.length_append, List.length_take, List.length_drop, List.length_set, List.length_replicate, List.length_reverse, bits_len]); omega) (by omega)) ?_
            refine s_lt (t_loadE iTy_ok (.own 8) hy53) ?_
            refine s_call [4] (has_s (reg := (cycR l R rg10)) y52 (by first | omega | (simp only [List.length_append]; omega))) ?_
            rintro u57 _ ⟨e56, rfl⟩
            obtain rfl : u57 = .bool true := e56.trans (congrArg Value.bool (decide_eq_true (by have hm := (cnt_pos (L := M45) (n := y52)).1 (by omega); have q := hM46 _ hm; show y52 ∈ stayL _ _; unfold stayL; rw [List.mem_filter]; exact ⟨List.mem_of_getElem? hy53, decide_eq_true (rr_alive hc (fun z hz => hz) q.1 q.2)⟩)))
            refine s_lt (t_pure (.bool false)) ?_
            refine s_lt (t_pure (.bool false)) ?_
            refine s_nil ?_
            refine xs_then ?_
            refine k_false ?_
            refine k_skip ?_
            refine xs_block ?_
            refine xs_then ?_
            refine k_reg ?_
            refine s_lt (t_add (j : Int) 1 (by (try simp only [List.length_nil, List.length_cons, List.length_append, List.length_take, List.length_drop, List.length_set, List.length_replicate, List.length_reverse, bits_len]); omega)) ?_
            refine s_lt (t_pure (.int .i64 ((j : Int) + 1))) ?_
            refine s_nil ?_
            exact xs_round (j + 1) (by omega) (by show j + 1 ≤ rg10.length; omega) (sub_of rfl ⟨⟨rfl, rfl⟩, ⟨⟨rfl, rfl⟩, ⟨⟨rfl, rfl⟩, ⟨⟨rfl, rfl⟩, ⟨⟨rfl, rfl⟩, ⟨⟨rfl, rfl⟩, trivial⟩⟩⟩⟩⟩⟩) (fun _ h => h.re [1, 1, 1, 1, 0, 0, 0, 0, 0, 0, 0] [])
          ·
            have p58 := of_decide_eq_false c54
            refine s_skip ?_
            refine s_skip ?_
            refine s_skip ?_
            refine s_skip ?_
            refine s_skip ?_
            refine s_skip ?_
            refine s_skip ?_
            refine s_lt (t_pure (.bool false)) ?_
            refine s_nil ?_
            refine xs_then ?_
            refine k_false ?_
            refine k_skip ?_
            refine xs_block ?_
            refine xs_then ?_
            refine k_reg ?_
            refine s_lt (t_add (j : Int) 1 (by (try simp only [List.length_nil, List.length_cons, List.length_append, List.length_take, List.length_drop, List.length_set, List.length_replicate, List.length_reverse, bits_len]); omega)) ?_
            refine s_lt (t_pure (.int .i64 ((j : Int) + 1))) ?_
            refine s_nil ?_
            exact xs_round (j + 1) (by omega) (by show j + 1 ≤ rg10.length; omega) (sub_of rfl ⟨⟨rfl, rfl⟩, ⟨⟨rfl, rfl⟩, ⟨⟨rfl, rfl⟩, ⟨⟨rfl, rfl⟩, ⟨⟨rfl, rfl⟩, ⟨⟨rfl, rfl⟩, trivial⟩⟩⟩⟩⟩⟩) (fun _ h => h.re [0, 0, 0, 0, 0, 0, 0, 0, 0, 0, 0] [])
        ·
          have p59 := of_decide_eq_false c50
          refine k_exit ?_
          refine xs_exit ?_
          refine xs_exit ?_
          refine xs_here ?_
          refine xs_then ?_
          refine k_seq ?_
          refine k_reg ?_
          refine s_vcall (fun _ h => awake_s) ?_
          rintro _ rfl
          refine s_lt (t_pure (.bool true)) ?_
          refine s_nil ?_
          refine xs_then ?_
          refine k_ret ?_
          exact xs_fin [.bool true] [] (SI.tmp 6 SI.nil) (fun _ h => h.re [] [0, 0, 0, 0, 0, 0, 0, 0, 0, 0, 0]) ⟨rfl, rfl⟩
end Go.Proofs.Ytipmkaabogocfaa
