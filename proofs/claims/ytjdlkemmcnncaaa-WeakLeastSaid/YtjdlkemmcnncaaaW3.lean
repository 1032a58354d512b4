/-
  Rounds of the marker; Alive and Rounds of the program. Each law says its conditions.
-/
import Derived.Test.YtjdlkemmcnncaaaW2
set_option linter.unusedSimpArgs false
set_option linter.unusedVariables false
set_option maxRecDepth 100000
namespace Go.Proofs.Ytjdlkemmcnncaaa
open Go.Hp Go.J Go.S
open Go.Mem (Ty KTy blk elemAt pre suf blk_pre blk_suf aget aset strK aggDesc)
theorem stepE_in {l : List Ob} {s : List Int × Bool} {e : Ent} (h : e.key ∈ s.1) : stepE l s e = (dfs l s.1 [e.val], s.2 || decide (s.1.length < (dfs l s.1 [e.val]).length)) := if_pos h
theorem stepE_out {l : List Ob} {s : List Int × Bool} {e : Ent} (h : e.key ∉ s.1) : stepE l s e = s := if_neg h
theorem stepT_in {l : List Ob} {s : List Int × Bool} {o : Ob} (h : o.id ∈ s.1) : stepT l s o = o.ents.foldl (stepE l) s := if_pos h
theorem stepT_out {l : List Ob} {s : List Int × Bool} {o : Ob} (h : o.id ∉ s.1) : stepT l s o = s := if_neg h
theorem round_s {Z : Zone} {F : List Asr} {b : Nat} {l : List Ob} {M0 : List Int} (hO : ∀ x ∈ l, KnO Z x) (hs : Asc l) (hl : l.length ≤ 100000) (hp : pot l [] ≤ 1000000) : SF Try.prog 41 #[.pointer (some ⟨b, 0, none⟩)] Z (mkA 71 b l M0 :: F) fun r Bs => r = .bool (rnd l M0).2 ∧ Bs = mkA 71 b l (rnd l M0).1 :: F := by
  refine sf_enter Try.func41 59 [(0, .pointer (some ⟨b, 0, none⟩))] (fun w0 => ?_)
  refine k_mem3 (fun H h => mk_open (h.re [0] [])) (fun at1 mb2 kv3 hw => ?_)
  refine k_seq ?_
  refine k_reg ?_
  refine s_lt (t_pure (.bool false)) ?_
  refine s_nil ?_
  refine xs_then ?_
  refine k_seq ?_
  refine k_reg ?_
  refine s_lt (t_pure (.bool false)) ?_
  refine s_nil ?_
  refine xs_then ?_
  refine k_seq ?_
  refine k_seq ?_
  refine k_reg ?_
  refine s_lt (t_pure (.pointer (some ⟨b, 0, none⟩))) ?_
  refine s_lt (t_pure (.pointer (some ⟨b, 0, none⟩))) ?_
  refine s_lt (t_pure (.pointer (some ⟨b, 2, none⟩))) ?_
  refine s_lt (t_load 0 kv3) ?_
  refine s_lt (t_len iTy_ok Try.underlying23 (.own 3)) ?_
  refine s_lt (t_pure (.int .i64 0)) ?_
  refine s_nil ?_
  refine xs_then ?_
  refine k_block ?_
  refine k_mem (fun _ h => mk_shut (h.re [0, 0, 0, 0] [])) ?_
  refine k_loop (ι := List Int × Bool × Nat) (fun (M, ch, i) => i ≤ (tabs l).length ∧ (M, ch) = ((tabs l).take i).foldl (stepT l) (M0, false)) (fun (M, ch, i) => [(0, .pointer (some ⟨b, 0, none⟩)), (2, .bool false), (3, .bool ch), (12, .int .i64 ((keyed l).length : Int)), (13, .int .i64 (i : Int))]) (fun (M, ch, i) => mkA 71 b l M :: F) (fun (M, ch, i) => (tabs l).length - i) (M0, false, 0) ⟨Nat.zero_le _, rfl⟩ (sub_of rfl ⟨⟨rfl, rfl⟩, ⟨⟨rfl, rfl⟩, ⟨⟨rfl, rfl⟩, ⟨⟨rfl, rfl⟩, ⟨⟨rfl, rfl⟩, trivial⟩⟩⟩⟩⟩) (fun _ h => h.re [0] []) ?_
  rintro ⟨M, ch, i⟩ hi4
  replace hi4 : i ≤ (tabs l).length ∧ (M, ch) = ((tabs l).take i).foldl (stepT l) (M0, false) := hi4
  show SK _ _ _ _ _ [(0, .pointer (some ⟨b, 0, none⟩)), (2, .bool false), (3, .bool ch), (12, .int .i64 ((keyed l).length : Int)), (13, .int .i64 (i : Int))] _ (mkA 71 b l M :: F)
  have hkt := keyed_tabs l; have hkl := keyed_len l
  refine k_seq ?_
  refine k_reg ?_
  refine s_lt t_cmp ?_
  refine s_nil ?_
  refine xs_then ?_
  refine k_seq ?_
  refine k_cond (decide ((i : Int) < ((keyed l).length : Int))) (fun c5 => ?_) (fun c5 => ?_)
  ·
    have p6 := of_decide_eq_true c5
    refine k_skip ?_
    refine xs_then ?_
    refine k_seq ?_
    refine k_block ?_
    refine k_seq ?_
    refine k_reg ?_
    refine s_lt (t_pure (.int .i64 (i : Int))) ?_
    refine s_lt (t_pure (.int .i64 (i : Int))) ?_
    refine s_nil ?_
    refine xs_then ?_
    refine k_seq ?_
    refine k_reg ?_
    refine s_lt (t_pure (.pointer (some ⟨b, 0, none⟩))) ?_
    refine s_lt (t_pure (.pointer (some ⟨b, 0, none⟩))) ?_
    refine s_lt (t_pure (.pointer (some ⟨b, 2, none⟩))) ?_
    refine s_mem3 (fun H h => mk_open (h.re [0] [])) (fun at7 mb8 kv9 hw => ?_)
    refine s_lt (t_load 0 kv9) ?_
    refine s_lt (t_pure (.int .i64 (i : Int))) ?_
    refine s_lt (t_index iTy_ok Try.underlying23 (.own 3) (i : Int) i (by omega) (by (try simp only [List.length_nil, List.length_cons, List.length_append, List.length_take, List.length_drop, List.length_set, List.length_replicate, List.length_reverse]); omega) (by omega)) ?_
    obtain ⟨y10, hy11⟩ : ∃ y, (keyed l)[i]? = some y := ⟨_, List.getElem?_eq_getElem (by (try simp only [List.length_nil, List.length_cons, List.length_append, List.length_take, List.length_drop, List.length_set, List.length_replicate, List.length_reverse]); omega)⟩
    obtain ⟨ob12, ht13, ht14, ht15, ht16, ht17⟩ := keyed_get hs hy11
    have hk18 := hO ob12 ht17
    refine s_lt (t_loadE iTy_ok (.own 3) hy11) ?_
    refine s_lt (t_pure (.int .i64 y10)) ?_
    refine s_nil ?_
    refine xs_then ?_
    refine k_seq ?_
    refine k_seq ?_
    refine k_reg ?_
    refine s_lt (t_pure (.pointer (some ⟨b, 0, none⟩))) ?_
    refine s_lt (t_pure (.pointer (some ⟨b, 0, none⟩))) ?_
    refine s_lt (t_pure (.pointer (some ⟨b, 1, none⟩))) ?_
    refine s_lt (t_load 0 (.map (some mb8))) ?_
    refine s_lt (t_pure (.int .i64 y10)) ?_
    refine s_lt (Lt.to (v' := .int .i64 (mkI M y10)) (t_lookup 2 intOk Try.underlying69 (.int .i64 0) y10) (got_mk _ _)) ?_
    refine s_lt t_cmp ?_
    refine s_nil ?_
    refine xs_then ?_
    refine k_cond (decide ((mkI M y10) = 0)) (fun c19 => ?_) (fun c19 => ?_)
    ·
      have p20 := of_decide_eq_true c19
      refine k_exit ?_
      refine xs_exit ?_
      refine xs_here ?_
      refine xs_then ?_
      refine k_reg ?_
      refine s_lt (t_add (i : Int) 1 (by (try simp only [List.length_nil, List.length_cons, List.length_append, List.length_take, List.length_drop, List.length_set, List.length_replicate, List.length_reverse]); omega)) ?_
      refine s_lt (t_pure (.int .i64 ((i : Int) + 1))) ?_
      refine s_nil ?_
      refine xs_mem (fun _ h => mk_shut (h.re [0, 0, 0, 0] [])) ?_
      exact xs_round (M, ch, i + 1) (by show (tabs l).length - (i + 1) < (tabs l).length - i; omega) (by obtain ⟨hi1, hi2⟩ := hi4; refine ⟨by omega, ?_⟩; rw [fold_take ht13, ← hi2]; exact (stepT_out (by rw [ht14]; exact mkI_eq p20)).symm) (sub_of rfl ⟨⟨rfl, rfl⟩, ⟨⟨rfl, rfl⟩, ⟨⟨rfl, rfl⟩, ⟨⟨rfl, rfl⟩, ⟨⟨rfl, rfl⟩, trivial⟩⟩⟩⟩⟩) (fun _ h => h.re [0] [])
    ·
      have p21 := of_decide_eq_false c19
      refine k_skip ?_
      refine xs_then ?_
      refine k_seq ?_
      refine k_reg ?_
      refine s_lt (t_pure (.pointer (some ⟨b, 0, none⟩))) ?_
      refine s_lt (t_pure (.pointer (some ⟨b, 0, none⟩))) ?_
      refine s_lt (t_pure (.pointer (some ⟨b, 0, none⟩))) ?_
      refine s_lt (t_load 0 (.map (some at7))) ?_
      refine s_lt (t_pure (.int .i64 y10)) ?_
      refine s_lt (Lt.to (v' := ob12.v) (t_lookup 1 intOk Try.underlying68 (.agg #[.int .i64 0, .int .i64 0, .int .i64 0, (.slice none 0 0), (.slice none 0 0)]) y10) (by rw [aget_at, ht16]; rfl)) ?_
      refine s_lt (t_pure ob12.ev.v) ?_
      refine s_lt (t_len EntT_ok Try.underlying40 (.zn hk18.2)) ?_
      refine s_lt (t_pure (.int .i64 0)) ?_
      refine s_nil ?_
      refine xs_then ?_
      refine k_block ?_
      refine k_mem (fun _ h => mk_shut (h.re [0, 0, 0, 0] [])) ?_
      refine k_fact (fun H h => (hk18.2.get h).len_le) (fun le => ?_)
      refine k_loop (ι := List Int × Bool × Nat) (fun (N, ci, k) => k ≤ ob12.ents.length ∧ (N, ci) = (ob12.ents.take k).foldl (stepE l) (M, ch)) (fun (N, ci, k) => [(0, .pointer (some ⟨b, 0, none⟩)), (2, .bool false), (3, .bool ci), (4, .int .i64 (i : Int)), (5, .int .i64 y10), (12, .int .i64 ((keyed l).length : Int)), (13, .int .i64 (i : Int)), (14, .bool (decide ((i : Int) < ((keyed l).length : Int)))), (15, .int .i64 (i : Int)), (16, .pointer (some ⟨b, 0, none⟩)), (17, .pointer (some ⟨b, 0, none⟩)), (18, .pointer (some ⟨b, 2, none⟩)), (19, kv9), (20, .int .i64 (i : Int)), (21, .pointer (some (elemAt iTy.size kv9 i))), (22, .int .i64 y10), (23, .pointer (some ⟨b, 0, none⟩)), (24, .pointer (some ⟨b, 0, none⟩)), (25, .pointer (some ⟨b, 1, none⟩)), (26, .map (some mb8)), (27, .int .i64 y10), (28, .int .i64 (mkI M y10)), (29, .bool (decide ((mkI M y10) = 0))), (30, .pointer (some ⟨b, 0, none⟩)), (31, .pointer (some ⟨b, 0, none⟩)), (32, .pointer (some ⟨b, 0, none⟩)), (33, .map (some at7)), (34, .int .i64 y10), (35, .agg #[.int .i64 ob12.id, .int .i64 ob12.size, .int .i64 ob12.weak, ob12.rv.v, ob12.ev.v]), (36, ob12.ev.v), (37, .int .i64 (ob12.ents.length : Int)), (38, .int .i64 (k : Int))]) (fun (N, ci, k) => mkA 71 b l N :: F) (fun (N, ci, k) => ob12.ents.length - k) (M, ch, 0) ⟨Nat.zero_le _, rfl⟩ (sub_of rfl ⟨⟨rfl, rfl⟩, ⟨⟨rfl, rfl⟩, ⟨⟨rfl, rfl⟩, ⟨⟨rfl, rfl⟩, ⟨⟨rfl, rfl⟩, ⟨⟨rfl, rfl⟩, ⟨⟨rfl, rfl⟩, ⟨⟨rfl, rfl⟩, ⟨⟨rfl, rfl⟩, ⟨⟨rfl, rfl⟩, ⟨⟨rfl, rfl⟩, ⟨⟨rfl, rfl⟩, ⟨⟨rfl, rfl⟩, ⟨⟨rfl, rfl⟩, ⟨⟨rfl, rfl⟩, ⟨⟨rfl, rfl⟩, ⟨⟨rfl, rfl⟩, ⟨⟨rfl, rfl⟩, ⟨⟨rfl, rfl⟩, ⟨⟨rfl, rfl⟩, ⟨⟨rfl, rfl⟩, ⟨⟨rfl, rfl⟩, ⟨⟨rfl, rfl⟩, ⟨⟨rfl, rfl⟩, ⟨⟨rfl, rfl⟩, ⟨⟨rfl, rfl⟩, ⟨⟨rfl, rfl⟩, ⟨⟨rfl, rfl⟩, ⟨⟨rfl, rfl⟩, ⟨⟨rfl, rfl⟩, ⟨⟨rfl, rfl⟩, ⟨⟨rfl, rfl⟩, trivial⟩⟩⟩⟩⟩⟩⟩⟩⟩⟩⟩⟩⟩⟩⟩⟩⟩⟩⟩⟩⟩⟩⟩⟩⟩⟩⟩⟩⟩⟩⟩⟩) (fun _ h => h.re [0] []) ?_
      rintro ⟨N, ci, k⟩ hi24
      replace hi24 : k ≤ ob12.ents.length ∧ (N, ci) = (ob12.ents.take k).foldl (stepE l) (M, ch) := hi24
      show SK _ _ _ _ _ [(0, .pointer (some ⟨b, 0, none⟩)), (2, .bool false), (3, .bool ci), (4, .int .i64 (i : Int)), (5, .int .i64 y10), (12, .int .i64 ((keyed l).length : Int)), (13, .int .i64 (i : Int)), (14, .bool (decide ((i : Int) < ((keyed l).length : Int)))), (15, .int .i64 (i : Int)), (16, .pointer (some ⟨b, 0, none⟩)), (17, .pointer (some ⟨b, 0, none⟩)), (18, .pointer (some ⟨b, 2, none⟩)), (19, kv9), (20, .int .i64 (i : Int)), (21, .pointer (some (elemAt iTy.size kv9 i))), (22, .int .i64 y10), (23, .pointer (some ⟨b, 0, none⟩)), (24, .pointer (some ⟨b, 0, none⟩)), (25, .pointer (some ⟨b, 1, none⟩)), (26, .map (some mb8)), (27, .int .i64 y10), (28, .int .i64 (mkI M y10)), (29, .bool (decide ((mkI M y10) = 0))), (30, .pointer (some ⟨b, 0, none⟩)), (31, .pointer (some ⟨b, 0, none⟩)), (32, .pointer (some ⟨b, 0, none⟩)), (33, .map (some at7)), (34, .int .i64 y10), (35, .agg #[.int .i64 ob12.id, .int .i64 ob12.size, .int .i64 ob12.weak, ob12.rv.v, ob12.ev.v]), (36, ob12.ev.v), (37, .int .i64 (ob12.ents.length : Int)), (38, .int .i64 (k : Int))] _ (mkA 71 b l N :: F)
      refine k_seq ?_
      refine k_reg ?_
      refine s_lt t_cmp ?_
      refine s_nil ?_
      refine xs_then ?_
      refine k_seq ?_
      refine k_cond (decide ((k : Int) < (ob12.ents.length : Int))) (fun c25 => ?_) (fun c25 => ?_)
      ·
        have p26 := of_decide_eq_true c25
        refine k_skip ?_
        refine xs_then ?_
        refine k_seq ?_
        refine k_block ?_
        refine k_seq ?_
        refine k_reg ?_
        refine s_lt (t_index EntT_ok Try.underlying40 (.zn hk18.2) (k : Int) k (by omega) (by (try simp only [List.length_nil, List.length_cons, List.length_append, List.length_take, List.length_drop, List.length_set, List.length_replicate, List.length_reverse]); omega) (by omega)) ?_
        obtain ⟨y27, hy28⟩ : ∃ y, ob12.ents[k]? = some y := ⟨_, List.getElem?_eq_getElem (by (try simp only [List.length_nil, List.length_cons, List.length_append, List.length_take, List.length_drop, List.length_set, List.length_replicate, List.length_reverse]); omega)⟩
        refine s_lt (t_loadE EntT_ok (.zn hk18.2) hy28) ?_
        refine s_alloc (.agg #[.int .i64 0, .int .i64 0]) #[.int .i64 0, .int .i64 0] (fun g29 => ?_)
        refine s_store 0 #[.int .i64 y27.key, .int .i64 y27.val] ?_
        refine s_nil ?_
        refine xs_then ?_
        refine k_seq ?_
        refine k_draw ?_
        refine s_lt (t_pure (.pointer (some ⟨b, 0, none⟩))) ?_
        refine s_lt (t_pure (.pointer (some ⟨b, 0, none⟩))) ?_
        refine s_lt (t_pure (.pointer (some ⟨b, 1, none⟩))) ?_
        refine s_mem3 (fun H h => mk_open (h.re [1] [])) (fun at30 mb31 kv32 hw => ?_)
        refine s_lt (t_load 0 (.map (some mb31))) ?_
        refine s_lt (t_pure (.pointer (some ⟨g29, 0, none⟩))) ?_
        refine s_lt (t_load 4 (.int .i64 y27.key)) ?_
        refine s_lt (Lt.to (v' := .int .i64 (mkI N y27.key)) (t_lookup 2 intOk Try.underlying69 (.int .i64 0) y27.key) (got_mk _ _)) ?_
        refine s_lt t_cmp ?_
        refine s_lt (t_pure (.bool (decide ((mkI N y27.key) ≠ 0)))) ?_
        refine s_fork 50 (decide ((mkI N y27.key) ≠ 0)) (fun c33 => ?_) (fun c33 => ?_)
        ·
          have p34 := of_decide_eq_true c33
          refine s_lt (t_pure (.pointer (some ⟨b, 0, none⟩))) ?_
          refine s_lt (t_pure (.pointer (some ⟨g29, 1, none⟩))) ?_
          refine s_lt (t_load 4 (.int .i64 y27.val)) ?_
          refine s_mem (fun _ h => mk_shut (h.re [0, 0, 0, 0] [])) ?_
          refine s_call [0] (mark_s hO hp y27.val) ?_
          rintro _ _ ⟨rfl, rfl⟩
          refine s_lt (t_pure (.bool (decide (N.length < (dfs l N [y27.val]).length)))) ?_
          refine s_nil ?_
          refine x_dynS (fun _ h => by kernel_rfl) ?_
          refine xs_then ?_
          refine k_cond (decide (N.length < (dfs l N [y27.val]).length)) (fun c35 => ?_) (fun c35 => ?_)
          ·
            have p36 := of_decide_eq_true c35
            refine k_reg ?_
            refine s_lt (t_pure (.bool true)) ?_
            refine s_nil ?_
            refine xs_block ?_
            refine xs_then ?_
            refine k_reg ?_
            refine s_lt (t_add (k : Int) 1 (by (try simp only [List.length_nil, List.length_cons, List.length_append, List.length_take, List.length_drop, List.length_set, List.length_replicate, List.length_reverse]); omega)) ?_
            refine s_lt (t_pure (.int .i64 ((k : Int) + 1))) ?_
            refine s_nil ?_
            exact xs_round ((dfs l N [y27.val]), true, k + 1) (by show ob12.ents.length - (k + 1) < ob12.ents.length - k; omega) (by obtain ⟨hi1, hi2⟩ := hi24; refine ⟨by omega, ?_⟩; rw [fold_take hy28, ← hi2]; rw [stepE_in (mkI_ne p34)]; rw [decide_eq_true p36, Bool.or_true]) (sub_of rfl ⟨⟨rfl, rfl⟩, ⟨⟨rfl, rfl⟩, ⟨⟨rfl, rfl⟩, ⟨⟨rfl, rfl⟩, ⟨⟨rfl, rfl⟩, ⟨⟨rfl, rfl⟩, ⟨⟨rfl, rfl⟩, ⟨⟨rfl, rfl⟩, ⟨⟨rfl, rfl⟩, ⟨⟨rfl, rfl⟩, ⟨⟨rfl, rfl⟩, ⟨⟨rfl, rfl⟩, ⟨⟨rfl, rfl⟩, ⟨⟨rfl, rfl⟩, ⟨⟨rfl, rfl⟩, ⟨⟨rfl, rfl⟩, ⟨⟨rfl, rfl⟩, ⟨⟨rfl, rfl⟩, ⟨⟨rfl, rfl⟩, ⟨⟨rfl, rfl⟩, ⟨⟨rfl, rfl⟩, ⟨⟨rfl, rfl⟩, ⟨⟨rfl, rfl⟩, ⟨⟨rfl, rfl⟩, ⟨⟨rfl, rfl⟩, ⟨⟨rfl, rfl⟩, ⟨⟨rfl, rfl⟩, ⟨⟨rfl, rfl⟩, ⟨⟨rfl, rfl⟩, ⟨⟨rfl, rfl⟩, ⟨⟨rfl, rfl⟩, ⟨⟨rfl, rfl⟩, trivial⟩⟩⟩⟩⟩⟩⟩⟩⟩⟩⟩⟩⟩⟩⟩⟩⟩⟩⟩⟩⟩⟩⟩⟩⟩⟩⟩⟩⟩⟩⟩⟩) (fun _ h => h.re [0] [1])
          ·
            have p37 := of_decide_eq_false c35
            refine k_skip ?_
            refine xs_block ?_
            refine xs_then ?_
            refine k_reg ?_
            refine s_lt (t_add (k : Int) 1 (by (try simp only [List.length_nil, List.length_cons, List.length_append, List.length_take, List.length_drop, List.length_set, List.length_replicate, List.length_reverse]); omega)) ?_
            refine s_lt (t_pure (.int .i64 ((k : Int) + 1))) ?_
            refine s_nil ?_
            exact xs_round ((dfs l N [y27.val]), ci, k + 1) (by show ob12.ents.length - (k + 1) < ob12.ents.length - k; omega) (by obtain ⟨hi1, hi2⟩ := hi24; refine ⟨by omega, ?_⟩; rw [fold_take hy28, ← hi2]; rw [stepE_in (mkI_ne p34)]; rw [decide_eq_false p37, Bool.or_false]) (sub_of rfl ⟨⟨rfl, rfl⟩, ⟨⟨rfl, rfl⟩, ⟨⟨rfl, rfl⟩, ⟨⟨rfl, rfl⟩, ⟨⟨rfl, rfl⟩, ⟨⟨rfl, rfl⟩, ⟨⟨rfl, rfl⟩, ⟨⟨rfl, rfl⟩, ⟨⟨rfl, rfl⟩, ⟨⟨rfl, rfl⟩, ⟨⟨rfl, rfl⟩, ⟨⟨rfl, rfl⟩, ⟨⟨rfl, rfl⟩, ⟨⟨rfl, rfl⟩, ⟨⟨rfl, rfl⟩, ⟨⟨rfl, rfl⟩, ⟨⟨rfl, rfl⟩, ⟨⟨rfl, rfl⟩, ⟨⟨rfl, rfl⟩, ⟨⟨rfl, rfl⟩, ⟨⟨rfl, rfl⟩, ⟨⟨rfl, rfl⟩, ⟨⟨rfl, rfl⟩, ⟨⟨rfl, rfl⟩, ⟨⟨rfl, rfl⟩, ⟨⟨rfl, rfl⟩, ⟨⟨rfl, rfl⟩, ⟨⟨rfl, rfl⟩, ⟨⟨rfl, rfl⟩, ⟨⟨rfl, rfl⟩, ⟨⟨rfl, rfl⟩, ⟨⟨rfl, rfl⟩, trivial⟩⟩⟩⟩⟩⟩⟩⟩⟩⟩⟩⟩⟩⟩⟩⟩⟩⟩⟩⟩⟩⟩⟩⟩⟩⟩⟩⟩⟩⟩⟩⟩) (fun _ h => h.re [0] [1])
        ·
          have p38 := Decidable.not_not.1 (of_decide_eq_false c33)
          refine s_skip ?_
          refine s_skip ?_
          refine s_skip ?_
          refine s_skip ?_
          refine s_lt (t_pure (.bool false)) ?_
          refine s_nil ?_
          refine x_dynS (fun _ h => by kernel_rfl) ?_
          refine xs_then ?_
          refine k_false ?_
          refine k_skip ?_
          refine xs_block ?_
          refine xs_then ?_
          refine k_reg ?_
          refine s_lt (t_add (k : Int) 1 (by (try simp only [List.length_nil, List.length_cons, List.length_append, List.length_take, List.length_drop, List.length_set, List.length_replicate, List.length_reverse]); omega)) ?_
          refine s_lt (t_pure (.int .i64 ((k : Int) + 1))) ?_
          refine s_nil ?_
          refine xs_mem (fun _ h => mk_shut (h.re [0, 0, 0, 0] [])) ?_
          exact xs_round (N, ci, k + 1) (by show ob12.ents.length - (k + 1) < ob12.ents.length - k; omega) (by obtain ⟨hi1, hi2⟩ := hi24; refine ⟨by omega, ?_⟩; rw [fold_take hy28, ← hi2]; exact (stepE_out (mkI_eq p38)).symm) (sub_of rfl ⟨⟨rfl, rfl⟩, ⟨⟨rfl, rfl⟩, ⟨⟨rfl, rfl⟩, ⟨⟨rfl, rfl⟩, ⟨⟨rfl, rfl⟩, ⟨⟨rfl, rfl⟩, ⟨⟨rfl, rfl⟩, ⟨⟨rfl, rfl⟩, ⟨⟨rfl, rfl⟩, ⟨⟨rfl, rfl⟩, ⟨⟨rfl, rfl⟩, ⟨⟨rfl, rfl⟩, ⟨⟨rfl, rfl⟩, ⟨⟨rfl, rfl⟩, ⟨⟨rfl, rfl⟩, ⟨⟨rfl, rfl⟩, ⟨⟨rfl, rfl⟩, ⟨⟨rfl, rfl⟩, ⟨⟨rfl, rfl⟩, ⟨⟨rfl, rfl⟩, ⟨⟨rfl, rfl⟩, ⟨⟨rfl, rfl⟩, ⟨⟨rfl, rfl⟩, ⟨⟨rfl, rfl⟩, ⟨⟨rfl, rfl⟩, ⟨⟨rfl, rfl⟩, ⟨⟨rfl, rfl⟩, ⟨⟨rfl, rfl⟩, ⟨⟨rfl, rfl⟩, ⟨⟨rfl, rfl⟩, ⟨⟨rfl, rfl⟩, ⟨⟨rfl, rfl⟩, trivial⟩⟩⟩⟩⟩⟩⟩⟩⟩⟩⟩⟩⟩⟩⟩⟩⟩⟩⟩⟩⟩⟩⟩⟩⟩⟩⟩⟩⟩⟩⟩⟩) (fun _ h => h.re [0] [1])
      ·
        have p39 := of_decide_eq_false c25
        refine k_exit ?_
        obtain rfl : k = ob12.ents.length := by omega
        refine xs_exit ?_
        refine xs_exit ?_
        refine xs_here ?_
        refine xs_block ?_
        refine xs_then ?_
        refine k_reg ?_
        refine s_lt (t_add (i : Int) 1 (by (try simp only [List.length_nil, List.length_cons, List.length_append, List.length_take, List.length_drop, List.length_set, List.length_replicate, List.length_reverse]); omega)) ?_
        refine s_lt (t_pure (.int .i64 ((i : Int) + 1))) ?_
        refine s_nil ?_
        exact xs_round (N, ci, i + 1) (by show (tabs l).length - (i + 1) < (tabs l).length - i; omega) (by obtain ⟨hi1, hi2⟩ := hi4; refine ⟨by omega, ?_⟩; rw [fold_take ht13, ← hi2]; rw [stepT_in (by rw [ht14]; exact mkI_ne p21)]; rw [← fold_end (Nat.le_refl _)]; exact hi24.2) (sub_of rfl ⟨⟨rfl, rfl⟩, ⟨⟨rfl, rfl⟩, ⟨⟨rfl, rfl⟩, ⟨⟨rfl, rfl⟩, ⟨⟨rfl, rfl⟩, trivial⟩⟩⟩⟩⟩) (fun _ h => h.re [0] [])
  ·
    have p40 := of_decide_eq_false c5
    refine k_exit ?_
    refine xs_exit ?_
    refine xs_exit ?_
    refine xs_here ?_
    refine xs_then ?_
    refine k_seq ?_
    refine k_reg ?_
    refine s_lt (t_pure (.bool ch)) ?_
    refine s_lt (t_pure (.bool ch)) ?_
    refine s_nil ?_
    refine xs_then ?_
    refine k_ret ?_
    have hend : (M, ch) = rnd l M0 := by rw [hi4.2, fold_end (by omega)]; rfl
    refine xs_fin [.bool ch] (mkA 71 b l M :: F) (SI.tmp 2 SI.nil) (fun _ h => h.re [0] []) ?_
    rw [← hend]; exact ⟨rfl, rfl⟩
theorem run_s {rv : Value} {R : List Int} {Z : Zone} {F : List Asr} {b : Nat} {l : List Ob} (hO : ∀ x ∈ l, KnO Z x) (hs : Asc l) (hl : l.length ≤ 100000) (hp : pot l [] ≤ 1000000) (hR : Kn Z iTy rv R) : SF Try.prog 29 #[.pointer (some ⟨b, 0, none⟩), rv] Z (mkA 71 b l [] :: F) fun r Bs => r = .int .i64 ((allP l R).2 : Int) ∧ Bs = mkA 71 b l (allP l R).1 :: F := by
  refine sf_enter Try.func29 23 [(0, .pointer (some ⟨b, 0, none⟩)), (1, rv)] (fun w0 => ?_)
  refine k_fact (fun H h => (hR.get h).len_le) (fun lR => ?_)
  refine k_seq ?_
  refine k_reg ?_
  refine s_lt (t_pure (.int .i64 0)) ?_
  refine s_nil ?_
  refine xs_then ?_
  refine k_seq ?_
  refine k_seq ?_
  refine k_reg ?_
  refine s_lt (t_pure rv) ?_
  refine s_lt (t_len iTy_ok Try.underlying23 (.zn hR)) ?_
  refine s_lt (t_pure (.int .i64 0)) ?_
  refine s_nil ?_
  refine xs_then ?_
  refine k_block ?_
  refine k_loop (ι := Nat) (fun i => i ≤ R.length) (fun i => [(0, .pointer (some ⟨b, 0, none⟩)), (4, .int .i64 0), (8, rv), (9, .int .i64 (R.length : Int)), (10, .int .i64 (i : Int))]) (fun i => mkA 71 b l (rootsP l [] (R.take i)) :: F) (fun i => R.length - i) 0 (Nat.zero_le _) (sub_of rfl ⟨⟨rfl, rfl⟩, ⟨⟨rfl, rfl⟩, ⟨⟨rfl, rfl⟩, ⟨⟨rfl, rfl⟩, ⟨⟨rfl, rfl⟩, trivial⟩⟩⟩⟩⟩) (fun _ h => h.re [0] []) ?_
  rintro i hi1
  show SK _ _ _ _ _ [(0, .pointer (some ⟨b, 0, none⟩)), (4, .int .i64 0), (8, rv), (9, .int .i64 (R.length : Int)), (10, .int .i64 (i : Int))] _ (mkA 71 b l (rootsP l [] (R.take i)) :: F)
  refine k_seq ?_
  refine k_reg ?_
  refine s_lt t_cmp ?_
  refine s_nil ?_
  refine xs_then ?_
  refine k_seq ?_
  refine k_cond (decide ((i : Int) < (R.length : Int))) (fun c2 => ?_) (fun c2 => ?_)
  ·
    have p3 := of_decide_eq_true c2
    refine k_skip ?_
    refine xs_then ?_
    refine k_seq ?_
    refine k_block ?_
    refine k_seq ?_
    refine k_reg ?_
    refine s_lt (t_index iTy_ok Try.underlying23 (.zn hR) (i : Int) i (by omega) (by (try simp only [List.length_nil, List.length_cons, List.length_append, List.length_take, List.length_drop, List.length_set, List.length_replicate, List.length_reverse]); omega) (by omega)) ?_
    obtain ⟨y4, hy5⟩ : ∃ y, R[i]? = some y := ⟨_, List.getElem?_eq_getElem (by (try simp only [List.length_nil, List.length_cons, List.length_append, List.length_take, List.length_drop, List.length_set, List.length_replicate, List.length_reverse]); omega)⟩
    refine s_lt (t_loadE iTy_ok (.zn hR) hy5) ?_
    refine s_lt (t_pure (.int .i64 y4)) ?_
    refine s_nil ?_
    refine xs_then ?_
    refine k_reg ?_
    refine s_lt (t_pure (.pointer (some ⟨b, 0, none⟩))) ?_
    refine s_lt (t_pure (.int .i64 y4)) ?_
    refine s_call [0] (mark_s hO hp y4) ?_
    rintro _ _ ⟨rfl, rfl⟩
    refine s_nil ?_
    refine xs_block ?_
    refine xs_then ?_
    refine k_reg ?_
    refine s_lt (t_add (i : Int) 1 (by (try simp only [List.length_nil, List.length_cons, List.length_append, List.length_take, List.length_drop, List.length_set, List.length_replicate, List.length_reverse]); omega)) ?_
    refine s_lt (t_pure (.int .i64 ((i : Int) + 1))) ?_
    refine s_nil ?_
    rw [show dfs l (rootsP l [] (R.take i)) [y4] = rootsP l [] (R.take (i + 1)) from (fold_take (f := fun M id => dfs l M [id]) hy5).symm]
    exact xs_round (i + 1) (by omega) (by show i + 1 ≤ R.length; omega) (sub_of rfl ⟨⟨rfl, rfl⟩, ⟨⟨rfl, rfl⟩, ⟨⟨rfl, rfl⟩, ⟨⟨rfl, rfl⟩, ⟨⟨rfl, rfl⟩, trivial⟩⟩⟩⟩⟩) (fun _ h => h.re [0] [])
  ·
    have p6 := of_decide_eq_false c2
    refine k_exit ?_
    refine xs_exit ?_
    refine xs_exit ?_
    refine xs_here ?_
    refine xs_then ?_
    refine k_seq ?_
    refine k_reg ?_
    refine s_lt (t_pure (.int .i64 1)) ?_
    refine s_nil ?_
    refine xs_then ?_
    refine k_seq ?_
    refine k_block ?_
    obtain rfl : i = R.length := by omega
    rw [List.take_length]
    refine k_loop (ι := Nat × List Int × Nat) (fun (k, M, n) => allP l R = runs l k (M, n) ∧ Good l M ∧ l.length + 1 ≤ k + M.length ∧ n + k = l.length + 2) (fun (k, M, n) => [(0, .pointer (some ⟨b, 0, none⟩)), (4, .int .i64 0), (7, .int .i64 (n : Int))]) (fun (k, M, n) => mkA 71 b l M :: F) (fun (k, M, n) => k) (l.length + 1, rootsP l [] R, 1) ⟨rfl, (good_nil l).roots R, by omega, by omega⟩ (sub_of rfl ⟨⟨rfl, rfl⟩, ⟨⟨rfl, rfl⟩, ⟨⟨rfl, rfl⟩, trivial⟩⟩⟩) (fun _ h => h.re [0] []) ?_
    rintro ⟨k, M, n⟩ hi7
    replace hi7 : allP l R = runs l k (M, n) ∧ Good l M ∧ l.length + 1 ≤ k + M.length ∧ n + k = l.length + 2 := hi7
    show SK _ _ _ _ _ [(0, .pointer (some ⟨b, 0, none⟩)), (4, .int .i64 0), (7, .int .i64 (n : Int))] _ (mkA 71 b l M :: F)
    have hgl := hi7.2.1.len; have hbk := hi7.2.2
    refine k_seq ?_
    refine k_seq ?_
    refine k_reg ?_
    refine s_lt (t_pure (.pointer (some ⟨b, 0, none⟩))) ?_
    refine s_call [0] (round_s hO hs hl hp) ?_
    rintro _ _ ⟨rfl, rfl⟩
    refine s_nil ?_
    refine xs_then ?_
    refine k_cond ((rnd l M).2) (fun c8 => ?_) (fun c8 => ?_)
    ·
      refine k_skip ?_
      refine xs_then ?_
      refine k_block ?_
      refine k_reg ?_
      refine s_lt (t_pure (.int .i64 (n : Int))) ?_
      refine s_lt (t_add (n : Int) 1 (by (try simp only [List.length_nil, List.length_cons, List.length_append, List.length_take, List.length_drop, List.length_set, List.length_replicate, List.length_reverse]); omega)) ?_
      refine s_lt (t_pure (.int .i64 ((n : Int) + 1))) ?_
      refine s_nil ?_
      refine xs_block ?_
      exact xs_round (k - 1, (rnd l M).1, n + 1) (by show k - 1 < k; omega) (by obtain ⟨hi1, hi2, hi3, hi4⟩ := hi7; obtain ⟨k, rfl⟩ : ∃ j, k = j + 1 := ⟨k - 1, by omega⟩; have hf := c8; rw [rnd_flag, decide_eq_true_eq] at hf; refine ⟨hi1.trans (runs_step c8), (step_r l M).good hi2, ?_, ?_⟩ <;> simp only [Nat.add_sub_cancel] <;> omega) (sub_of rfl ⟨⟨rfl, rfl⟩, ⟨⟨rfl, rfl⟩, ⟨⟨rfl, rfl⟩, trivial⟩⟩⟩) (fun _ h => h.re [0] [])
    ·
      refine k_exit ?_
      refine xs_exit ?_
      refine xs_exit ?_
      refine xs_here ?_
      refine xs_then ?_
      refine k_seq ?_
      refine k_reg ?_
      refine s_lt (t_pure (.int .i64 (n : Int))) ?_
      refine s_lt (t_pure (.int .i64 (n : Int))) ?_
      refine s_nil ?_
      refine xs_then ?_
      refine k_ret ?_
      have hend : allP l R = ((rnd l M).1, n) := by obtain ⟨hi1, hi2, hi3, hi4⟩ := hi7; obtain ⟨k, rfl⟩ : ∃ j, k = j + 1 := ⟨k - 1, by omega⟩; exact hi1.trans (runs_end c8)
      refine xs_fin [.int .i64 (n : Int)] (mkA 71 b l ((rnd l M).1) :: F) (SI.tmp 4 SI.nil) (fun _ h => h.re [0] []) ?_
      rw [hend]; exact ⟨rfl, rfl⟩
theorem alive_s {Z : Zone} {F : List Asr} {b : Nat} {l : List Ob} {M : List Int} (hlM : M.length ≤ 1000000) : SF Try.prog 30 #[.pointer (some ⟨b, 0, none⟩)] Z (mkA 71 b l M :: F) fun r Bs => Bs = own iTy r (srt M) :: mkA 71 b l M :: F := by
  refine sf_enter Try.func30 25 [(0, .pointer (some ⟨b, 0, none⟩))] (fun w0 => ?_)
  refine k_mem3 (fun H h => mk_open (h.re [0] [])) (fun at1 mb2 kv3 hw => ?_)
  refine k_seq ?_
  refine k_reg ?_
  refine s_lt (t_pure (.slice none 0 0)) ?_
  refine s_nil ?_
  refine xs_then ?_
  refine k_seq ?_
  refine k_reg ?_
  refine s_lt (t_pure (.slice none 0 0)) ?_
  refine s_nil ?_
  refine xs_then ?_
  refine k_seq ?_
  refine k_seq ?_
  refine k_reg ?_
  refine s_lt (t_pure (.pointer (some ⟨b, 0, none⟩))) ?_
  refine s_lt (t_pure (.pointer (some ⟨b, 0, none⟩))) ?_
  refine s_lt (t_pure (.pointer (some ⟨b, 1, none⟩))) ?_
  refine s_lt (t_load 0 (.map (some mb2))) ?_
  refine s_range 2 Try.underlying69 (fun r4 => ?_)
  refine s_nil ?_
  refine xs_then ?_
  refine k_block ?_
  refine k_mem (fun _ h => Holds.nilS (T := iTy) h) ?_
  rw [show ([] : List Int) = ([] : List (Int × Int)).map Prod.fst from rfl]
  refine k_loop (ι := Value × List (Int × Int)) (fun (sx, dn) => dn.length ≤ (mkL M).length) (fun (sx, dn) => [(2, (.slice none 0 0)), (3, sx), (10, .pointer (some ⟨r4, 0, none⟩))]) (fun (sx, dn) => own iTy sx (dn.map Prod.fst) :: blkA b #[.map (some at1), .map (some mb2), kv3] 71 :: mpA (Go.Mem.intK 3) Ob.v at1 (atL l) :: rgA (Go.Mem.intK 3) iV mb2 r4 (mkL M) dn :: own iTy kv3 (keyed l) :: F) (fun (sx, dn) => (mkL M).length - dn.length) (.slice none 0 0, []) (Nat.zero_le _) (sub_of rfl ⟨⟨rfl, rfl⟩, ⟨⟨rfl, rfl⟩, ⟨⟨rfl, rfl⟩, trivial⟩⟩⟩) (fun _ h => h.re [0, 0, 0, 0, 0] []) ?_
  rintro ⟨sx, dn⟩ hi5
  replace hi5 : dn.length ≤ (mkL M).length := hi5
  show SK _ _ _ _ _ [(2, (.slice none 0 0)), (3, sx), (10, .pointer (some ⟨r4, 0, none⟩))] _ (own iTy sx (dn.map Prod.fst) :: blkA b #[.map (some at1), .map (some mb2), kv3] 71 :: mpA (Go.Mem.intK 3) Ob.v at1 (atL l) :: rgA (Go.Mem.intK 3) iV mb2 r4 (mkL M) dn :: own iTy kv3 (keyed l) :: F)
  have hml : (mkL M).length = M.length := List.length_map _; have hdl : (dn.map Prod.fst).length = dn.length := List.length_map _
  refine k_seq ?_
  refine k_reg ?_
  refine s_next 3 (fun hd6 => ?_) (fun ky7 u8 hm9 hn10 hd11 => ?_)
  ·
    refine s_lt (t_pure (.bool false)) ?_
    refine s_nil ?_
    refine xs_then ?_
    refine k_seq ?_
    refine k_false ?_
    refine k_exit ?_
    refine xs_mem (fun _ h => Holds.unrange 3 h) ?_
    refine xs_exit ?_
    refine xs_exit ?_
    refine xs_here ?_
    refine xs_then ?_
    refine k_seq ?_
    refine k_reg ?_
    refine s_lt (t_pure sx) ?_
    refine s_call [0] (sort_s (L := (dn.map Prod.fst)) (by (try simp only [List.length_nil, List.length_cons, List.length_append, List.length_take, List.length_drop, List.length_set, List.length_replicate, List.length_reverse]); omega)) ?_
    rintro _ _ ⟨rfl, rfl⟩
    refine s_nil ?_
    refine xs_then ?_
    refine k_seq ?_
    refine k_reg ?_
    refine s_lt (t_pure sx) ?_
    refine s_lt (t_pure sx) ?_
    refine s_nil ?_
    refine xs_then ?_
    refine k_ret ?_
    refine xs_mem (fun _ h => mk_shut (h.re [1, 1, 1, 1] [])) ?_
    have hsr : srt (dn.map Prod.fst) = srt M := srt_perm (by have := hd6.map Prod.fst; simpa [mkL, List.map_map, Function.comp_def] using this)
    rw [hsr]
    exact xs_fin [sx] (own iTy sx (srt M) :: mkA 71 b l M :: F) (SI.tmp 2 SI.nil) (fun _ h => h.re [1, 0] []) rfl
  ·
    obtain rfl : u8 = 1 := by have := hm9; simp only [mkL, List.mem_map] at this; obtain ⟨_, _, e⟩ := this; exact (Prod.mk.inj e).2.symm
    refine s_lt (t_pure (.bool true)) ?_
    refine s_nil ?_
    refine xs_then ?_
    refine k_seq ?_
    refine k_true ?_
    refine k_skip ?_
    refine xs_then ?_
    refine k_block ?_
    refine k_seq ?_
    refine k_reg ?_
    refine s_lt (t_entry 3) ?_
    refine s_lt (t_pure (.int .i64 ky7)) ?_
    refine s_lt (t_pure (.int .i64 1)) ?_
    refine s_lt (t_pure (.int .i64 ky7)) ?_
    refine s_lt (t_pure (.int .i64 1)) ?_
    refine s_nil ?_
    refine xs_then ?_
    refine k_seq ?_
    refine k_reg ?_
    refine s_lt (t_pure (.int .i64 1)) ?_
    refine s_lt (t_cmp (c := true)) ?_
    refine s_nil ?_
    refine xs_then ?_
    refine k_true ?_
    refine k_reg ?_
    refine s_lt (t_pure sx) ?_
    refine s_lt (t_pure (.int .i64 ky7)) ?_
    refine s_buildSlice (e := 3) [(0, .int .i64 ky7)] #[.int .i64 ky7] (fun g12 => ?_) (hb := by kernel_rfl)
    refine s_append (L := (dn.map Prod.fst)) 1 iTy_ok Try.underlying23 (.lit 0 iTy_ok [ky7]) (by show _ * 8 ≤ _; (try simp only [List.length_nil, List.length_cons, List.length_append, List.length_take, List.length_drop, List.length_set, List.length_replicate, List.length_reverse]); omega) (by (try simp only [List.length_nil, List.length_cons, List.length_append, List.length_take, List.length_drop, List.length_set, List.length_replicate, List.length_reverse]); omega) (fun v13 => ?_)
    refine s_lt (t_pure v13) ?_
    refine s_nil ?_
    refine xs_block ?_
    rw [show dn.map Prod.fst ++ [ky7] = (dn ++ [(ky7, (1 : Int))]).map Prod.fst by simp]
    exact xs_round (v13, dn ++ [(ky7, 1)]) (by show (mkL M).length - (dn ++ [(ky7, (1 : Int))]).length < (mkL M).length - dn.length; rw [List.length_append]; have := hd11; simp only [List.length_singleton]; omega) (by show (dn ++ [(ky7, (1 : Int))]).length ≤ (mkL M).length; rw [List.length_append]; have := hd11; simp only [List.length_singleton]; omega) (sub_of rfl ⟨⟨rfl, rfl⟩, ⟨⟨rfl, rfl⟩, ⟨⟨rfl, rfl⟩, trivial⟩⟩⟩) (fun _ h => h.re [1, 1, 1, 1, 1] [5])
theorem errI_ok {b : Bool} (h : errI b = 0) : b = true := by cases b <;> simp_all [errI]
theorem errI_bad {b : Bool} (h : errI b ≠ 0) : b = false := by cases b <;> simp_all [errI]
def aliveP (l : List Ob) (R : List Int) : List Int := if chk 0 l = true then srt (allP l R).1 else []
theorem aliveP_ok {l : List Ob} {R : List Int} (h : chk 0 l = true) : aliveP l R = srt (allP l R).1 := if_pos h
theorem aliveP_bad {l : List Ob} {R : List Int} (h : chk 0 l = false) : aliveP l R = [] := if_neg (by simp [h])
theorem Alive_s {Z : Zone} {ov rv : Value} {l : List Ob} {R : List Int} (hg : KnG Z ov rv l R) (hl : l.length ≤ 100000) (hp : pot l [] ≤ 1000000) : SF Try.prog 13 #[.agg #[ov, rv]] Z [] fun r Bs => ∃ v, r = .tuple #[v, .int .i64 (errI (chk 0 l))] ∧ Bs = [own iTy v (aliveP l R)] := by
  refine sf_enter Try.func13 19 [(0, .agg #[ov, rv])] (fun w0 => ?_)
  refine k_seq ?_
  refine k_reg ?_
  refine s_box #[ov, rv] (fun g1 => ?_)
  refine s_lt (t_pure (.slice none 0 0)) ?_
  refine s_lt (t_pure (.int .i64 0)) ?_
  refine s_nil ?_
  refine xs_then ?_
  refine k_seq ?_
  refine k_seq ?_
  refine k_reg ?_
  refine s_lt (t_loadA 0 #[ov, rv]) ?_
  refine s_vcall (fun _ h => check_s (hg.up h)) ?_
  rintro _ rfl
  refine s_lt (t_pure (.int .i64 (errI (chk 0 l)))) ?_
  refine s_nil ?_
  refine xs_then ?_
  refine k_seq ?_
  refine k_reg ?_
  refine s_lt (t_pure (.int .i64 (errI (chk 0 l)))) ?_
  refine s_lt t_cmp ?_
  refine s_nil ?_
  refine xs_then ?_
  refine k_cond (decide ((errI (chk 0 l)) ≠ 0)) (fun c2 => ?_) (fun c2 => ?_)
  ·
    have p3 := of_decide_eq_true c2
    have hc := errI_bad p3
    refine k_seq ?_
    refine k_reg ?_
    refine s_lt (t_pure (.int .i64 (errI (chk 0 l)))) ?_
    refine s_lt (t_pure (.slice none 0 0)) ?_
    refine s_lt (t_pure (.int .i64 (errI (chk 0 l)))) ?_
    refine s_nil ?_
    refine xs_then ?_
    refine k_ret ?_
    refine xs_ret ?_
    exact xs_fin [(.slice none 0 0), .int .i64 (errI (chk 0 l))] [own iTy (.slice none 0 0) []] (SI.tmp 2 (SI.tmp 3 SI.nil)) (fun _ h => h.nilS.re [0] [1]) ⟨_, rfl, by rw [aliveP_bad hc]⟩
  ·
    have p4 := Decidable.not_not.1 (of_decide_eq_false c2)
    have hc := errI_ok p4; have hs := chk_asc hc
    refine k_skip ?_
    refine xs_then ?_
    refine k_seq ?_
    refine k_reg ?_
    refine s_lt (t_loadA 0 #[ov, rv]) ?_
    refine s_pcall (fun _ h => newMarker_s (hg.up h) hs hl) ?_
    rintro _ _ ⟨b5, rfl, rfl⟩
    refine s_lt (t_pure (.pointer (some ⟨b5, 0, none⟩))) ?_
    refine s_nil ?_
    refine xs_then ?_
    refine k_seq ?_
    refine k_reg ?_
    refine s_lt (t_pure (.pointer (some ⟨b5, 0, none⟩))) ?_
    refine s_lt (t_pure (.pointer (some ⟨g1, 1, none⟩))) ?_
    refine s_lt (t_load 1 rv) ?_
    refine s_call [0] (run_s hg.each hs hl hp hg.roots) ?_
    rintro _ _ ⟨rfl, rfl⟩
    refine s_nil ?_
    refine xs_then ?_
    refine k_seq ?_
    refine k_reg ?_
    refine s_lt (t_pure (.pointer (some ⟨b5, 0, none⟩))) ?_
    refine s_call [0] (alive_s (M := (allP l R).1) (by have := (allP_good l R).len; omega)) ?_
    rintro v6 _ rfl
    refine s_fact (fun H h => ((Acc.own (T := iTy) (L := (srt ((allP l R).1))) 0 rfl) H h).form) (fun hf7 => ?_)
    refine s_lt (t_pure v6) ?_
    refine s_lt (t_pure (.int .i64 0)) ?_
    refine s_nil ?_
    refine xs_then ?_
    refine k_ret ?_
    refine xs_fin [v6, .int .i64 0] [own iTy v6 (srt (allP l R).1)] (SI.tmp 2 (SI.tmp 3 SI.nil)) (fun _ h => h.re [0] [1, 1]) ⟨v6, by rw [hc]; rfl, by rw [aliveP_ok hc]⟩
def roundsP (l : List Ob) (R : List Int) : Int := if chk 0 l = true then ((allP l R).2 : Int) else 0
theorem roundsP_ok {l : List Ob} {R : List Int} (h : chk 0 l = true) : roundsP l R = ((allP l R).2 : Int) := if_pos h
theorem roundsP_bad {l : List Ob} {R : List Int} (h : chk 0 l = false) : roundsP l R = 0 := if_neg (by simp [h])
theorem Rounds_s {Z : Zone} {ov rv : Value} {l : List Ob} {R : List Int} (hg : KnG Z ov rv l R) (hl : l.length ≤ 100000) (hp : pot l [] ≤ 1000000) : SF Try.prog 21 #[.agg #[ov, rv]] Z [] fun r Bs => r = .tuple #[.int .i64 (roundsP l R), .int .i64 (errI (chk 0 l))] ∧ Bs = [] := by
  refine sf_enter Try.func21 15 [(0, .agg #[ov, rv])] (fun w0 => ?_)
  refine k_seq ?_
  refine k_reg ?_
  refine s_box #[ov, rv] (fun g1 => ?_)
  refine s_lt (t_pure (.int .i64 0)) ?_
  refine s_lt (t_pure (.int .i64 0)) ?_
  refine s_nil ?_
  refine xs_then ?_
  refine k_seq ?_
  refine k_seq ?_
  refine k_reg ?_
  refine s_lt (t_loadA 0 #[ov, rv]) ?_
  refine s_vcall (fun _ h => check_s (hg.up h)) ?_
  rintro _ rfl
  refine s_lt (t_pure (.int .i64 (errI (chk 0 l)))) ?_
  refine s_nil ?_
  refine xs_then ?_
  refine k_seq ?_
  refine k_reg ?_
  refine s_lt (t_pure (.int .i64 (errI (chk 0 l)))) ?_
  refine s_lt t_cmp ?_
  refine s_nil ?_
  refine xs_then ?_
  refine k_cond (decide ((errI (chk 0 l)) ≠ 0)) (fun c2 => ?_) (fun c2 => ?_)
  ·
    have p3 := of_decide_eq_true c2
    have hc := errI_bad p3
    refine k_seq ?_
    refine k_reg ?_
    refine s_lt (t_pure (.int .i64 (errI (chk 0 l)))) ?_
    refine s_lt (t_pure (.int .i64 0)) ?_
    refine s_lt (t_pure (.int .i64 (errI (chk 0 l)))) ?_
    refine s_nil ?_
    refine xs_then ?_
    refine k_ret ?_
    refine xs_ret ?_
    exact xs_fin [.int .i64 0, .int .i64 (errI (chk 0 l))] [] (SI.tmp 2 (SI.tmp 3 SI.nil)) (fun _ h => h.re [] [0]) ⟨by rw [roundsP_bad hc, hc]; rfl, rfl⟩
  ·
    have p4 := Decidable.not_not.1 (of_decide_eq_false c2)
    have hc := errI_ok p4; have hs := chk_asc hc
    refine k_skip ?_
    refine xs_then ?_
    refine k_seq ?_
    refine k_held [blkA g1 #[ov, rv] 25] ?_
    refine h_lt 0 rfl (np_then np_finS) [0] (fun _ => (t_loadA 0 #[ov, rv])) ?_
    refine h_lt 2 rfl (np_then np_finS) [0] (fun _ => (t_pure (.pointer (some ⟨g1, 1, none⟩)))) ?_
    refine h_lt 3 rfl (np_then np_finS) [0] (fun _ => (t_load 0 rv)) ?_
    refine h_stepS 1 ?_
    refine s_pcall (fun _ h => newMarker_s (hg.up h) hs hl) ?_
    rintro _ _ ⟨b5, rfl, rfl⟩
    refine s_nil (xs_held [1] ?_)
    refine h_stepS 4 ?_
    refine s_call [0] (run_s hg.each hs hl hp hg.roots) ?_
    rintro _ _ ⟨rfl, rfl⟩
    refine s_nil (xs_held [1] ?_)
    refine h_lt 5 rfl (np_then np_finS) [1] (fun _ => (t_pure (.int .i64 ((allP l R).2 : Int)))) ?_
    refine h_lt 6 rfl (np_then np_finS) [1] (fun _ => (t_pure (.int .i64 0))) ?_
    refine h_doneS ?_
    refine xs_then ?_
    refine k_ret ?_
    exact xs_fin [.int .i64 ((allP l R).2 : Int), .int .i64 0] [] (SI.tmp 2 (SI.tmp 3 SI.nil)) (fun _ h => h.re [] [0, 0]) ⟨by rw [roundsP_ok hc, hc]; rfl, rfl⟩
end Go.Proofs.Ytjdlkemmcnncaaa
