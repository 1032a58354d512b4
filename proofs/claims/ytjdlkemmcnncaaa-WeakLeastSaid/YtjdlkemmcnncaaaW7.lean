/-
  The chapter's example of layer 26; WeakAlive and WeakRounds walked. No condition but that the arguments are what the types say.
-/
import Derived.Test.YtjdlkemmcnncaaaL3
set_option linter.unusedSimpArgs false
set_option linter.unusedVariables false
set_option maxRecDepth 100000
set_option maxHeartbeats 2000000
namespace Go.Proofs.Ytjdlkemmcnncaaa
open Go.Hp Go.J Go.S
open Go.Mem (Ty KTy blk elemAt pre suf blk_pre blk_suf aget aset strK aggDesc)
theorem awake_s {Z : Zone} : SF Try.prog 12 #[] Z [] fun r Bs => r = .bool true ∧ Bs = [] := by
  refine sf_enter Try.func12 97 [] (fun w0 => ?_)
  refine k_seq ?_
  refine k_reg ?_
  refine s_lt (t_pure (.bool false)) ?_
  refine s_nil ?_
  refine xs_then ?_
  refine k_seq ?_
  refine k_reg ?_
  refine s_buildSlice (e := 3) [(0, .int .i64 1)] #[.int .i64 1] (fun g1 => ?_) (hb := by kernel_rfl)
  refine s_buildSlice (e := 3) [(0, .int .i64 2)] #[.int .i64 2] (fun g2 => ?_) (hb := by kernel_rfl)
  refine s_lt (t_kern (.agg #[.int .i64 2, .int .i64 3])) ?_
  refine s_lt (t_kern (.agg #[.int .i64 4, .int .i64 5])) ?_
  refine s_buildSlice (e := 45) [(0, .agg #[.int .i64 2, .int .i64 3]), (1, .agg #[.int .i64 4, .int .i64 5])] #[.int .i64 2, .int .i64 3, .int .i64 4, .int .i64 5] (fun g3 => ?_) (hb := by kernel_rfl)
  refine s_lt (t_kern (.agg #[.int .i64 1, .int .i64 0, .int .i64 1, (.slice (some ⟨g2, 0, none⟩) 1 1), (.slice (some ⟨g3, 0, none⟩) 2 2)])) ?_
  refine s_lt (t_kern (.agg #[.int .i64 2, .int .i64 0, .int .i64 0, (.slice none 0 0), (.slice none 0 0)])) ?_
  refine s_lt (t_kern (.agg #[.int .i64 3, .int .i64 0, .int .i64 0, (.slice none 0 0), (.slice none 0 0)])) ?_
  refine s_lt (t_kern (.agg #[.int .i64 4, .int .i64 0, .int .i64 0, (.slice none 0 0), (.slice none 0 0)])) ?_
  refine s_lt (t_kern (.agg #[.int .i64 5, .int .i64 0, .int .i64 0, (.slice none 0 0), (.slice none 0 0)])) ?_
  refine s_buildSlice (e := 42) [(0, .agg #[.int .i64 1, .int .i64 0, .int .i64 1, (.slice (some ⟨g2, 0, none⟩) 1 1), (.slice (some ⟨g3, 0, none⟩) 2 2)]), (1, .agg #[.int .i64 2, .int .i64 0, .int .i64 0, (.slice none 0 0), (.slice none 0 0)]), (2, .agg #[.int .i64 3, .int .i64 0, .int .i64 0, (.slice none 0 0), (.slice none 0 0)]), (3, .agg #[.int .i64 4, .int .i64 0, .int .i64 0, (.slice none 0 0), (.slice none 0 0)]), (4, .agg #[.int .i64 5, .int .i64 0, .int .i64 0, (.slice none 0 0), (.slice none 0 0)])] #[.int .i64 1, .int .i64 0, .int .i64 1, (.slice (some ⟨g2, 0, none⟩) 1 1), (.slice (some ⟨g3, 0, none⟩) 2 2), .int .i64 2, .int .i64 0, .int .i64 0, (.slice none 0 0), (.slice none 0 0), .int .i64 3, .int .i64 0, .int .i64 0, (.slice none 0 0), (.slice none 0 0), .int .i64 4, .int .i64 0, .int .i64 0, (.slice none 0 0), (.slice none 0 0), .int .i64 5, .int .i64 0, .int .i64 0, (.slice none 0 0), (.slice none 0 0)] (fun g4 => ?_) (hb := by kernel_rfl)
  refine s_lt (t_kern (.agg #[(.slice (some ⟨g4, 0, none⟩) 5 5), (.slice (some ⟨g1, 0, none⟩) 1 1)])) ?_
  refine s_alloc (.agg #[(.slice none 0 0), (.slice none 0 0)]) #[(.slice none 0 0), (.slice none 0 0)] (fun g5 => ?_)
  refine s_store 0 #[(.slice (some ⟨g4, 0, none⟩) 5 5), (.slice (some ⟨g1, 0, none⟩) 1 1)] ?_
  refine s_nil ?_
  refine xs_then ?_
  refine k_seq ?_
  refine k_reg ?_
  refine s_lt (t_loadA 0 #[(.slice (some ⟨g4, 0, none⟩) 5 5), (.slice (some ⟨g1, 0, none⟩) 1 1)]) ?_
  refine s_pcall (fun _ h => Alive_s (show KnG _ _ _ (awG ⟨(some ⟨g2, 0, none⟩), 1, 1⟩ ⟨(some ⟨g3, 0, none⟩), 2, 2⟩) [1] from ⟨Acc.kn (T := ObT) (.lit 1 ObT_ok [(⟨1, 0, 1, ⟨(some ⟨g2, 0, none⟩), 1, 1⟩, ⟨(some ⟨g3, 0, none⟩), 2, 2⟩, [2], [(⟨2, 3⟩ : Ent), (⟨4, 5⟩ : Ent)]⟩ : Ob), (⟨2, 0, 0, ⟨none, 0, 0⟩, ⟨none, 0, 0⟩, [], []⟩ : Ob), (⟨3, 0, 0, ⟨none, 0, 0⟩, ⟨none, 0, 0⟩, [], []⟩ : Ob), (⟨4, 0, 0, ⟨none, 0, 0⟩, ⟨none, 0, 0⟩, [], []⟩ : Ob), (⟨5, 0, 0, ⟨none, 0, 0⟩, ⟨none, 0, 0⟩, [], []⟩ : Ob)]) h, Acc.kn (T := iTy) (.lit 4 iTy_ok [1]) h, (each_cons ⟨(Acc.kn (T := iTy) (.lit 3 iTy_ok [2]) h), (Acc.kn (T := EntT) (.lit 2 EntT_ok [(⟨2, 3⟩ : Ent), (⟨4, 5⟩ : Ent)]) h)⟩ (each_cons ⟨(Acc.kn (T := iTy) .nil h), (Acc.kn (T := EntT) .nil h)⟩ (each_cons ⟨(Acc.kn (T := iTy) .nil h), (Acc.kn (T := EntT) .nil h)⟩ (each_cons ⟨(Acc.kn (T := iTy) .nil h), (Acc.kn (T := EntT) .nil h)⟩ (each_cons ⟨(Acc.kn (T := iTy) .nil h), (Acc.kn (T := EntT) .nil h)⟩ each_nil)))))⟩) (aw_len _ _) (aw_pot _ _)) ?_
  rintro _ _ ⟨v6, rfl, rfl⟩
  rw [alive_eq]
  refine s_fact (fun H h => ((Acc.own (T := iTy) (L := (aliveR (awG ⟨(some ⟨g2, 0, none⟩), 1, 1⟩ ⟨(some ⟨g3, 0, none⟩), 2, 2⟩) [1])) 0 rfl) H h).form) (fun hf7 => ?_)
  rw [aw_alive]
  refine s_lt (t_pure (.tuple #[v6, .int .i64 (errI (chk 0 (awG ⟨(some ⟨g2, 0, none⟩), 1, 1⟩ ⟨(some ⟨g3, 0, none⟩), 2, 2⟩)))])) ?_
  refine s_lt (t_pure v6) ?_
  refine s_lt (t_pure (.int .i64 (errI (chk 0 (awG ⟨(some ⟨g2, 0, none⟩), 1, 1⟩ ⟨(some ⟨g3, 0, none⟩), 2, 2⟩))))) ?_
  refine s_lt (t_pure v6) ?_
  refine s_lt (t_pure (.int .i64 (errI (chk 0 (awG ⟨(some ⟨g2, 0, none⟩), 1, 1⟩ ⟨(some ⟨g3, 0, none⟩), 2, 2⟩))))) ?_
  refine s_nil ?_
  refine xs_then ?_
  refine k_seq ?_
  refine k_reg ?_
  refine s_lt (t_loadA 1 #[(.slice (some ⟨g4, 0, none⟩) 5 5), (.slice (some ⟨g1, 0, none⟩) 1 1)]) ?_
  refine s_pcall (fun _ h => Collect_s (show KnG _ _ _ (awG ⟨(some ⟨g2, 0, none⟩), 1, 1⟩ ⟨(some ⟨g3, 0, none⟩), 2, 2⟩) [1] from ⟨Acc.kn (T := ObT) (.lit 2 ObT_ok [(⟨1, 0, 1, ⟨(some ⟨g2, 0, none⟩), 1, 1⟩, ⟨(some ⟨g3, 0, none⟩), 2, 2⟩, [2], [(⟨2, 3⟩ : Ent), (⟨4, 5⟩ : Ent)]⟩ : Ob), (⟨2, 0, 0, ⟨none, 0, 0⟩, ⟨none, 0, 0⟩, [], []⟩ : Ob), (⟨3, 0, 0, ⟨none, 0, 0⟩, ⟨none, 0, 0⟩, [], []⟩ : Ob), (⟨4, 0, 0, ⟨none, 0, 0⟩, ⟨none, 0, 0⟩, [], []⟩ : Ob), (⟨5, 0, 0, ⟨none, 0, 0⟩, ⟨none, 0, 0⟩, [], []⟩ : Ob)]) h, Acc.kn (T := iTy) (.lit 5 iTy_ok [1]) h, (each_cons ⟨(Acc.kn (T := iTy) (.lit 4 iTy_ok [2]) h), (Acc.kn (T := EntT) (.lit 3 EntT_ok [(⟨2, 3⟩ : Ent), (⟨4, 5⟩ : Ent)]) h)⟩ (each_cons ⟨(Acc.kn (T := iTy) .nil h), (Acc.kn (T := EntT) .nil h)⟩ (each_cons ⟨(Acc.kn (T := iTy) .nil h), (Acc.kn (T := EntT) .nil h)⟩ (each_cons ⟨(Acc.kn (T := iTy) .nil h), (Acc.kn (T := EntT) .nil h)⟩ (each_cons ⟨(Acc.kn (T := iTy) .nil h), (Acc.kn (T := EntT) .nil h)⟩ each_nil)))))⟩) (aw_len _ _) (aw_pot _ _) (aw_small _ _) (by decide)) ?_
  rintro _ _ ⟨ov8, rv9, fv10, l11, R12, rfl, hl13, hR14, rfl⟩
  refine s_fact (fun H h => ((Acc.own (T := iTy) (L := (collF (awG ⟨(some ⟨g2, 0, none⟩), 1, 1⟩ ⟨(some ⟨g3, 0, none⟩), 2, 2⟩) [1])) 1 rfl) H h).form) (fun hf15 => ?_)
  rw [aw_free]
  rw [aw_coll] at hl13; have hlen : l11.length = 3 := by have := congrArg List.length hl13; simpa using this
  refine s_lt (t_pure (.tuple #[.agg #[ov8, rv9], fv10, .int .i64 (errI (chk 0 (awG ⟨(some ⟨g2, 0, none⟩), 1, 1⟩ ⟨(some ⟨g3, 0, none⟩), 2, 2⟩)))])) ?_
  refine s_lt (t_pure (.agg #[ov8, rv9])) ?_
  refine s_lt (t_pure fv10) ?_
  refine s_lt (t_pure (.int .i64 (errI (chk 0 (awG ⟨(some ⟨g2, 0, none⟩), 1, 1⟩ ⟨(some ⟨g3, 0, none⟩), 2, 2⟩))))) ?_
  refine s_alloc (.agg #[(.slice none 0 0), (.slice none 0 0)]) #[(.slice none 0 0), (.slice none 0 0)] (fun g16 => ?_)
  refine s_fact (fun H h => ((show Acc _ _ ObT _ _ from (accF 1)) H h).form) (fun hf17 => ?_)
  refine s_fact (fun H h => ((show Acc _ _ iTy _ _ from (accR 1)) H h).form) (fun hf18 => ?_)
  refine s_store (u := .agg #[ov8, rv9]) (m := 2) 0 #[ov8, rv9] ?_ (hm := by (obtain ⟨_, _, e0⟩ := hf17; obtain ⟨_, _, e1⟩ := hf18; rw [e0, e1]; rfl)) (h1 := by (obtain ⟨_, _, e0⟩ := hf17; obtain ⟨_, _, e1⟩ := hf18; rw [e0, e1]; rfl)) (ha' := by (obtain ⟨_, _, e0⟩ := hf17; obtain ⟨_, _, e1⟩ := hf18; rw [e0, e1]; rfl))
  refine s_lt (t_pure fv10) ?_
  refine s_lt (t_pure (.int .i64 (errI (chk 0 (awG ⟨(some ⟨g2, 0, none⟩), 1, 1⟩ ⟨(some ⟨g3, 0, none⟩), 2, 2⟩))))) ?_
  refine s_nil ?_
  refine xs_then ?_
  refine k_seq ?_
  refine k_reg ?_
  refine s_lt (t_loadA 4 #[(.slice (some ⟨g4, 0, none⟩) 5 5), (.slice (some ⟨g1, 0, none⟩) 1 1)]) ?_
  refine s_vcall (fun _ h => Rounds_s (show KnG _ _ _ (awG ⟨(some ⟨g2, 0, none⟩), 1, 1⟩ ⟨(some ⟨g3, 0, none⟩), 2, 2⟩) [1] from ⟨Acc.kn (T := ObT) (.lit 5 ObT_ok [(⟨1, 0, 1, ⟨(some ⟨g2, 0, none⟩), 1, 1⟩, ⟨(some ⟨g3, 0, none⟩), 2, 2⟩, [2], [(⟨2, 3⟩ : Ent), (⟨4, 5⟩ : Ent)]⟩ : Ob), (⟨2, 0, 0, ⟨none, 0, 0⟩, ⟨none, 0, 0⟩, [], []⟩ : Ob), (⟨3, 0, 0, ⟨none, 0, 0⟩, ⟨none, 0, 0⟩, [], []⟩ : Ob), (⟨4, 0, 0, ⟨none, 0, 0⟩, ⟨none, 0, 0⟩, [], []⟩ : Ob), (⟨5, 0, 0, ⟨none, 0, 0⟩, ⟨none, 0, 0⟩, [], []⟩ : Ob)]) h, Acc.kn (T := iTy) (.lit 8 iTy_ok [1]) h, (each_cons ⟨(Acc.kn (T := iTy) (.lit 7 iTy_ok [2]) h), (Acc.kn (T := EntT) (.lit 6 EntT_ok [(⟨2, 3⟩ : Ent), (⟨4, 5⟩ : Ent)]) h)⟩ (each_cons ⟨(Acc.kn (T := iTy) .nil h), (Acc.kn (T := EntT) .nil h)⟩ (each_cons ⟨(Acc.kn (T := iTy) .nil h), (Acc.kn (T := EntT) .nil h)⟩ (each_cons ⟨(Acc.kn (T := iTy) .nil h), (Acc.kn (T := EntT) .nil h)⟩ (each_cons ⟨(Acc.kn (T := iTy) .nil h), (Acc.kn (T := EntT) .nil h)⟩ each_nil)))))⟩) (aw_len _ _) (aw_pot _ _)) ?_
  rintro _ rfl
  refine s_lt (t_pure (.tuple #[.int .i64 (roundsP (awG ⟨(some ⟨g2, 0, none⟩), 1, 1⟩ ⟨(some ⟨g3, 0, none⟩), 2, 2⟩) [1]), .int .i64 (errI (chk 0 (awG ⟨(some ⟨g2, 0, none⟩), 1, 1⟩ ⟨(some ⟨g3, 0, none⟩), 2, 2⟩)))])) ?_
  refine s_lt (t_pure (.int .i64 (roundsP (awG ⟨(some ⟨g2, 0, none⟩), 1, 1⟩ ⟨(some ⟨g3, 0, none⟩), 2, 2⟩) [1]))) ?_
  refine s_lt (t_pure (.int .i64 (errI (chk 0 (awG ⟨(some ⟨g2, 0, none⟩), 1, 1⟩ ⟨(some ⟨g3, 0, none⟩), 2, 2⟩))))) ?_
  refine s_lt (t_pure (.int .i64 (roundsP (awG ⟨(some ⟨g2, 0, none⟩), 1, 1⟩ ⟨(some ⟨g3, 0, none⟩), 2, 2⟩) [1]))) ?_
  refine s_lt (t_pure (.int .i64 (errI (chk 0 (awG ⟨(some ⟨g2, 0, none⟩), 1, 1⟩ ⟨(some ⟨g3, 0, none⟩), 2, 2⟩))))) ?_
  refine s_nil ?_
  refine xs_then ?_
  refine k_seq ?_
  refine k_seq ?_
  refine k_reg ?_
  refine s_lt (t_pure (.int .i64 (errI (chk 0 (awG ⟨(some ⟨g2, 0, none⟩), 1, 1⟩ ⟨(some ⟨g3, 0, none⟩), 2, 2⟩))))) ?_
  refine s_lt (Lt.to t_cmp (congrArg Value.bool (rfl : (decide ((errI (chk 0 (awG ⟨(some ⟨g2, 0, none⟩), 1, 1⟩ ⟨(some ⟨g3, 0, none⟩), 2, 2⟩))) ≠ 0)) = false))) ?_
  refine s_lt (t_pure (.bool false)) ?_
  refine s_lt (t_pure (.int .i64 (errI (chk 0 (awG ⟨(some ⟨g2, 0, none⟩), 1, 1⟩ ⟨(some ⟨g3, 0, none⟩), 2, 2⟩))))) ?_
  refine s_lt (Lt.to t_cmp (congrArg Value.bool (rfl : (decide ((errI (chk 0 (awG ⟨(some ⟨g2, 0, none⟩), 1, 1⟩ ⟨(some ⟨g3, 0, none⟩), 2, 2⟩))) ≠ 0)) = false))) ?_
  refine s_lt (t_pure (.bool false)) ?_
  refine s_lt (t_pure (.bool false)) ?_
  refine s_lt (t_pure (.int .i64 (errI (chk 0 (awG ⟨(some ⟨g2, 0, none⟩), 1, 1⟩ ⟨(some ⟨g3, 0, none⟩), 2, 2⟩))))) ?_
  refine s_lt (Lt.to t_cmp (congrArg Value.bool (rfl : (decide ((errI (chk 0 (awG ⟨(some ⟨g2, 0, none⟩), 1, 1⟩ ⟨(some ⟨g3, 0, none⟩), 2, 2⟩))) ≠ 0)) = false))) ?_
  refine s_lt (t_pure (.bool false)) ?_
  refine s_lt (t_pure (.bool false)) ?_
  refine s_lt (t_pure (.pointer (some ⟨g16, 0, none⟩))) ?_
  refine s_lt (t_load 0 ov8) ?_
  refine s_lt (t_len ObT_ok Try.underlying22 (accF 1)) ?_
  refine s_lt (Lt.to t_cmp (congrArg Value.bool (decide_eq_false (by omega) : (decide ((l11.length : Int) ≠ 3)) = false))) ?_
  refine s_lt (t_pure (.bool false)) ?_
  refine s_lt (t_pure (.bool false)) ?_
  refine s_lt (t_pure (.pointer (some ⟨g16, 0, none⟩))) ?_
  refine s_lt (t_load 0 ov8) ?_
  refine s_lt (t_index ObT_ok Try.underlying22 (accF 1) 0 0 (by omega) (by (try simp only [List.length_nil, List.length_cons, List.length_append, List.length_take, List.length_drop, List.length_set, List.length_replicate, List.length_reverse, bits_len]); omega) (by omega)) ?_
  refine s_lt (t_pure (.pointer (some ((elemAt ObT.size ov8 0).add 4)))) ?_
  obtain ⟨y19, hy20⟩ : ∃ y, l11[0]? = some y := ⟨_, List.getElem?_eq_getElem (by (try simp only [List.length_nil, List.length_cons, List.length_append, List.length_take, List.length_drop, List.length_set, List.length_replicate, List.length_reverse, bits_len]); omega)⟩
  have hye : y19.ents = [⟨2, 3⟩] := ent0 hl13 hy20; have hyl : y19.ents.length = 1 := by rw [hye]; rfl
  refine s_lt (t_loadF 4 ObT_ok (accF 1) hy20) ?_
  refine s_lt (t_len EntT_ok Try.underlying40 (accE2 1 (List.mem_of_getElem? hy20))) ?_
  refine s_lt (Lt.to t_cmp (congrArg Value.bool (decide_eq_false (by omega) : (decide ((y19.ents.length : Int) ≠ 1)) = false))) ?_
  refine s_lt (t_pure (.bool false)) ?_
  refine s_nil ?_
  refine xs_then ?_
  refine k_false ?_
  refine k_skip ?_
  refine xs_then ?_
  refine k_seq ?_
  refine k_reg ?_
  refine s_lt (t_loadA 4 #[(.slice (some ⟨g4, 0, none⟩) 5 5), (.slice (some ⟨g1, 0, none⟩) 1 1)]) ?_
  refine s_buildSlice (e := 3) [(0, .int .i64 2), (1, .int .i64 1)] #[.int .i64 2, .int .i64 1] (fun g21 => ?_) (hb := by kernel_rfl)
  refine s_pcall (fun _ h => Clear_s (show KnG _ _ _ (awG ⟨(some ⟨g2, 0, none⟩), 1, 1⟩ ⟨(some ⟨g3, 0, none⟩), 2, 2⟩) [1] from ⟨Acc.kn (T := ObT) (.lit 6 ObT_ok [(⟨1, 0, 1, ⟨(some ⟨g2, 0, none⟩), 1, 1⟩, ⟨(some ⟨g3, 0, none⟩), 2, 2⟩, [2], [(⟨2, 3⟩ : Ent), (⟨4, 5⟩ : Ent)]⟩ : Ob), (⟨2, 0, 0, ⟨none, 0, 0⟩, ⟨none, 0, 0⟩, [], []⟩ : Ob), (⟨3, 0, 0, ⟨none, 0, 0⟩, ⟨none, 0, 0⟩, [], []⟩ : Ob), (⟨4, 0, 0, ⟨none, 0, 0⟩, ⟨none, 0, 0⟩, [], []⟩ : Ob), (⟨5, 0, 0, ⟨none, 0, 0⟩, ⟨none, 0, 0⟩, [], []⟩ : Ob)]) h, Acc.kn (T := iTy) (.lit 9 iTy_ok [1]) h, (each_cons ⟨(Acc.kn (T := iTy) (.lit 8 iTy_ok [2]) h), (Acc.kn (T := EntT) (.lit 7 EntT_ok [(⟨2, 3⟩ : Ent), (⟨4, 5⟩ : Ent)]) h)⟩ (each_cons ⟨(Acc.kn (T := iTy) .nil h), (Acc.kn (T := EntT) .nil h)⟩ (each_cons ⟨(Acc.kn (T := iTy) .nil h), (Acc.kn (T := EntT) .nil h)⟩ (each_cons ⟨(Acc.kn (T := iTy) .nil h), (Acc.kn (T := EntT) .nil h)⟩ (each_cons ⟨(Acc.kn (T := iTy) .nil h), (Acc.kn (T := EntT) .nil h)⟩ each_nil)))))⟩) (Acc.kn (.lit 0 iTy_ok [2, 1]) h) (by decide) (aw_len _ _) (by decide) (aw_small _ _)) ?_
  rintro _ _ ⟨ov22, rv23, l24, R25, rfl, hl26, hR27, rfl⟩
  refine s_lt (t_pure (.tuple #[.agg #[ov22, rv23], .int .i64 (errI (chk 0 (awG ⟨(some ⟨g2, 0, none⟩), 1, 1⟩ ⟨(some ⟨g3, 0, none⟩), 2, 2⟩) && ascA 0 [2, 1]))])) ?_
  refine s_lt (t_pure (.agg #[ov22, rv23])) ?_
  refine s_lt (t_pure (.int .i64 (errI (chk 0 (awG ⟨(some ⟨g2, 0, none⟩), 1, 1⟩ ⟨(some ⟨g3, 0, none⟩), 2, 2⟩) && ascA 0 [2, 1])))) ?_
  refine s_alloc (.agg #[(.slice none 0 0), (.slice none 0 0)]) #[(.slice none 0 0), (.slice none 0 0)] (fun g28 => ?_)
  refine s_fact (fun H h => ((show Acc _ _ ObT _ _ from (accF 1)) H h).form) (fun hf29 => ?_)
  refine s_fact (fun H h => ((show Acc _ _ iTy _ _ from (accR 1)) H h).form) (fun hf30 => ?_)
  refine s_store (u := .agg #[ov22, rv23]) (m := 2) 0 #[ov22, rv23] ?_ (hm := by (obtain ⟨_, _, e0⟩ := hf29; obtain ⟨_, _, e1⟩ := hf30; rw [e0, e1]; rfl)) (h1 := by (obtain ⟨_, _, e0⟩ := hf29; obtain ⟨_, _, e1⟩ := hf30; rw [e0, e1]; rfl)) (ha' := by (obtain ⟨_, _, e0⟩ := hf29; obtain ⟨_, _, e1⟩ := hf30; rw [e0, e1]; rfl))
  refine s_lt (t_pure (.int .i64 (errI (chk 0 (awG ⟨(some ⟨g2, 0, none⟩), 1, 1⟩ ⟨(some ⟨g3, 0, none⟩), 2, 2⟩) && ascA 0 [2, 1])))) ?_
  refine s_nil ?_
  refine xs_then ?_
  refine k_seq ?_
  refine k_reg ?_
  refine s_lt (t_pure v6) ?_
  refine s_buildSlice (e := 3) [(0, .int .i64 1), (1, .int .i64 2), (2, .int .i64 3)] #[.int .i64 1, .int .i64 2, .int .i64 3] (fun g31 => ?_) (hb := by kernel_rfl)
  refine s_vcall (fun _ h => ints_s (Acc.kn (.own 7) h) (Acc.kn (.lit 0 iTy_ok [1, 2, 3]) h)) ?_
  rintro u33 e32
  obtain rfl : u33 = .bool true := e32.trans (congrArg Value.bool (decide_eq_true rfl))
  refine s_lt (t_pure (.bool true)) ?_
  refine s_lt (t_pure fv10) ?_
  refine s_buildSlice (e := 3) [(0, .int .i64 4), (1, .int .i64 5)] #[.int .i64 4, .int .i64 5] (fun g34 => ?_) (hb := by kernel_rfl)
  refine s_vcall (fun _ h => ints_s (Acc.kn (.own 7) h) (Acc.kn (.lit 0 iTy_ok [4, 5]) h)) ?_
  rintro u36 e35
  obtain rfl : u36 = .bool true := e35.trans (congrArg Value.bool (decide_eq_true rfl))
  refine s_lt (t_pure (.bool true)) ?_
  refine s_lt (t_pure (.bool true)) ?_
  refine s_lt (t_pure (.int .i64 (roundsP (awG ⟨(some ⟨g2, 0, none⟩), 1, 1⟩ ⟨(some ⟨g3, 0, none⟩), 2, 2⟩) [1]))) ?_
  refine s_lt (Lt.to t_cmp (congrArg Value.bool (decide_eq_true (aw_rounds _ _) : (decide ((roundsP (awG ⟨(some ⟨g2, 0, none⟩), 1, 1⟩ ⟨(some ⟨g3, 0, none⟩), 2, 2⟩) [1]) = 2)) = true))) ?_
  refine s_lt (t_pure (.bool true)) ?_
  refine s_lt (t_pure (.bool true)) ?_
  refine s_lt (t_pure (.int .i64 (errI (chk 0 (awG ⟨(some ⟨g2, 0, none⟩), 1, 1⟩ ⟨(some ⟨g3, 0, none⟩), 2, 2⟩) && ascA 0 [2, 1])))) ?_
  refine s_lt (Lt.to t_cmp (congrArg Value.bool (rfl : (decide ((errI (chk 0 (awG ⟨(some ⟨g2, 0, none⟩), 1, 1⟩ ⟨(some ⟨g3, 0, none⟩), 2, 2⟩) && ascA 0 [2, 1])) = 2)) = true))) ?_
  refine s_lt (t_pure (.bool true)) ?_
  refine s_lt (t_pure (.bool true)) ?_
  refine s_lt (t_pure (.pointer (some ⟨g16, 0, none⟩))) ?_
  refine s_lt (t_load 5 ov8) ?_
  refine s_lt (t_index ObT_ok Try.underlying22 (accF 6) 0 0 (by omega) (by (try simp only [List.length_nil, List.length_cons, List.length_append, List.length_take, List.length_drop, List.length_set, List.length_replicate, List.length_reverse, bits_len]); omega) (by omega)) ?_
  refine s_lt (t_pure (.pointer (some ((elemAt ObT.size ov8 0).add 4)))) ?_
  refine s_lt (t_loadF 4 ObT_ok (accF 6) hy20) ?_
  refine s_lt (t_index EntT_ok Try.underlying40 (accE2 6 (List.mem_of_getElem? hy20)) 0 0 (by omega) (by (try simp only [List.length_nil, List.length_cons, List.length_append, List.length_take, List.length_drop, List.length_set, List.length_replicate, List.length_reverse, bits_len]); omega) (by omega)) ?_
  obtain ⟨y37, hy38⟩ : ∃ y, y19.ents[0]? = some y := ⟨_, List.getElem?_eq_getElem (by (try simp only [List.length_nil, List.length_cons, List.length_append, List.length_take, List.length_drop, List.length_set, List.length_replicate, List.length_reverse, bits_len]); omega)⟩
  refine s_lt (t_loadE EntT_ok (accE2 6 (List.mem_of_getElem? hy20)) hy38) ?_
  refine s_lt (t_kern (.agg #[.int .i64 2, .int .i64 3])) ?_
  refine s_lt (Lt.to (t_eqS (fun w => (eqEntT y37 (⟨2, 3⟩ : Ent) w).1)) (congrArg Value.bool (decide_eq_true (by rw [hye] at hy38; exact (Option.some.inj hy38).symm) : (decide (y37 = (⟨2, 3⟩ : Ent))) = true))) ?_
  refine s_lt (t_pure (.bool true)) ?_
  refine s_lt (t_pure (.bool true)) ?_
  refine s_nil ?_
  refine xs_then ?_
  refine k_ret ?_
  exact xs_fin [.bool true] [] (SI.tmp 0 SI.nil) (fun _ h => h.re [] [0, 0, 0, 0, 0, 0, 0, 0, 0, 0, 0, 0, 0, 0]) ⟨rfl, rfl⟩
theorem alive_w {Z : Zone} {ov rv : Value} {l : List Ob} {R : List Int} (hg : KnG Z ov rv l R) : SF Try.prog 3 #[.agg #[ov, rv]] Z [] fun r Bs => r = .bool true ∧ Bs = [] := by
  refine sf_enter Try.func3 31 [(0, .agg #[ov, rv])] (fun w0 => ?_)
  refine k_seq ?_
  refine k_reg ?_
  refine s_box #[ov, rv] (fun g1 => ?_)
  refine s_lt (t_pure (.bool false)) ?_
  refine s_nil ?_
  refine xs_then ?_
  refine k_seq ?_
  refine k_seq ?_
  refine k_reg ?_
  refine s_lt (t_loadA 0 #[ov, rv]) ?_
  refine s_vcall (fun _ h => large_s (hg.up h)) ?_
  rintro _ rfl
  refine s_nil ?_
  refine xs_then ?_
  refine k_cond (largeB l R) (fun c2 => ?_) (fun c2 => ?_)
  ·
    refine k_seq ?_
    refine k_reg ?_
    refine s_vcall (fun _ h => awake_s) ?_
    rintro _ rfl
    refine s_lt (t_pure (.bool true)) ?_
    refine s_nil ?_
    refine xs_then ?_
    refine k_ret ?_
    refine xs_ret ?_
    exact xs_fin [.bool true] [] (SI.tmp 2 SI.nil) (fun _ h => h.re [] [0]) ⟨rfl, rfl⟩
  ·
    obtain ⟨hl0, hr0, hsm⟩ := small_of c2
    have hp0 := pot_le l hsm []
    have hp : pot l [] ≤ 1000000 := by omega
    have hl : l.length ≤ 100000 := by omega
    have hr : R.length ≤ 100000 := by omega
    refine k_skip ?_
    refine xs_then ?_
    refine k_seq ?_
    refine k_reg ?_
    refine s_lt (t_loadA 0 #[ov, rv]) ?_
    refine s_pcall (fun _ h => Alive_s (hg.up h) hl hp) ?_
    rintro _ _ ⟨v3, rfl, rfl⟩
    rw [alive_eq]
    refine s_fact (fun H h => ((Acc.own (T := iTy) (L := (aliveR l R)) 0 rfl) H h).form) (fun hf4 => ?_)
    refine s_lt (t_pure (.tuple #[v3, .int .i64 (errI (chk 0 l))])) ?_
    refine s_lt (t_pure v3) ?_
    refine s_lt (t_pure (.int .i64 (errI (chk 0 l)))) ?_
    refine s_lt (t_pure v3) ?_
    refine s_lt (t_pure (.int .i64 (errI (chk 0 l)))) ?_
    refine s_nil ?_
    refine xs_then ?_
    refine k_seq ?_
    refine k_reg ?_
    refine s_lt (t_loadA 1 #[ov, rv]) ?_
    refine s_pcall (fun _ h => rAlive_s (hg.up h) hl hp hsm (by omega)) ?_
    rintro _ _ ⟨v5, rfl, rfl⟩
    refine s_fact (fun H h => ((Acc.own (T := iTy) (L := (aliveR l R)) 0 rfl) H h).form) (fun hf6 => ?_)
    refine s_lt (t_pure (.tuple #[v5, .int .i64 (errI (chk 0 l))])) ?_
    refine s_lt (t_pure v5) ?_
    refine s_lt (t_pure (.int .i64 (errI (chk 0 l)))) ?_
    refine s_lt (t_pure v5) ?_
    refine s_lt (t_pure (.int .i64 (errI (chk 0 l)))) ?_
    refine s_nil ?_
    refine xs_then ?_
    refine k_seq ?_
    refine k_reg ?_
    refine s_lt (t_pure v3) ?_
    refine s_lt (t_pure v5) ?_
    refine s_vcall (fun _ h => ints_s (Acc.kn (.own 1) h) (Acc.kn (.own 0) h)) ?_
    rintro u8 e7
    obtain rfl : u8 = .bool true := e7.trans (congrArg Value.bool (decide_eq_true rfl))
    refine s_lt (t_pure (.bool true)) ?_
    refine s_lt (t_pure (.int .i64 (errI (chk 0 l)))) ?_
    refine s_lt (t_pure (.int .i64 (errI (chk 0 l)))) ?_
    refine s_lt (Lt.to t_cmp (congrArg Value.bool (decide_eq_true rfl : (decide ((errI (chk 0 l)) = (errI (chk 0 l)))) = true))) ?_
    refine s_lt (t_pure (.bool true)) ?_
    refine s_lt (t_pure (.bool true)) ?_
    refine s_vcall (fun _ h => awake_s) ?_
    rintro _ rfl
    refine s_lt (t_pure (.bool true)) ?_
    refine s_lt (t_pure (.bool true)) ?_
    refine s_nil ?_
    refine xs_then ?_
    refine k_ret ?_
    exact xs_fin [.bool true] [] (SI.tmp 2 SI.nil) (fun _ h => h.re [] [0, 0, 0]) ⟨rfl, rfl⟩
end Go.Proofs.Ytjdlkemmcnncaaa
