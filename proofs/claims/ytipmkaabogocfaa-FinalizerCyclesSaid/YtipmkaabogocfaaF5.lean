/-
  Cycle with and without an error; the example of layer 27. Each law says its conditions.
-/
import Derived.Test.YtipmkaabogocfaaF4
import Derived.Test.YtipmkaabogocfaaFS
set_option linter.unusedSimpArgs false
set_option linter.unusedVariables false
set_option maxRecDepth 100000
set_option maxHeartbeats 2000000
namespace Go.Proofs.Ytipmkaabogocfaa
open Go.Hp Go.J Go.S
open Go.Mem (Ty KTy blk elemAt pre suf blk_pre blk_suf aget aset strK aggDesc)
theorem cycle_ok {Z : Zone} {ov rv : Value} {l : List Ob} {R : List Int} (hg : KnG Z ov rv l R) {F : List Asr} {qb : Nat} {reg pend : List Int} (hl0 : l.length ≤ 200) (hr : R.length ≤ 50000) (hsm : ∀ o ∈ l, o.refs.length ≤ 400 ∧ o.ents.length ≤ 400) (hq1 : reg.length ≤ 50000) (hq2 : pend.length ≤ 50000) (hc : chk 0 l = true) : SF Try.prog 24 #[.agg #[ov, rv], .pointer (some ⟨qb, 0, none⟩)] Z (qA qb reg pend :: F) fun r Bs => ∃ ov' rv' fv l', r = .tuple #[.agg #[ov', rv'], fv, .int .i64 0] ∧ l'.map Ob.c = cycO l R reg pend ∧ Bs = qA qb (cycR l R reg) (cycP l R reg pend) :: frz (GrA ov' rv' l' R) :: own iTy fv (cycF l R reg pend) :: F :=
  (cycle_s hg hl0 (by omega) (by have := pot_le l hsm []; omega) hr hsm hq1 hq2).mono fun v Bs ⟨ov', rv', fv, l', R', h1, h2, h3, h4⟩ => by
    rw [hc] at h1 h2 h3 h4
    subst h3
    exact ⟨ov', rv', fv, l', h1, h2, h4⟩
theorem cycle_bad {Z : Zone} {ov rv : Value} {l : List Ob} {R : List Int} (hg : KnG Z ov rv l R) {F : List Asr} {qb : Nat} {reg pend : List Int} (hl0 : l.length ≤ 200) (hr : R.length ≤ 50000) (hsm : ∀ o ∈ l, o.refs.length ≤ 400 ∧ o.ents.length ≤ 400) (hq1 : reg.length ≤ 50000) (hq2 : pend.length ≤ 50000) (hc : chk 0 l = false) : SF Try.prog 24 #[.agg #[ov, rv], .pointer (some ⟨qb, 0, none⟩)] Z (qA qb reg pend :: F) fun r Bs => ∃ ov' rv' fv, r = .tuple #[.agg #[ov', rv'], fv, .int .i64 2] ∧ Bs = qA qb reg pend :: frz (GrA ov' rv' [] []) :: own iTy fv [] :: F :=
  (cycle_s hg hl0 (by omega) (by have := pot_le l hsm []; omega) hr hsm hq1 hq2).mono fun v Bs ⟨ov', rv', fv, l', R', h1, h2, h3, h4⟩ => by
    rw [hc] at h1 h2 h3 h4
    obtain rfl : l' = [] := List.map_eq_nil_iff.1 h2
    obtain rfl : R' = [] := h3
    exact ⟨ov', rv', fv, h1, h4⟩
theorem lend_gr {Z Z' : Zone} {ov rv : Value} {l : List Ob} {R : List Int} (h : Lend Z Z' (frz (GrA ov rv l R))) : KnG Z' ov rv l R :=
  ⟨fun H hz => (h.frz H hz).1, fun H hz => (h.frz H hz).2.1, fun x hx => ⟨fun H hz => ((h.frz H hz).2.2 x hx).1, fun H hz => ((h.frz H hz).2.2 x hx).2⟩⟩
theorem samp_shut {Z : Zone} {As : List Asr} {H : Heap} {ov rr : Value} {s : Sv} (h : Holds Z (own ObT ov [⟨1, 0, 0, ⟨none, 0, 0⟩, ⟨none, 0, 0⟩, [], []⟩, ⟨2, 0, 0, s, ⟨none, 0, 0⟩, [3], []⟩, ⟨3, 0, 0, ⟨none, 0, 0⟩, ⟨none, 0, 0⟩, [], []⟩] :: own iTy s.v [3] :: own iTy rr [1] :: As) H) : Holds Z (frz (GrA ov rr [⟨1, 0, 0, ⟨none, 0, 0⟩, ⟨none, 0, 0⟩, [], []⟩, ⟨2, 0, 0, s, ⟨none, 0, 0⟩, [3], []⟩, ⟨3, 0, 0, ⟨none, 0, 0⟩, ⟨none, 0, 0⟩, [], []⟩] [1]) :: As) H := by
  have h1 := h.frz0 (F := fun _ => True) (fun _ => trivial)
  have h2 := Holds.frzO (Holds.re [3, 0, 0, 0] [] h1)
  have h3 := Holds.frzO (Holds.re [2, 0, 0] [] h2)
  have h4 := Holds.frzO (Holds.re [1, 0] [] h3)
  refine h4.frzM fun H ⟨a, b, c, _⟩ => ⟨a, c, fun x hx => ?_⟩
  simp only [List.mem_cons, List.not_mem_nil, or_false] at hx
  rcases hx with rfl | rfl | rfl
  · exact ⟨Sl.nil _ _, Sl.nil _ _⟩
  · exact ⟨b, Sl.nil _ _⟩
  · exact ⟨Sl.nil _ _, Sl.nil _ _⟩
theorem sample_s {Z : Zone} : SF Try.prog 37 #[] Z [] fun r Bs => ∃ ov rv l, r = .agg #[ov, rv] ∧ l.map Ob.c = sampC ∧ Bs = [frz (GrA ov rv l [1])] := by
  refine sf_enter Try.func37 8 [] (fun w0 => ?_)
  refine k_seq ?_
  refine k_reg ?_
  refine s_alloc (.agg #[(.slice none 0 0), (.slice none 0 0)]) #[(.slice none 0 0), (.slice none 0 0)] (fun g1 => ?_)
  refine s_nil ?_
  refine xs_then ?_
  refine k_seq ?_
  refine k_reg ?_
  refine s_lt (t_kern (.agg #[.int .i64 1, .int .i64 0, .int .i64 0, (.slice none 0 0), (.slice none 0 0)])) ?_
  refine s_buildSlice (e := 3) [(0, .int .i64 3)] #[.int .i64 3] (fun g2 => ?_) (hb := by kernel_rfl)
  refine s_lt (t_kern (.agg #[.int .i64 2, .int .i64 0, .int .i64 0, (.slice (some ⟨g2, 0, none⟩) 1 1), (.slice none 0 0)])) ?_
  refine s_lt (t_kern (.agg #[.int .i64 3, .int .i64 0, .int .i64 0, (.slice none 0 0), (.slice none 0 0)])) ?_
  refine s_buildSlice (e := 74) [(0, .agg #[.int .i64 1, .int .i64 0, .int .i64 0, (.slice none 0 0), (.slice none 0 0)]), (1, .agg #[.int .i64 2, .int .i64 0, .int .i64 0, (.slice (some ⟨g2, 0, none⟩) 1 1), (.slice none 0 0)]), (2, .agg #[.int .i64 3, .int .i64 0, .int .i64 0, (.slice none 0 0), (.slice none 0 0)])] #[.int .i64 1, .int .i64 0, .int .i64 0, (.slice none 0 0), (.slice none 0 0), .int .i64 2, .int .i64 0, .int .i64 0, (.slice (some ⟨g2, 0, none⟩) 1 1), (.slice none 0 0), .int .i64 3, .int .i64 0, .int .i64 0, (.slice none 0 0), (.slice none 0 0)] (fun g3 => ?_) (hb := by kernel_rfl)
  refine s_buildSlice (e := 3) [(0, .int .i64 1)] #[.int .i64 1] (fun g4 => ?_) (hb := by kernel_rfl)
  refine s_lt (t_kern (.agg #[(.slice (some ⟨g3, 0, none⟩) 3 3), (.slice (some ⟨g4, 0, none⟩) 1 1)])) ?_
  refine s_store 3 #[(.slice (some ⟨g3, 0, none⟩) 3 3), (.slice (some ⟨g4, 0, none⟩) 1 1)] ?_
  refine s_nil ?_
  refine xs_then ?_
  refine k_ret ?_
  refine xs_mem (fun _ h => Holds.slice 1 h ObT_ok [(⟨1, 0, 0, ⟨none, 0, 0⟩, ⟨none, 0, 0⟩, [], []⟩ : Ob), (⟨2, 0, 0, ⟨(some ⟨g2, 0, none⟩), 1, 1⟩, ⟨none, 0, 0⟩, [3], []⟩ : Ob), (⟨3, 0, 0, ⟨none, 0, 0⟩, ⟨none, 0, 0⟩, [], []⟩ : Ob)]) ?_
  refine xs_mem (fun _ h => Holds.slice 2 h iTy_ok [3]) ?_
  refine xs_mem (fun _ h => Holds.slice 0 h iTy_ok [1]) ?_
  exact xs_fin [.agg #[(.slice (some ⟨g3, 0, none⟩) 3 3), (.slice (some ⟨g4, 0, none⟩) 1 1)]] [frz (GrA (.slice (some ⟨g3, 0, none⟩) 3 3) (.slice (some ⟨g4, 0, none⟩) 1 1) [(⟨1, 0, 0, ⟨none, 0, 0⟩, ⟨none, 0, 0⟩, [], []⟩ : Ob), (⟨2, 0, 0, ⟨(some ⟨g2, 0, none⟩), 1, 1⟩, ⟨none, 0, 0⟩, [3], []⟩ : Ob), (⟨3, 0, 0, ⟨none, 0, 0⟩, ⟨none, 0, 0⟩, [], []⟩ : Ob)] [1])] (SI.agg 0 44 3 SI.nil) (fun _ h => samp_shut (s := ⟨(some ⟨g2, 0, none⟩), 1, 1⟩) (h.re [1, 1, 0] [3])) ⟨_, _, [(⟨1, 0, 0, ⟨none, 0, 0⟩, ⟨none, 0, 0⟩, [], []⟩ : Ob), (⟨2, 0, 0, ⟨(some ⟨g2, 0, none⟩), 1, 1⟩, ⟨none, 0, 0⟩, [3], []⟩ : Ob), (⟨3, 0, 0, ⟨none, 0, 0⟩, ⟨none, 0, 0⟩, [], []⟩ : Ob)], rfl, rfl, rfl⟩
theorem awake_s {Z : Zone} : SF Try.prog 11 #[] Z [] fun r Bs => r = .bool true ∧ Bs = [] := by
  refine sf_enter Try.func11 110 [] (fun w0 => ?_)
  refine k_seq ?_
  refine k_reg ?_
  refine s_lt (t_pure (.bool false)) ?_
  refine s_nil ?_
  refine xs_then ?_
  refine k_seq ?_
  refine k_reg ?_
  refine s_pcall (fun _ h => qnew_s) ?_
  rintro _ _ ⟨q1, rfl, rfl⟩
  refine s_pcall (fun _ h => qnew_s) ?_
  rintro _ _ ⟨q2, rfl, rfl⟩
  refine s_lt (t_pure (.pointer (some ⟨q1, 0, none⟩))) ?_
  refine s_lt (t_pure (.pointer (some ⟨q2, 0, none⟩))) ?_
  refine s_nil ?_
  refine xs_then ?_
  refine k_seq ?_
  refine k_seq ?_
  refine k_reg ?_
  refine s_lt (t_pure (.pointer (some ⟨q1, 0, none⟩))) ?_
  refine s_lt (t_pure (.bool false)) ?_
  refine s_lt (t_pure (.bool false)) ?_
  refine s_lt (t_pure (.pointer (some ⟨q2, 0, none⟩))) ?_
  refine s_lt (t_pure (.bool false)) ?_
  refine s_lt (t_pure (.bool false)) ?_
  refine s_lt (t_pure (.bool false)) ?_
  refine s_lt (t_pure (.pointer (some ⟨q1, 0, none⟩))) ?_
  refine s_call [1] (add_s (reg := []) 1 (by (try simp only [List.length_nil, List.length_cons, List.length_append, List.length_take, List.length_drop, List.length_set, List.length_replicate, List.length_reverse, bits_len]); omega)) ?_
  rintro _ _ ⟨rfl, rfl⟩
  rw [show (addL [] 1) = [1] from rfl]
  refine s_lt (Lt.to t_cmp (congrArg Value.bool (by decide : (decide ((addI [] 1) ≠ 0)) = false))) ?_
  refine s_lt (t_pure (.bool false)) ?_
  refine s_lt (t_pure (.bool false)) ?_
  refine s_lt (t_pure (.pointer (some ⟨q1, 0, none⟩))) ?_
  refine s_call [0] (add_s (reg := [1]) 2 (by (try simp only [List.length_nil, List.length_cons, List.length_append, List.length_take, List.length_drop, List.length_set, List.length_replicate, List.length_reverse, bits_len]); omega)) ?_
  rintro _ _ ⟨rfl, rfl⟩
  rw [show (addL [1] 2) = [1, 2] from rfl]
  refine s_lt (Lt.to t_cmp (congrArg Value.bool (by decide : (decide ((addI [1] 2) ≠ 0)) = false))) ?_
  refine s_lt (t_pure (.bool false)) ?_
  refine s_lt (t_pure (.bool false)) ?_
  refine s_lt (t_pure (.pointer (some ⟨q1, 0, none⟩))) ?_
  refine s_call [0] (add_s (reg := [1, 2]) 3 (by (try simp only [List.length_nil, List.length_cons, List.length_append, List.length_take, List.length_drop, List.length_set, List.length_replicate, List.length_reverse, bits_len]); omega)) ?_
  rintro _ _ ⟨rfl, rfl⟩
  rw [show (addL [1, 2] 3) = [1, 2, 3] from rfl]
  refine s_lt (Lt.to t_cmp (congrArg Value.bool (by decide : (decide ((addI [1, 2] 3) ≠ 0)) = false))) ?_
  refine s_lt (t_pure (.bool false)) ?_
  refine s_lt (t_pure (.bool false)) ?_
  refine s_lt (t_pure (.pointer (some ⟨q1, 0, none⟩))) ?_
  refine s_call [0] (add_s (reg := [1, 2, 3]) 3 (by (try simp only [List.length_nil, List.length_cons, List.length_append, List.length_take, List.length_drop, List.length_set, List.length_replicate, List.length_reverse, bits_len]); omega)) ?_
  rintro _ _ ⟨rfl, rfl⟩
  rw [show (addL [1, 2, 3] 3) = [1, 2, 3] from rfl]
  refine s_lt (Lt.to t_cmp (congrArg Value.bool (by decide : (decide ((addI [1, 2, 3] 3) ≠ 10)) = false))) ?_
  refine s_lt (t_pure (.bool false)) ?_
  refine s_lt (t_pure (.bool false)) ?_
  refine s_lt (t_pure (.pointer (some ⟨q2, 0, none⟩))) ?_
  refine s_call [1] (add_s (reg := []) 2 (by (try simp only [List.length_nil, List.length_cons, List.length_append, List.length_take, List.length_drop, List.length_set, List.length_replicate, List.length_reverse, bits_len]); omega)) ?_
  rintro _ _ ⟨rfl, rfl⟩
  rw [show (addL [] 2) = [2] from rfl]
  refine s_lt (Lt.to t_cmp (congrArg Value.bool (by decide : (decide ((addI [] 2) ≠ 0)) = false))) ?_
  refine s_lt (t_pure (.bool false)) ?_
  refine s_nil ?_
  refine xs_then ?_
  refine k_false ?_
  refine k_skip ?_
  refine xs_then ?_
  refine k_seq ?_
  refine k_seq ?_
  refine k_reg ?_
  refine s_lt (t_pure (.pointer (some ⟨q1, 0, none⟩))) ?_
  refine s_buildSlice (e := 3) [(0, .int .i64 2)] #[.int .i64 2] (fun g3 => ?_) (hb := by kernel_rfl)
  refine s_mem (fun _ h => Holds.slice 0 h iTy_ok [2]) ?_
  refine s_lend 0 [1] (fun _ hz => sepa_s (A := [2]) (reg := [1, 2, 3]) (pend := []) hz.own (by (try simp only [List.length_nil, List.length_cons, List.length_append, List.length_take, List.length_drop, List.length_set, List.length_replicate, List.length_reverse, bits_len]); omega) (by (try simp only [List.length_nil, List.length_cons, List.length_append, List.length_take, List.length_drop, List.length_set, List.length_replicate, List.length_reverse, bits_len]); omega)) ?_
  rintro v4 _ rfl
  refine s_fact (fun H h => ((Acc.own (T := iTy) (L := (sepL [2] [1, 2, 3])) 2 rfl) H h).form) (fun hf5 => ?_)
  rw [show (stayL [2] [1, 2, 3]) = [2] from rfl]
  rw [show ([] ++ (sepL [2] [1, 2, 3])) = [3, 1] from rfl]
  rw [show (sepL [2] [1, 2, 3]) = [3, 1] from rfl]
  refine s_buildSlice (e := 3) [(0, .int .i64 3), (1, .int .i64 1)] #[.int .i64 3, .int .i64 1] (fun g6 => ?_) (hb := by kernel_rfl)
  refine s_vcall (fun _ h => ints_s (Acc.kn (.own 3) h) (Acc.kn (.lit 0 iTy_ok [3, 1]) h)) ?_
  rintro u8 e7
  obtain rfl : u8 = .bool true := e7.trans (congrArg Value.bool (decide_eq_true rfl))
  refine s_lt (t_pure (.bool false)) ?_
  refine s_lt (t_pure (.bool false)) ?_
  refine s_lt (t_pure (.pointer (some ⟨q1, 0, none⟩))) ?_
  refine s_call [2] (registered_s (reg := [2]) (by (try simp only [List.length_nil, List.length_cons, List.length_append, List.length_take, List.length_drop, List.length_set, List.length_replicate, List.length_reverse, bits_len]); omega)) ?_
  rintro v9 _ rfl
  refine s_fact (fun H h => ((Acc.own (T := iTy) (L := [2]) 0 rfl) H h).form) (fun hf10 => ?_)
  refine s_buildSlice (e := 3) [(0, .int .i64 2)] #[.int .i64 2] (fun g11 => ?_) (hb := by kernel_rfl)
  refine s_vcall (fun _ h => ints_s (Acc.kn (.own 1) h) (Acc.kn (.lit 0 iTy_ok [2]) h)) ?_
  rintro u13 e12
  obtain rfl : u13 = .bool true := e12.trans (congrArg Value.bool (decide_eq_true rfl))
  refine s_lt (t_pure (.bool false)) ?_
  refine s_lt (t_pure (.bool false)) ?_
  refine s_nil ?_
  refine xs_then ?_
  refine k_false ?_
  refine k_skip ?_
  refine xs_then ?_
  refine k_seq ?_
  refine k_reg ?_
  refine s_pcall (fun _ h => sample_s) ?_
  rintro _ _ ⟨ov14, rv15, l16, rfl, hl17, rfl⟩
  refine s_lt (t_pure (.pointer (some ⟨q2, 0, none⟩))) ?_
  refine s_lend 0 [6] (fun _ hz => cycle_ok (l := l16) (R := [1]) (reg := [2]) (pend := []) (lend_gr hz) (by rw [sm_len hl17]; decide) (by decide) (sm_small hl17) (by decide) (by decide) (sm_chk hl17)) ?_
  rintro _ _ ⟨ov18, rv19, fv20, l21, rfl, hl22, rfl⟩
  rw [sm_R hl17, sm_P hl17, sm_F hl17]; rw [sm_O hl17] at hl22
  have hl3 := sm_len hl22
  refine s_fact (fun H h => ((Acc.own (T := iTy) (L := []) 3 rfl) H h).form) (fun hf23 => ?_)
  refine s_lt (t_pure (.tuple #[.agg #[ov18, rv19], fv20, .int .i64 0])) ?_
  refine s_lt (t_pure (.agg #[ov18, rv19])) ?_
  refine s_lt (t_pure fv20) ?_
  refine s_lt (t_pure (.int .i64 0)) ?_
  refine s_alloc (.agg #[(.slice none 0 0), (.slice none 0 0)]) #[(.slice none 0 0), (.slice none 0 0)] (fun g24 => ?_)
  refine s_fact (fun H h => ((show Acc _ _ ObT _ _ from (accF 3)) H h).form) (fun hf25 => ?_)
  refine s_fact (fun H h => ((show Acc _ _ iTy _ _ from (accR 3)) H h).form) (fun hf26 => ?_)
  refine s_store (u := .agg #[ov18, rv19]) (m := 2) 0 #[ov18, rv19] ?_ (hm := by (obtain ⟨_, _, e0⟩ := hf25; obtain ⟨_, _, e1⟩ := hf26; rw [e0, e1]; rfl)) (h1 := by (obtain ⟨_, _, e0⟩ := hf25; obtain ⟨_, _, e1⟩ := hf26; rw [e0, e1]; rfl)) (ha' := by (obtain ⟨_, _, e0⟩ := hf25; obtain ⟨_, _, e1⟩ := hf26; rw [e0, e1]; rfl))
  refine s_lt (t_pure fv20) ?_
  refine s_lt (t_pure (.int .i64 0)) ?_
  refine s_nil ?_
  refine xs_then ?_
  refine k_seq ?_
  refine k_seq ?_
  refine k_reg ?_
  refine s_lt (t_pure (.int .i64 0)) ?_
  refine s_lt (t_cmp (c := false)) ?_
  refine s_lt (t_pure (.bool false)) ?_
  refine s_lt (t_pure fv20) ?_
  refine s_lt (Lt.to (v' := .int .i64 0) (t_len (L := []) iTy_ok Try.underlying22 (.own 4)) rfl) ?_
  refine s_lt (t_cmp (c := false)) ?_
  refine s_lt (t_pure (.bool false)) ?_
  refine s_lt (t_pure (.bool false)) ?_
  refine s_lt (t_pure (.pointer (some ⟨g24, 0, none⟩))) ?_
  refine s_lt (t_load 0 ov18) ?_
  refine s_lt (t_len ObT_ok Try.underlying42 (accF 3)) ?_
  refine s_lt (Lt.to t_cmp (congrArg Value.bool (decide_eq_false (by omega) : (decide ((l21.length : Int) ≠ 3)) = false))) ?_
  refine s_lt (t_pure (.bool false)) ?_
  refine s_lt (t_pure (.bool false)) ?_
  refine s_lt (t_pure (.pointer (some ⟨q2, 0, none⟩))) ?_
  refine s_call [2] (pending_s (pend := [2]) (by (try simp only [List.length_nil, List.length_cons, List.length_append, List.length_take, List.length_drop, List.length_set, List.length_replicate, List.length_reverse, bits_len]); omega)) ?_
  rintro v27 _ rfl
  refine s_fact (fun H h => ((Acc.own (T := iTy) (L := [2]) 0 rfl) H h).form) (fun hf28 => ?_)
  refine s_buildSlice (e := 3) [(0, .int .i64 2)] #[.int .i64 2] (fun g29 => ?_) (hb := by kernel_rfl)
  refine s_vcall (fun _ h => ints_s (Acc.kn (.own 1) h) (Acc.kn (.lit 0 iTy_ok [2]) h)) ?_
  rintro u31 e30
  obtain rfl : u31 = .bool true := e30.trans (congrArg Value.bool (decide_eq_true rfl))
  refine s_lt (t_pure (.bool false)) ?_
  refine s_lt (t_pure (.bool false)) ?_
  refine s_nil ?_
  refine xs_then ?_
  refine k_false ?_
  refine k_skip ?_
  refine xs_then ?_
  refine k_seq ?_
  refine k_reg ?_
  refine s_lt (t_pure (.pointer (some ⟨q2, 0, none⟩))) ?_
  refine s_call [2] (next_s (pend := [2]) (by (try simp only [List.length_nil, List.length_cons, List.length_append, List.length_take, List.length_drop, List.length_set, List.length_replicate, List.length_reverse, bits_len]); omega)) ?_
  rintro _ _ ⟨rfl, rfl⟩
  rw [show nextI [2] = 2 from rfl, show nextB [2] = true from rfl]
  rw [show [2].tail = ([] : List Int) from rfl]
  refine s_lt (t_pure (.tuple #[.int .i64 2, .bool true])) ?_
  refine s_lt (t_pure (.int .i64 2)) ?_
  refine s_lt (t_pure (.bool true)) ?_
  refine s_lt (t_pure (.int .i64 2)) ?_
  refine s_lt (t_pure (.bool true)) ?_
  refine s_nil ?_
  refine xs_then ?_
  refine k_seq ?_
  refine k_reg ?_
  refine s_lt (t_loadA 3 #[ov18, rv19]) ?_
  refine s_lt (t_pure (.pointer (some ⟨q2, 0, none⟩))) ?_
  refine s_lend 5 [0] (fun _ hz => cycle_ok (l := l21) (R := [1]) (reg := []) (pend := []) (lend_gr hz) (by rw [sm_len hl22]; decide) (by decide) (sm_small hl22) (by decide) (by decide) (sm_chk hl22)) ?_
  rintro _ _ ⟨ov32, rv33, fv34, l35, rfl, hl36, rfl⟩
  rw [sm_F2 hl22]
  refine s_fact (fun H h => ((Acc.own (T := iTy) (L := [2, 3]) 3 rfl) H h).form) (fun hf37 => ?_)
  refine s_lt (t_pure (.tuple #[.agg #[ov32, rv33], fv34, .int .i64 0])) ?_
  refine s_lt (t_pure (.agg #[ov32, rv33])) ?_
  refine s_lt (t_pure fv34) ?_
  refine s_lt (t_pure (.int .i64 0)) ?_
  refine s_alloc (.agg #[(.slice none 0 0), (.slice none 0 0)]) #[(.slice none 0 0), (.slice none 0 0)] (fun g38 => ?_)
  refine s_fact (fun H h => ((show Acc _ _ ObT _ _ from (accF 3)) H h).form) (fun hf39 => ?_)
  refine s_fact (fun H h => ((show Acc _ _ iTy _ _ from (accR 3)) H h).form) (fun hf40 => ?_)
  refine s_store (u := .agg #[ov32, rv33]) (m := 2) 0 #[ov32, rv33] ?_ (hm := by (obtain ⟨_, _, e0⟩ := hf39; obtain ⟨_, _, e1⟩ := hf40; rw [e0, e1]; rfl)) (h1 := by (obtain ⟨_, _, e0⟩ := hf39; obtain ⟨_, _, e1⟩ := hf40; rw [e0, e1]; rfl)) (ha' := by (obtain ⟨_, _, e0⟩ := hf39; obtain ⟨_, _, e1⟩ := hf40; rw [e0, e1]; rfl))
  refine s_lt (t_pure fv34) ?_
  refine s_lt (t_pure (.int .i64 0)) ?_
  refine s_nil ?_
  refine xs_then ?_
  refine k_seq ?_
  refine k_reg ?_
  refine s_lt (t_pure (.int .i64 2)) ?_
  refine s_lt (t_cmp (c := true)) ?_
  refine s_lt (t_pure (.bool true)) ?_
  refine s_lt (t_pure (.bool true)) ?_
  refine s_lt (t_pure (.bool true)) ?_
  refine s_lt (t_pure (.bool true)) ?_
  refine s_lt (t_pure (.int .i64 0)) ?_
  refine s_lt (t_cmp (c := true)) ?_
  refine s_lt (t_pure (.bool true)) ?_
  refine s_lt (t_pure (.bool true)) ?_
  refine s_lt (t_pure fv34) ?_
  refine s_buildSlice (e := 3) [(0, .int .i64 2), (1, .int .i64 3)] #[.int .i64 2, .int .i64 3] (fun g41 => ?_) (hb := by kernel_rfl)
  refine s_vcall (fun _ h => ints_s (Acc.kn (.own 5) h) (Acc.kn (.lit 0 iTy_ok [2, 3]) h)) ?_
  rintro u43 e42
  obtain rfl : u43 = .bool true := e42.trans (congrArg Value.bool (decide_eq_true rfl))
  refine s_lt (t_pure (.bool true)) ?_
  refine s_lt (t_pure (.bool true)) ?_
  refine s_nil ?_
  refine xs_then ?_
  refine k_ret ?_
  exact xs_fin [.bool true] [] (SI.tmp 0 SI.nil) (fun _ h => h.re [] [0, 0, 0, 0, 0, 0, 0, 0, 0, 0, 0, 0, 0, 0, 0, 0, 0]) ⟨rfl, rfl⟩
end Go.Proofs.Ytipmkaabogocfaa
