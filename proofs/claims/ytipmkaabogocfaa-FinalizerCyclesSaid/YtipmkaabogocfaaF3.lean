/-
  The four steps of a cycle of layer 27. Each law says its conditions.
-/
import Derived.Test.YtipmkaabogocfaaF2
set_option linter.unusedSimpArgs false
set_option linter.unusedVariables false
set_option maxRecDepth 100000
set_option maxHeartbeats 2000000
namespace Go.Proofs.Ytipmkaabogocfaa
open Go.Hp Go.J Go.S
open Go.Mem (Ty KTy blk elemAt pre suf blk_pre blk_suf aget aset strK aggDesc)
theorem step0_s {Z : Zone} {ov rv : Value} {l : List Ob} {R : List Int} (hg : KnG Z ov rv l R) {F : List Asr} {cb qb : Nat} {reg pend : List Int} (hl : l.length ≤ 100000) (hp : pot l [] ≤ 1000000) (hq1 : reg.length ≤ 90000) (hq2 : pend.length ≤ 90000) : SF Try.prog 46 #[.pointer (some ⟨cb, 0, none⟩), .int .i64 0] Z (blkA cb #[ov, rv, .pointer (some ⟨qb, 0, none⟩), .slice none 0 0] 77 :: qA qb reg pend :: F) fun r Bs => r = .tuple #[] ∧ ∃ av, Bs = blkA cb #[ov, rv, .pointer (some ⟨qb, 0, none⟩), av] 77 :: qA qb (stayL (aliveR l R) reg) (pend ++ sepL (aliveR l R) reg) :: own iTy av (aliveR l R) :: F := by
  refine sf_enter Try.func46 136 [(0, .pointer (some ⟨cb, 0, none⟩)), (1, .int .i64 0)] (fun w0 => ?_)
  refine k_seq ?_
  refine k_reg ?_
  refine s_lt (t_pure (.int .i64 0)) ?_
  refine s_nil ?_
  refine xs_then ?_
  refine k_block ?_
  refine k_seq ?_
  refine k_reg ?_
  refine s_lt (t_cmp (c := true)) ?_
  refine s_lt (t_pure (.bool true)) ?_
  refine s_nil ?_
  refine xs_then ?_
  refine k_true ?_
  refine k_seq ?_
  refine k_reg ?_
  refine s_lt (t_pure (.pointer (some ⟨cb, 0, none⟩))) ?_
  refine s_lt (t_pure (.pointer (some ⟨cb, 0, none⟩))) ?_
  refine s_lt (t_pure (.pointer (some ⟨cb, 0, none⟩))) ?_
  refine s_lt (t_pure (.pointer (some ⟨cb, 0, none⟩))) ?_
  refine s_lt (t_loadA 0 #[ov, rv]) ?_
  refine s_pcall (fun _ h => Alive_s (hg.up h) hl hp) ?_
  rintro _ _ ⟨v1, rfl, rfl⟩
  rw [alive_eq]
  refine s_fact (fun H h => ((Acc.own (T := iTy) (L := (aliveR l R)) 0 rfl) H h).form) (fun hf2 => ?_)
  refine s_lt (t_pure (.tuple #[v1, .int .i64 (errI (chk 0 l))])) ?_
  refine s_lt (t_pure v1) ?_
  refine s_lt (t_pure (.int .i64 (errI (chk 0 l)))) ?_
  refine s_lt (t_pure (.pointer (some ⟨cb, 0, none⟩))) ?_
  refine s_lt (t_pure (.pointer (some ⟨cb, 3, none⟩))) ?_
  refine s_store (u := v1) (m := 1) 1 #[ov, rv, .pointer (some ⟨qb, 0, none⟩), v1] ?_ (hm := by (obtain ⟨_, _, e0⟩ := hf2; rw [e0]; rfl)) (h1 := by (obtain ⟨_, _, e0⟩ := hf2; rw [e0]; rfl)) (ha' := by (obtain ⟨_, _, e0⟩ := hf2; rw [e0]; rfl))
  refine s_nil ?_
  refine xs_then ?_
  refine k_draw ?_
  refine s_lt (t_pure (.pointer (some ⟨cb, 0, none⟩))) ?_
  refine s_lt (t_pure (.pointer (some ⟨cb, 0, none⟩))) ?_
  refine s_lt (t_pure (.pointer (some ⟨cb, 2, none⟩))) ?_
  refine s_lt (t_load 1 (.pointer (some ⟨qb, 0, none⟩))) ?_
  refine s_lt (t_pure (.pointer (some ⟨cb, 0, none⟩))) ?_
  refine s_lt (t_pure (.pointer (some ⟨cb, 0, none⟩))) ?_
  refine s_lt (t_pure (.pointer (some ⟨cb, 3, none⟩))) ?_
  refine s_lt (t_load 1 v1) ?_
  refine s_lend 0 [1] (fun _ hz => sepa_s (A := (aliveR l R)) (reg := reg) (pend := pend) hz.own (by (try simp only [List.length_nil, List.length_cons, List.length_append, List.length_take, List.length_drop, List.length_set, List.length_replicate, List.length_reverse, bits_len]); omega) (by (try simp only [List.length_nil, List.length_cons, List.length_append, List.length_take, List.length_drop, List.length_set, List.length_replicate, List.length_reverse, bits_len]); omega)) ?_
  rintro v3 _ rfl
  refine s_fact (fun H h => ((Acc.own (T := iTy) (L := (sepL (aliveR l R) reg)) 2 rfl) H h).form) (fun hf4 => ?_)
  refine s_nil ?_
  refine x_dynS (fun _ h => by kernel_rfl) ?_
  refine xs_block ?_
  exact xs_finN [] (blkA cb #[ov, rv, .pointer (some ⟨qb, 0, none⟩), v1] 77 :: qA qb (stayL (aliveR l R) reg) (pend ++ sepL (aliveR l R) reg) :: own iTy v1 (aliveR l R) :: F) SI.nil (fun _ h => h.re [3, 1, 0] [3]) ⟨rfl, v1, rfl⟩
theorem step1_s {Z : Zone} {ov rv : Value} {l : List Ob} {R : List Int} (hg : KnG Z ov rv l R) {F : List Asr} {cb qb : Nat} {av : Value} {A : List Int} (hl : l.length ≤ 100000) (hsm : ∀ o ∈ l, o.refs.length ≤ 400 ∧ o.ents.length ≤ 400) : SF Try.prog 46 #[.pointer (some ⟨cb, 0, none⟩), .int .i64 1] Z (blkA cb #[ov, rv, .pointer (some ⟨qb, 0, none⟩), av] 77 :: own iTy av A :: F) fun r Bs => r = .tuple #[] ∧ ∃ ov' l', l'.map Ob.c = l.map (unv A) ∧ Bs = blkA cb #[ov', rv, .pointer (some ⟨qb, 0, none⟩), av] 77 :: own iTy av A :: zfr Z (GrA ov' rv l' R) :: F := by
  refine sf_enter Try.func46 136 [(0, .pointer (some ⟨cb, 0, none⟩)), (1, .int .i64 1)] (fun w0 => ?_)
  refine k_seq ?_
  refine k_reg ?_
  refine s_lt (t_pure (.int .i64 1)) ?_
  refine s_nil ?_
  refine xs_then ?_
  refine k_block ?_
  refine k_seq ?_
  refine k_reg ?_
  refine s_lt (t_cmp (c := false)) ?_
  refine s_lt (t_pure (.bool false)) ?_
  refine s_nil ?_
  refine xs_then ?_
  refine k_false ?_
  refine k_seq ?_
  refine k_reg ?_
  refine s_lt (t_cmp (c := true)) ?_
  refine s_lt (t_pure (.bool true)) ?_
  refine s_nil ?_
  refine xs_then ?_
  refine k_true ?_
  refine k_seq ?_
  refine k_reg ?_
  refine s_lt (t_pure (.pointer (some ⟨cb, 0, none⟩))) ?_
  refine s_lt (t_pure (.pointer (some ⟨cb, 0, none⟩))) ?_
  refine s_lt (t_pure (.pointer (some ⟨cb, 3, none⟩))) ?_
  refine s_lt (t_load 0 av) ?_
  refine s_pcall (fun _ h => set_s (L := A) (Acc.kn (.own 1) h)) ?_
  rintro _ _ ⟨mp1, rfl, rfl⟩
  refine s_lt (t_pure (.map (some mp1))) ?_
  refine s_nil ?_
  refine xs_then ?_
  refine k_seq ?_
  refine k_reg ?_
  refine s_lt (t_pure (.slice none 0 0)) ?_
  refine s_nil ?_
  refine xs_then ?_
  refine k_seq ?_
  refine k_seq ?_
  refine k_reg ?_
  refine s_lt (t_pure (.pointer (some ⟨cb, 0, none⟩))) ?_
  refine s_lt (t_pure (.pointer (some ⟨cb, 0, none⟩))) ?_
  refine s_lt (t_pure (.pointer (some ⟨cb, 0, none⟩))) ?_
  refine s_lt (t_pure (.pointer (some ⟨cb, 0, none⟩))) ?_
  refine s_lt (t_load 1 ov) ?_
  refine s_lt (t_len ObT_ok Try.underlying42 (.zn hg.obs)) ?_
  refine s_lt (t_pure (.int .i64 0)) ?_
  refine s_nil ?_
  refine xs_then ?_
  refine k_block ?_
  refine k_mem (fun _ h => Holds.nilS (T := ObT) (zall_nil h)) ?_
  refine k_loop (ι := Value × List Ob × Nat) (fun (ox, N, j) => j ≤ l.length ∧ N.map Ob.c = (l.take j).map (unv A)) (fun (ox, N, j) => [(0, .pointer (some ⟨cb, 0, none⟩)), (4, .map (some mp1)), (5, ox), (49, ov), (50, .int .i64 (l.length : Int)), (51, .int .i64 (j : Int))]) (fun (ox, N, j) => own ObT ox N :: zfr Z (AllO N) :: mpA (Go.Mem.intK 3) bV mp1 (setL A) :: blkA cb #[ov, rv, .pointer (some ⟨qb, 0, none⟩), av] 77 :: own iTy av A :: F) (fun (ox, N, j) => l.length - j) (.slice none 0 0, [], 0) ⟨Nat.zero_le _, rfl⟩ (sub_of rfl ⟨⟨rfl, rfl⟩, ⟨⟨rfl, rfl⟩, ⟨⟨rfl, rfl⟩, ⟨⟨rfl, rfl⟩, ⟨⟨rfl, rfl⟩, ⟨⟨rfl, rfl⟩, trivial⟩⟩⟩⟩⟩⟩) (fun _ h => h.re [0, 0, 0, 0, 0] []) ?_
  rintro ⟨ox, N, j⟩ hi2
  replace hi2 : j ≤ l.length ∧ N.map Ob.c = (l.take j).map (unv A) := hi2
  show SK _ _ _ _ _ [(0, .pointer (some ⟨cb, 0, none⟩)), (4, .map (some mp1)), (5, ox), (49, ov), (50, .int .i64 (l.length : Int)), (51, .int .i64 (j : Int))] _ (own ObT ox N :: zfr Z (AllO N) :: mpA (Go.Mem.intK 3) bV mp1 (setL A) :: blkA cb #[ov, rv, .pointer (some ⟨qb, 0, none⟩), av] 77 :: own iTy av A :: F)
  have hNl : N.length = j := by have := congrArg List.length hi2.2; simp only [List.length_map, List.length_take] at this; omega
  refine k_seq ?_
  refine k_reg ?_
  refine s_lt t_cmp ?_
  refine s_nil ?_
  refine xs_then ?_
  refine k_seq ?_
  refine k_cond (decide ((j : Int) < (l.length : Int))) (fun c3 => ?_) (fun c3 => ?_)
  ·
    have p4 := of_decide_eq_true c3
    refine k_skip ?_
    refine xs_then ?_
    refine k_seq ?_
    refine k_block ?_
    refine k_seq ?_
    refine k_reg ?_
    refine s_lt (t_index ObT_ok Try.underlying42 (.zn hg.obs) (j : Int) j (by omega) (by (try simp only [List.length_nil, List.length_cons, List.length_append, List.length_take, List.length_drop, List.length_set, List.length_replicate, List.length_reverse, bits_len]); omega) (by omega)) ?_
    obtain ⟨y5, hy6⟩ : ∃ y, l[j]? = some y := ⟨_, List.getElem?_eq_getElem (by (try simp only [List.length_nil, List.length_cons, List.length_append, List.length_take, List.length_drop, List.length_set, List.length_replicate, List.length_reverse, bits_len]); omega)⟩
    have hk7 := hg.each y5 (List.mem_of_getElem? hy6)
    refine s_lt (t_loadE ObT_ok (.zn hg.obs) hy6) ?_
    refine s_alloc (.agg #[.int .i64 0, .int .i64 0, .int .i64 0, (.slice none 0 0), (.slice none 0 0)]) #[.int .i64 0, .int .i64 0, .int .i64 0, (.slice none 0 0), (.slice none 0 0)] (fun g8 => ?_)
    refine s_store 0 #[.int .i64 y5.id, .int .i64 y5.size, .int .i64 y5.weak, y5.rv.v, y5.ev.v] ?_
    refine s_nil ?_
    refine xs_then ?_
    refine k_reg ?_
    refine s_lt (t_pure ox) ?_
    refine s_lt (t_loadA 0 #[.int .i64 y5.id, .int .i64 y5.size, .int .i64 y5.weak, y5.rv.v, y5.ev.v]) ?_
    refine s_lt (t_pure (.map (some mp1))) ?_
    refine s_call [3] (cleared_s (A := A) hk7 (hsm y5 (List.mem_of_getElem? hy6))) ?_
    rintro _ _ ⟨x9, rfl, hx10, rfl⟩
    refine s_buildSlice (e := 74) [(0, .agg #[.int .i64 x9.id, .int .i64 x9.size, .int .i64 x9.weak, x9.rv.v, x9.ev.v])] #[.int .i64 x9.id, .int .i64 x9.size, .int .i64 x9.weak, x9.rv.v, x9.ev.v] (fun g11 => ?_) (hb := by kernel_rfl)
    refine s_append (L := N) 4 ObT_ok Try.underlying42 (.lit 0 ObT_ok [x9]) (by show _ * 72 ≤ _; (try simp only [List.length_nil, List.length_cons, List.length_append, List.length_take, List.length_drop, List.length_set, List.length_replicate, List.length_reverse, bits_len]); omega) (by (try simp only [List.length_nil, List.length_cons, List.length_append, List.length_take, List.length_drop, List.length_set, List.length_replicate, List.length_reverse, bits_len]); omega) (fun v12 => ?_)
    refine s_fact (fun H h => ((Acc.own (T := ObT) (L := (N ++ [x9])) 4 rfl) H h).form) (fun hf13 => ?_)
    refine s_lt (t_pure v12) ?_
    refine s_nil ?_
    refine xs_block ?_
    refine xs_then ?_
    refine k_reg ?_
    refine s_lt (t_add (j : Int) 1 (by (try simp only [List.length_nil, List.length_cons, List.length_append, List.length_take, List.length_drop, List.length_set, List.length_replicate, List.length_reverse, bits_len]); omega)) ?_
    refine s_lt (t_pure (.int .i64 ((j : Int) + 1))) ?_
    refine s_nil ?_
    refine xs_mem (fun _ h => zall_push x9 (h.re [1, 4] [])) ?_
    exact xs_round (v12, N ++ [x9], j + 1) (by show l.length - (j + 1) < l.length - j; omega) (by obtain ⟨hk1, hk2⟩ := hi2; exact ⟨by omega, map_snoc hy6 hk2 hx10⟩) (sub_of rfl ⟨⟨rfl, rfl⟩, ⟨⟨rfl, rfl⟩, ⟨⟨rfl, rfl⟩, ⟨⟨rfl, rfl⟩, ⟨⟨rfl, rfl⟩, ⟨⟨rfl, rfl⟩, trivial⟩⟩⟩⟩⟩⟩) (fun _ h => h.re [4, 0, 1, 2, 2] [5, 5])
  ·
    have p14 := of_decide_eq_false c3
    refine k_exit ?_
    refine xs_exit ?_
    refine xs_exit ?_
    refine xs_here ?_
    refine xs_then ?_
    refine k_reg ?_
    refine s_lt (t_pure (.pointer (some ⟨cb, 0, none⟩))) ?_
    refine s_lt (t_pure ox) ?_
    refine s_lt (t_pure (.pointer (some ⟨cb, 0, none⟩))) ?_
    refine s_lt (t_pure (.pointer (some ⟨cb, 0, none⟩))) ?_
    refine s_lt (t_pure (.pointer (some ⟨cb, 0, none⟩))) ?_
    refine s_fact (fun H h => ((Acc.own (T := ObT) (L := N) 0 rfl) H h).form) (fun hf15 => ?_)
    refine s_store (u := ox) (m := 1) 3 #[ox, rv, .pointer (some ⟨qb, 0, none⟩), av] ?_ (hm := by (obtain ⟨_, _, e0⟩ := hf15; rw [e0]; rfl)) (h1 := by (obtain ⟨_, _, e0⟩ := hf15; rw [e0]; rfl)) (ha' := by (obtain ⟨_, _, e0⟩ := hf15; rw [e0]; rfl))
    refine s_nil ?_
    refine xs_block ?_
    obtain ⟨hk1, hk2⟩ := hi2
    obtain rfl : j = l.length := by omega
    rw [List.take_length] at hk2
    exact xs_finN [] (blkA cb #[ox, rv, .pointer (some ⟨qb, 0, none⟩), av] 77 :: own iTy av A :: zfr Z (GrA ox rv N R) :: F) SI.nil (fun _ h => (zgr_shut hg.roots (h.re [0, 0, 1, 1] [4])).re [1, 1] []) ⟨rfl, _, N, hk2, rfl⟩
theorem step2_s {Z : Zone} {ov rv : Value} {l : List Ob} {R : List Int} {F : List Asr} {cb qb : Nat} {reg pend : List Int} {av : Value} {A : List Int} (hl : l.length ≤ 100000) (hp : pot l [] ≤ 1000000) (hr : R.length ≤ 100000) (hq2 : pend.length ≤ 200000) : SF Try.prog 46 #[.pointer (some ⟨cb, 0, none⟩), .int .i64 2] Z (blkA cb #[ov, rv, .pointer (some ⟨qb, 0, none⟩), av] 77 :: own iTy av A :: zfr Z (GrA ov rv l R) :: qA qb reg pend :: F) fun r Bs => r = .tuple #[] ∧ ∃ av, Bs = blkA cb #[ov, rv, .pointer (some ⟨qb, 0, none⟩), av] 77 :: own iTy av (aliveR l (R ++ pend)) :: zfr Z (GrA ov rv l R) :: qA qb reg pend :: F := by
  refine sf_enter Try.func46 136 [(0, .pointer (some ⟨cb, 0, none⟩)), (1, .int .i64 2)] (fun w0 => ?_)
  refine k_seq ?_
  refine k_reg ?_
  refine s_lt (t_pure (.int .i64 2)) ?_
  refine s_nil ?_
  refine xs_then ?_
  refine k_block ?_
  refine k_seq ?_
  refine k_reg ?_
  refine s_lt (t_cmp (c := false)) ?_
  refine s_lt (t_pure (.bool false)) ?_
  refine s_nil ?_
  refine xs_then ?_
  refine k_false ?_
  refine k_seq ?_
  refine k_reg ?_
  refine s_lt (t_cmp (c := false)) ?_
  refine s_lt (t_pure (.bool false)) ?_
  refine s_nil ?_
  refine xs_then ?_
  refine k_false ?_
  refine k_seq ?_
  refine k_reg ?_
  refine s_lt (t_cmp (c := true)) ?_
  refine s_lt (t_pure (.bool true)) ?_
  refine s_nil ?_
  refine xs_then ?_
  refine k_true ?_
  refine k_seq ?_
  refine k_reg ?_
  refine s_lt (t_pure (.pointer (some ⟨cb, 0, none⟩))) ?_
  refine s_lt (t_pure (.pointer (some ⟨cb, 0, none⟩))) ?_
  refine s_lt (t_pure (.pointer (some ⟨cb, 0, none⟩))) ?_
  refine s_lt (t_loadA 0 #[ov, rv]) ?_
  refine s_alloc (.agg #[(.slice none 0 0), (.slice none 0 0)]) #[(.slice none 0 0), (.slice none 0 0)] (fun g1 => ?_)
  refine s_fact (fun H h => ((show Acc _ _ ObT _ _ from (accZF 3)) H h).form) (fun hf2 => ?_)
  refine s_fact (fun H h => ((show Acc _ _ iTy _ _ from (accZR 3)) H h).form) (fun hf3 => ?_)
  refine s_store (u := .agg #[ov, rv]) (m := 2) 0 #[ov, rv] ?_ (hm := by (obtain ⟨_, _, e0⟩ := hf2; obtain ⟨_, _, e1⟩ := hf3; rw [e0, e1]; rfl)) (h1 := by (obtain ⟨_, _, e0⟩ := hf2; obtain ⟨_, _, e1⟩ := hf3; rw [e0, e1]; rfl)) (ha' := by (obtain ⟨_, _, e0⟩ := hf2; obtain ⟨_, _, e1⟩ := hf3; rw [e0, e1]; rfl))
  refine s_nil ?_
  refine xs_then ?_
  refine k_seq ?_
  refine k_held [blkA cb #[ov, rv, .pointer (some ⟨qb, 0, none⟩), av] 77, own iTy av A] ?_
  refine h_lt 0 rfl (np_then (np_block np_finS)) [1, 1] (fun _ => (t_pure (.pointer (some ⟨g1, 1, none⟩)))) ?_
  refine h_lt 3 rfl (np_then (np_block np_finS)) [1, 1] (fun _ => (t_pure (.pointer (some ⟨cb, 0, none⟩)))) ?_
  refine h_lt 4 rfl (np_then (np_block np_finS)) [1, 1] (fun _ => (t_pure (.pointer (some ⟨cb, 0, none⟩)))) ?_
  refine h_lt 5 rfl (np_then (np_block np_finS)) [1, 1] (fun _ => (t_pure (.pointer (some ⟨cb, 2, none⟩)))) ?_
  refine h_lt 6 rfl (np_then (np_block np_finS)) [1, 1] (fun _ => (t_load 0 (.pointer (some ⟨qb, 0, none⟩)))) ?_
  refine h_stepS 1 ?_
  refine s_lt (t_load 0 rv) ?_
  refine s_nil (xs_held [1, 1] ?_)
  refine h_stepS 2 ?_
  refine s_pcall (fun _ h => clone_s (Acc.kn (accZR 3) h) (by (try simp only [List.length_nil, List.length_cons, List.length_append, List.length_take, List.length_drop, List.length_set, List.length_replicate, List.length_reverse, bits_len]); omega)) ?_
  rintro v4 _ rfl
  refine s_fact (fun H h => ((Acc.own (T := iTy) (L := R) 0 rfl) H h).form) (fun hf5 => ?_)
  refine s_nil (xs_held [2, 2] ?_)
  refine h_stepS 7 ?_
  refine s_call [5] (pending_s (pend := pend) (by (try simp only [List.length_nil, List.length_cons, List.length_append, List.length_take, List.length_drop, List.length_set, List.length_replicate, List.length_reverse, bits_len]); omega)) ?_
  rintro v6 _ rfl
  refine s_fact (fun H h => ((Acc.own (T := iTy) (L := pend) 0 rfl) H h).form) (fun hf7 => ?_)
  refine s_nil (xs_held [4, 4] ?_)
  refine h_stepS 8 ?_
  refine s_append (L := R) 2 iTy_ok Try.underlying22 (.own 0) (by show _ * 8 ≤ _; (try simp only [List.length_nil, List.length_cons, List.length_append, List.length_take, List.length_drop, List.length_set, List.length_replicate, List.length_reverse, bits_len]); omega) (by (try simp only [List.length_nil, List.length_cons, List.length_append, List.length_take, List.length_drop, List.length_set, List.length_replicate, List.length_reverse, bits_len]); omega) (fun v8 => ?_)
  refine s_fact (fun H h => ((Acc.own (T := iTy) (L := (R ++ pend)) 2 rfl) H h).form) (fun hf9 => ?_)
  refine s_nil (xs_held [4, 4] ?_)
  refine h_lt 9 rfl (np_then (np_block np_finS)) [4, 4] (fun _ => (t_pure (.pointer (some ⟨g1, 1, none⟩)))) ?_
  refine h_stepS 10 ?_
  refine s_store (u := v8) (m := 1) 3 #[ov, v8] ?_ (hm := by (obtain ⟨_, _, e0⟩ := hf9; rw [e0]; rfl)) (h1 := by (obtain ⟨_, _, e0⟩ := hf9; rw [e0]; rfl)) (ha' := by (obtain ⟨_, _, e0⟩ := hf9; rw [e0]; rfl))
  refine s_nil (xs_held [4, 4] ?_)
  refine h_doneS ?_
  refine xs_then ?_
  refine k_reg ?_
  refine s_lt (t_pure (.pointer (some ⟨cb, 0, none⟩))) ?_
  refine s_lt (t_loadA 3 #[ov, v8]) ?_
  refine s_pcall (fun _ h => Alive_s (gr_more (h.zfrF 6) (h.knS 2)) hl hp) ?_
  rintro _ _ ⟨v10, rfl, rfl⟩
  rw [alive_eq]
  refine s_fact (fun H h => ((Acc.own (T := iTy) (L := (aliveR l (R ++ pend))) 0 rfl) H h).form) (fun hf11 => ?_)
  refine s_lt (t_pure (.tuple #[v10, .int .i64 (errI (chk 0 l))])) ?_
  refine s_lt (t_pure v10) ?_
  refine s_lt (t_pure (.int .i64 (errI (chk 0 l)))) ?_
  refine s_lt (t_pure (.pointer (some ⟨cb, 0, none⟩))) ?_
  refine s_lt (t_pure (.pointer (some ⟨cb, 3, none⟩))) ?_
  refine s_store (u := v10) (m := 1) 5 #[ov, rv, .pointer (some ⟨qb, 0, none⟩), v10] ?_ (hm := by (obtain ⟨_, _, e0⟩ := hf11; rw [e0]; rfl)) (h1 := by (obtain ⟨_, _, e0⟩ := hf11; rw [e0]; rfl)) (ha' := by (obtain ⟨_, _, e0⟩ := hf11; rw [e0]; rfl))
  refine s_nil ?_
  refine xs_block ?_
  exact xs_finN [] (blkA cb #[ov, rv, .pointer (some ⟨qb, 0, none⟩), v10] 77 :: own iTy v10 (aliveR l (R ++ pend)) :: zfr Z (GrA ov rv l R) :: qA qb reg pend :: F) SI.nil (fun _ h => h.re [5, 0, 5, 1] [4, 4, 4, 4]) ⟨rfl, v10, rfl⟩
theorem step3_s {Z : Zone} {ov rv : Value} {l : List Ob} {R : List Int} {F : List Asr} {cb qb : Nat} {av : Value} {B : List Int} (hl : l.length ≤ 100000) (hr : R.length ≤ 100000) (hsm : ∀ o ∈ l, o.refs.length ≤ 400 ∧ o.ents.length ≤ 400) (hlB : B.length ≤ 100000) (hok : (chk 0 l && ascA 0 B) = true) : SF Try.prog 46 #[.pointer (some ⟨cb, 0, none⟩), .int .i64 3] Z (blkA cb #[ov, rv, .pointer (some ⟨qb, 0, none⟩), av] 77 :: own iTy av B :: zfr Z (GrA ov rv l R) :: F) fun r Bs => r = .tuple #[] ∧ ∃ ov' l', l'.map Ob.c = lastL B (l.map (clr B)) ∧ Bs = blkA cb #[ov', rv, .pointer (some ⟨qb, 0, none⟩), av] 77 :: own iTy av B :: zfr Z (GrA ov' rv l' R) :: F := by
  refine sf_enter Try.func46 136 [(0, .pointer (some ⟨cb, 0, none⟩)), (1, .int .i64 3)] (fun w0 => ?_)
  refine k_seq ?_
  refine k_reg ?_
  refine s_lt (t_pure (.int .i64 3)) ?_
  refine s_nil ?_
  refine xs_then ?_
  refine k_block ?_
  refine k_seq ?_
  refine k_reg ?_
  refine s_lt (t_cmp (c := false)) ?_
  refine s_lt (t_pure (.bool false)) ?_
  refine s_nil ?_
  refine xs_then ?_
  refine k_false ?_
  refine k_seq ?_
  refine k_reg ?_
  refine s_lt (t_cmp (c := false)) ?_
  refine s_lt (t_pure (.bool false)) ?_
  refine s_nil ?_
  refine xs_then ?_
  refine k_false ?_
  refine k_seq ?_
  refine k_reg ?_
  refine s_lt (t_cmp (c := false)) ?_
  refine s_lt (t_pure (.bool false)) ?_
  refine s_nil ?_
  refine xs_then ?_
  refine k_false ?_
  refine k_seq ?_
  refine k_reg ?_
  refine s_lt (t_cmp (c := true)) ?_
  refine s_lt (t_pure (.bool true)) ?_
  refine s_nil ?_
  refine xs_then ?_
  refine k_true ?_
  refine k_seq ?_
  refine k_held [blkA cb #[ov, rv, .pointer (some ⟨qb, 0, none⟩), av] 77, own iTy av B] ?_
  refine h_lt 0 rfl (np_then (np_block np_finS)) [0, 0] (fun _ => (t_pure (.pointer (some ⟨cb, 0, none⟩)))) ?_
  refine h_lt 1 rfl (np_then (np_block np_finS)) [0, 0] (fun _ => (t_pure (.pointer (some ⟨cb, 0, none⟩)))) ?_
  refine h_lt 2 rfl (np_then (np_block np_finS)) [0, 0] (fun _ => (t_pure (.pointer (some ⟨cb, 0, none⟩)))) ?_
  refine h_lt 3 rfl (np_then (np_block np_finS)) [0, 0] (fun _ => (t_loadA 0 #[ov, rv])) ?_
  refine h_lt 4 rfl (np_then (np_block np_finS)) [0, 0] (fun _ => (t_pure (.pointer (some ⟨cb, 0, none⟩)))) ?_
  refine h_lt 5 rfl (np_then (np_block np_finS)) [0, 0] (fun _ => (t_pure (.pointer (some ⟨cb, 0, none⟩)))) ?_
  refine h_lt 6 rfl (np_then (np_block np_finS)) [0, 0] (fun _ => (t_pure (.pointer (some ⟨cb, 3, none⟩)))) ?_
  refine h_lt 7 rfl (np_then (np_block np_finS)) [0, 0] (fun _ => (t_load 0 av)) ?_
  refine h_stepS2 8 12 ?_ ?_
  ·
    refine s_pcall (fun _ h => Clear_s (GrA.kn (h.zfrF 2)) (Acc.kn (.own 1) h) hlB hl hr hsm) ?_
    rintro _ _ ⟨ov1, rv2, l3, R4, rfl, hl5, hR6, rfl⟩
    refine s_nil (xs_held [1, 1] ?_)
    refine h_lt 9 rfl (np_then (np_block np_finS)) [1, 1] (fun _ => (t_pure (.tuple #[.agg #[ov1, rv2], .int .i64 (errI (chk 0 l && ascA 0 B))]))) ?_
    refine h_lt 10 rfl (np_then (np_block np_finS)) [1, 1] (fun _ => (t_pure (.agg #[ov1, rv2]))) ?_
    refine h_lt 11 rfl (np_then (np_block np_finS)) [1, 1] (fun _ => (t_pure (.int .i64 (errI (chk 0 l && ascA 0 B))))) ?_
    refine h_stepS 12 ?_
    refine s_alloc (.agg #[(.slice none 0 0), (.slice none 0 0)]) #[(.slice none 0 0), (.slice none 0 0)] (fun g7 => ?_)
    refine s_nil (xs_held [2, 2] ?_)
    refine h_stepS 13 ?_
    refine s_fact (fun H h => ((show Acc _ _ ObT _ _ from (accF 1)) H h).form) (fun hf8 => ?_)
    refine s_fact (fun H h => ((show Acc _ _ iTy _ _ from (accR 1)) H h).form) (fun hf9 => ?_)
    refine s_store (u := .agg #[ov1, rv2]) (m := 2) 0 #[ov1, rv2] ?_ (hm := by (obtain ⟨_, _, e0⟩ := hf8; obtain ⟨_, _, e1⟩ := hf9; rw [e0, e1]; rfl)) (h1 := by (obtain ⟨_, _, e0⟩ := hf8; obtain ⟨_, _, e1⟩ := hf9; rw [e0, e1]; rfl)) (ha' := by (obtain ⟨_, _, e0⟩ := hf8; obtain ⟨_, _, e1⟩ := hf9; rw [e0, e1]; rfl))
    refine s_nil (xs_held [2, 2] ?_)
    refine h_lt 14 rfl (np_then (np_block np_finS)) [2, 2] (fun _ => (t_pure (.int .i64 (errI (chk 0 l && ascA 0 B))))) ?_
    refine h_doneS ?_
    refine xs_then ?_
    refine k_seq ?_
    refine k_reg ?_
    refine s_lt (t_pure (.pointer (some ⟨cb, 0, none⟩))) ?_
    refine s_lt (t_pure (.pointer (some ⟨cb, 0, none⟩))) ?_
    refine s_lt (t_pure (.pointer (some ⟨cb, 3, none⟩))) ?_
    refine s_lt (t_load 2 av) ?_
    refine s_pcall (fun _ h => set_s (L := B) (Acc.kn (.own 3) h)) ?_
    rintro _ _ ⟨mp10, rfl, rfl⟩
    refine s_lt (t_pure (.map (some mp10))) ?_
    refine s_nil ?_
    refine xs_then ?_
    refine k_seq ?_
    refine k_reg ?_
    refine s_lt (t_pure (.slice none 0 0)) ?_
    refine s_nil ?_
    refine xs_then ?_
    refine k_seq ?_
    refine k_seq ?_
    refine k_reg ?_
    refine s_lt (t_pure (.pointer (some ⟨g7, 0, none⟩))) ?_
    refine s_lt (t_load 1 ov1) ?_
    refine s_lt (t_len ObT_ok Try.underlying42 (accF 2)) ?_
    refine s_lt (t_pure (.int .i64 0)) ?_
    refine s_nil ?_
    refine xs_then ?_
    refine k_block ?_
    rw [hok, if_pos rfl] at hl5 hR6
    have hlen := len_of_map hl5
    refine k_mem (fun _ h => Holds.nilS (T := ObT) h) ?_
    refine k_loop (ι := Value × List Ob × Nat) (fun (ox, N, i) => i ≤ l3.length ∧ N.map Ob.c = lastL B ((l3.take i).map Ob.c) ∧ (∀ x ∈ N, x ∈ l3) ∧ N.length ≤ i) (fun (ox, N, i) => [(0, .pointer (some ⟨cb, 0, none⟩)), (11, .map (some mp10)), (12, ox), (111, ov1), (112, .int .i64 (l3.length : Int)), (113, .int .i64 (i : Int))]) (fun (ox, N, i) => own ObT ox N :: mpA (Go.Mem.intK 3) bV mp10 (setL B) :: blkA g7 #[ov1, rv2] 44 :: frz (GrA ov1 rv2 l3 R4) :: blkA cb #[ov, rv, .pointer (some ⟨qb, 0, none⟩), av] 77 :: own iTy av B :: zfr Z (GrA ov rv l R) :: F) (fun (ox, N, i) => l3.length - i) (.slice none 0 0, [], 0) ⟨Nat.zero_le _, rfl, by simp, Nat.le_refl _⟩ (sub_of rfl ⟨⟨rfl, rfl⟩, ⟨⟨rfl, rfl⟩, ⟨⟨rfl, rfl⟩, ⟨⟨rfl, rfl⟩, ⟨⟨rfl, rfl⟩, ⟨⟨rfl, rfl⟩, trivial⟩⟩⟩⟩⟩⟩) (fun _ h => h.re [0, 0, 0, 0, 0, 0, 0] []) ?_
    rintro ⟨ox, N, i⟩ hi11
    replace hi11 : i ≤ l3.length ∧ N.map Ob.c = lastL B ((l3.take i).map Ob.c) ∧ (∀ x ∈ N, x ∈ l3) ∧ N.length ≤ i := hi11
    show SK _ _ _ _ _ [(0, .pointer (some ⟨cb, 0, none⟩)), (11, .map (some mp10)), (12, ox), (111, ov1), (112, .int .i64 (l3.length : Int)), (113, .int .i64 (i : Int))] _ (own ObT ox N :: mpA (Go.Mem.intK 3) bV mp10 (setL B) :: blkA g7 #[ov1, rv2] 44 :: frz (GrA ov1 rv2 l3 R4) :: blkA cb #[ov, rv, .pointer (some ⟨qb, 0, none⟩), av] 77 :: own iTy av B :: zfr Z (GrA ov rv l R) :: F)
    have hNl := hi11.2.2.2
    refine k_seq ?_
    refine k_reg ?_
    refine s_lt t_cmp ?_
    refine s_nil ?_
    refine xs_then ?_
    refine k_seq ?_
    refine k_cond (decide ((i : Int) < (l3.length : Int))) (fun c12 => ?_) (fun c12 => ?_)
    ·
      have p13 := of_decide_eq_true c12
      refine k_skip ?_
      refine xs_then ?_
      refine k_seq ?_
      refine k_block ?_
      refine k_seq ?_
      refine k_reg ?_
      refine s_lt (t_index ObT_ok Try.underlying42 (accF 3) (i : Int) i (by omega) (by (try simp only [List.length_nil, List.length_cons, List.length_append, List.length_take, List.length_drop, List.length_set, List.length_replicate, List.length_reverse, bits_len]); omega) (by omega)) ?_
      obtain ⟨y14, hy15⟩ : ∃ y, l3[i]? = some y := ⟨_, List.getElem?_eq_getElem (by (try simp only [List.length_nil, List.length_cons, List.length_append, List.length_take, List.length_drop, List.length_set, List.length_replicate, List.length_reverse, bits_len]); omega)⟩
      refine s_lt (t_loadE ObT_ok (accF 3) hy15) ?_
      refine s_alloc (.agg #[.int .i64 0, .int .i64 0, .int .i64 0, (.slice none 0 0), (.slice none 0 0)]) #[.int .i64 0, .int .i64 0, .int .i64 0, (.slice none 0 0), (.slice none 0 0)] (fun g16 => ?_)
      refine s_store 0 #[.int .i64 y14.id, .int .i64 y14.size, .int .i64 y14.weak, y14.rv.v, y14.ev.v] ?_
      refine s_nil ?_
      refine xs_then ?_
      refine k_seq ?_
      refine k_reg ?_
      refine s_lt (t_pure (.map (some mp10))) ?_
      refine s_lt (t_pure (.pointer (some ⟨g16, 0, none⟩))) ?_
      refine s_lt (t_load 0 (.int .i64 y14.id)) ?_
      refine s_lt (Lt.to (v' := .bool (decide (y14.id ∈ B))) (t_lookup 2 intOk Try.underlying79 (.bool false) y14.id) (got_set _ _)) ?_
      refine s_nil ?_
      refine xs_then ?_
      refine k_cond (decide (y14.id ∈ B)) (fun c17 => ?_) (fun c17 => ?_)
      ·
        have p18 := of_decide_eq_true c17
        refine k_reg ?_
        refine s_lt (t_pure ox) ?_
        refine s_lt (t_loadA 0 #[.int .i64 y14.id, .int .i64 y14.size, .int .i64 y14.weak, y14.rv.v, y14.ev.v]) ?_
        refine s_buildSlice (e := 74) [(0, .agg #[.int .i64 y14.id, .int .i64 y14.size, .int .i64 y14.weak, y14.rv.v, y14.ev.v])] #[.int .i64 y14.id, .int .i64 y14.size, .int .i64 y14.weak, y14.rv.v, y14.ev.v] (fun g19 => ?_) (hb := by kernel_rfl)
        refine s_append (L := N) 2 ObT_ok Try.underlying42 (.lit 0 ObT_ok [y14]) (by show _ * 72 ≤ _; (try simp only [List.length_nil, List.length_cons, List.length_append, List.length_take, List.length_drop, List.length_set, List.length_replicate, List.length_reverse, bits_len]); omega) (by (try simp only [List.length_nil, List.length_cons, List.length_append, List.length_take, List.length_drop, List.length_set, List.length_replicate, List.length_reverse, bits_len]); omega) (fun v20 => ?_)
        refine s_fact (fun H h => ((Acc.own (T := ObT) (L := (N ++ [y14])) 2 rfl) H h).form) (fun hf21 => ?_)
        refine s_lt (t_pure v20) ?_
        refine s_nil ?_
        refine xs_block ?_
        refine xs_then ?_
        refine k_reg ?_
        refine s_lt (t_add (i : Int) 1 (by (try simp only [List.length_nil, List.length_cons, List.length_append, List.length_take, List.length_drop, List.length_set, List.length_replicate, List.length_reverse, bits_len]); omega)) ?_
        refine s_lt (t_pure (.int .i64 ((i : Int) + 1))) ?_
        refine s_nil ?_
        exact xs_round (v20, N ++ [y14], i + 1) (by show l3.length - (i + 1) < l3.length - i; omega) (by obtain ⟨hk1, hk2, hk3, hk4⟩ := hi11; exact ⟨by omega, last_yes hy15 p18 hk2, fun x hx => by rcases List.mem_append.1 hx with hx | hx; exact hk3 x hx; simp at hx; subst hx; exact List.mem_of_getElem? hy15, by rw [List.length_append]; simp only [List.length_singleton]; omega⟩) (sub_of rfl ⟨⟨rfl, rfl⟩, ⟨⟨rfl, rfl⟩, ⟨⟨rfl, rfl⟩, ⟨⟨rfl, rfl⟩, ⟨⟨rfl, rfl⟩, ⟨⟨rfl, rfl⟩, trivial⟩⟩⟩⟩⟩⟩) (fun _ h => h.re [2, 2, 2, 2, 2, 2, 2] [7, 7])
      ·
        have p22 := of_decide_eq_false c17
        refine k_skip ?_
        refine xs_block ?_
        refine xs_then ?_
        refine k_reg ?_
        refine s_lt (t_add (i : Int) 1 (by (try simp only [List.length_nil, List.length_cons, List.length_append, List.length_take, List.length_drop, List.length_set, List.length_replicate, List.length_reverse, bits_len]); omega)) ?_
        refine s_lt (t_pure (.int .i64 ((i : Int) + 1))) ?_
        refine s_nil ?_
        exact xs_round (ox, N, i + 1) (by show l3.length - (i + 1) < l3.length - i; omega) (by obtain ⟨hk1, hk2, hk3, hk4⟩ := hi11; exact ⟨by omega, last_no hy15 p22 hk2, hk3, by omega⟩) (sub_of rfl ⟨⟨rfl, rfl⟩, ⟨⟨rfl, rfl⟩, ⟨⟨rfl, rfl⟩, ⟨⟨rfl, rfl⟩, ⟨⟨rfl, rfl⟩, ⟨⟨rfl, rfl⟩, trivial⟩⟩⟩⟩⟩⟩) (fun _ h => h.re [1, 1, 1, 1, 1, 1, 1] [7])
    ·
      have p23 := of_decide_eq_false c12
      refine k_exit ?_
      refine xs_exit ?_
      refine xs_exit ?_
      refine xs_here ?_
      refine xs_then ?_
      refine k_reg ?_
      refine s_lt (t_pure (.pointer (some ⟨cb, 0, none⟩))) ?_
      refine s_lt (t_pure ox) ?_
      refine s_lt (t_pure (.pointer (some ⟨cb, 0, none⟩))) ?_
      refine s_lt (t_pure (.pointer (some ⟨cb, 0, none⟩))) ?_
      refine s_lt (t_pure (.pointer (some ⟨cb, 0, none⟩))) ?_
      refine s_lt (t_pure (.pointer (some ⟨cb, 1, none⟩))) ?_
      refine s_lt (t_load 4 rv) ?_
      refine s_fact (fun H h => ((Acc.own (T := ObT) (L := N) 0 rfl) H h).form) (fun hf24 => ?_)
      refine s_fact (fun H h => ((show Acc _ _ iTy _ _ from (accZR 6)) H h).form) (fun hf25 => ?_)
      refine s_lt (show Lt _ _ _ _ _ (.agg #[ox, rv]) from by obtain ⟨_, _, e⟩ := hf24; rw [e]; clear e; obtain ⟨_, _, e⟩ := hf25; rw [e]; clear e; exact t_kern _) ?_
      refine s_lt (t_pure (.pointer (some ⟨cb, 0, none⟩))) ?_
      refine s_lt (t_pure (.pointer (some ⟨cb, 0, none⟩))) ?_
      refine s_store (u := .agg #[ox, rv]) (m := 2) 4 #[ox, rv, .pointer (some ⟨qb, 0, none⟩), av] ?_ (hm := by (obtain ⟨_, _, e0⟩ := hf24; obtain ⟨_, _, e1⟩ := hf25; rw [e0, e1]; rfl)) (h1 := by (obtain ⟨_, _, e0⟩ := hf24; obtain ⟨_, _, e1⟩ := hf25; rw [e0, e1]; rfl)) (ha' := by (obtain ⟨_, _, e0⟩ := hf24; obtain ⟨_, _, e1⟩ := hf25; rw [e0, e1]; rfl))
      refine s_nil ?_
      refine xs_block ?_
      obtain ⟨hk1, hk2, hk3, hk4⟩ := hi11
      obtain rfl : i = l3.length := by omega
      rw [List.take_length, hl5] at hk2
      exact xs_finN [] (blkA cb #[ox, rv, .pointer (some ⟨qb, 0, none⟩), av] 77 :: own iTy av B :: zfr Z (GrA ox rv N R) :: F) SI.nil (fun _ h => (zgr_cut hk3 (h.re [0, 2, 4, 2, 2] [5, 5])).re [1, 1] []) ⟨rfl, _, N, hk2, rfl⟩
  ·
    refine s_alloc (.agg #[(.slice none 0 0), (.slice none 0 0)]) #[(.slice none 0 0), (.slice none 0 0)] (fun g26 => ?_)
    refine s_nil (xs_held [1, 1] ?_)
    refine h_stepS 8 ?_
    refine s_pcall (fun _ h => Clear_s (GrA.kn (h.zfrF 3)) (Acc.kn (.own 2) h) hlB hl hr hsm) ?_
    rintro _ _ ⟨ov27, rv28, l29, R30, rfl, hl31, hR32, rfl⟩
    refine s_nil (xs_held [2, 2] ?_)
    refine h_lt 9 rfl (np_then (np_block np_finS)) [2, 2] (fun _ => (t_pure (.tuple #[.agg #[ov27, rv28], .int .i64 (errI (chk 0 l && ascA 0 B))]))) ?_
    refine h_lt 10 rfl (np_then (np_block np_finS)) [2, 2] (fun _ => (t_pure (.agg #[ov27, rv28]))) ?_
    refine h_lt 11 rfl (np_then (np_block np_finS)) [2, 2] (fun _ => (t_pure (.int .i64 (errI (chk 0 l && ascA 0 B))))) ?_
    refine h_stepS 13 ?_
    refine s_fact (fun H h => ((show Acc _ _ ObT _ _ from (accF 0)) H h).form) (fun hf33 => ?_)
    refine s_fact (fun H h => ((show Acc _ _ iTy _ _ from (accR 0)) H h).form) (fun hf34 => ?_)
    refine s_store (u := .agg #[ov27, rv28]) (m := 2) 1 #[ov27, rv28] ?_ (hm := by (obtain ⟨_, _, e0⟩ := hf33; obtain ⟨_, _, e1⟩ := hf34; rw [e0, e1]; rfl)) (h1 := by (obtain ⟨_, _, e0⟩ := hf33; obtain ⟨_, _, e1⟩ := hf34; rw [e0, e1]; rfl)) (ha' := by (obtain ⟨_, _, e0⟩ := hf33; obtain ⟨_, _, e1⟩ := hf34; rw [e0, e1]; rfl))
    refine s_nil (xs_held [2, 2] ?_)
    refine h_lt 14 rfl (np_then (np_block np_finS)) [2, 2] (fun _ => (t_pure (.int .i64 (errI (chk 0 l && ascA 0 B))))) ?_
    refine h_doneS ?_
    refine xs_then ?_
    refine k_seq ?_
    refine k_reg ?_
    refine s_lt (t_pure (.pointer (some ⟨cb, 0, none⟩))) ?_
    refine s_lt (t_pure (.pointer (some ⟨cb, 0, none⟩))) ?_
    refine s_lt (t_pure (.pointer (some ⟨cb, 3, none⟩))) ?_
    refine s_lt (t_load 2 av) ?_
    refine s_pcall (fun _ h => set_s (L := B) (Acc.kn (.own 3) h)) ?_
    rintro _ _ ⟨mp35, rfl, rfl⟩
    refine s_lt (t_pure (.map (some mp35))) ?_
    refine s_nil ?_
    refine xs_then ?_
    refine k_seq ?_
    refine k_reg ?_
    refine s_lt (t_pure (.slice none 0 0)) ?_
    refine s_nil ?_
    refine xs_then ?_
    refine k_seq ?_
    refine k_seq ?_
    refine k_reg ?_
    refine s_lt (t_pure (.pointer (some ⟨g26, 0, none⟩))) ?_
    refine s_lt (t_load 2 ov27) ?_
    refine s_lt (t_len ObT_ok Try.underlying42 (accF 1)) ?_
    refine s_lt (t_pure (.int .i64 0)) ?_
    refine s_nil ?_
    refine xs_then ?_
    refine k_block ?_
    rw [hok, if_pos rfl] at hl31 hR32
    have hlen := len_of_map hl31
    refine k_mem (fun _ h => Holds.nilS (T := ObT) h) ?_
    refine k_loop (ι := Value × List Ob × Nat) (fun (ox, N, i) => i ≤ l29.length ∧ N.map Ob.c = lastL B ((l29.take i).map Ob.c) ∧ (∀ x ∈ N, x ∈ l29) ∧ N.length ≤ i) (fun (ox, N, i) => [(0, .pointer (some ⟨cb, 0, none⟩)), (11, .map (some mp35)), (12, ox), (111, ov27), (112, .int .i64 (l29.length : Int)), (113, .int .i64 (i : Int))]) (fun (ox, N, i) => own ObT ox N :: mpA (Go.Mem.intK 3) bV mp35 (setL B) :: frz (GrA ov27 rv28 l29 R30) :: blkA g26 #[ov27, rv28] 44 :: blkA cb #[ov, rv, .pointer (some ⟨qb, 0, none⟩), av] 77 :: own iTy av B :: zfr Z (GrA ov rv l R) :: F) (fun (ox, N, i) => l29.length - i) (.slice none 0 0, [], 0) ⟨Nat.zero_le _, rfl, by simp, Nat.le_refl _⟩ (sub_of rfl ⟨⟨rfl, rfl⟩, ⟨⟨rfl, rfl⟩, ⟨⟨rfl, rfl⟩, ⟨⟨rfl, rfl⟩, ⟨⟨rfl, rfl⟩, ⟨⟨rfl, rfl⟩, trivial⟩⟩⟩⟩⟩⟩) (fun _ h => h.re [0, 0, 0, 0, 0, 0, 0] []) ?_
    rintro ⟨ox, N, i⟩ hi36
    replace hi36 : i ≤ l29.length ∧ N.map Ob.c = lastL B ((l29.take i).map Ob.c) ∧ (∀ x ∈ N, x ∈ l29) ∧ N.length ≤ i := hi36
    show SK _ _ _ _ _ [(0, .pointer (some ⟨cb, 0, none⟩)), (11, .map (some mp35)), (12, ox), (111, ov27), (112, .int .i64 (l29.length : Int)), (113, .int .i64 (i : Int))] _ (own ObT ox N :: mpA (Go.Mem.intK 3) bV mp35 (setL B) :: frz (GrA ov27 rv28 l29 R30) :: blkA g26 #[ov27, rv28] 44 :: blkA cb #[ov, rv, .pointer (some ⟨qb, 0, none⟩), av] 77 :: own iTy av B :: zfr Z (GrA ov rv l R) :: F)
    have hNl := hi36.2.2.2
    refine k_seq ?_
    refine k_reg ?_
    refine s_lt t_cmp ?_
    refine s_nil ?_
    refine xs_then ?_
    refine k_seq ?_
    refine k_cond (decide ((i : Int) < (l29.length : Int))) (fun c37 => ?_) (fun c37 => ?_)
    ·
      have p38 := of_decide_eq_true c37
      refine k_skip ?_
      refine xs_then ?_
      refine k_seq ?_
      refine k_block ?_
      refine k_seq ?_
      refine k_reg ?_
      refine s_lt (t_index ObT_ok Try.underlying42 (accF 2) (i : Int) i (by omega) (by (try simp only [List.length_nil, List.length_cons, List.length_append, List.length_take, List.length_drop, List.length_set, List.length_replicate, List.length_reverse, bits_len]); omega) (by omega)) ?_
      obtain ⟨y39, hy40⟩ : ∃ y, l29[i]? = some y := ⟨_, List.getElem?_eq_getElem (by (try simp only [List.length_nil, List.length_cons, List.length_append, List.length_take, List.length_drop, List.length_set, List.length_replicate, List.length_reverse, bits_len]); omega)⟩
      refine s_lt (t_loadE ObT_ok (accF 2) hy40) ?_
      refine s_alloc (.agg #[.int .i64 0, .int .i64 0, .int .i64 0, (.slice none 0 0), (.slice none 0 0)]) #[.int .i64 0, .int .i64 0, .int .i64 0, (.slice none 0 0), (.slice none 0 0)] (fun g41 => ?_)
      refine s_store 0 #[.int .i64 y39.id, .int .i64 y39.size, .int .i64 y39.weak, y39.rv.v, y39.ev.v] ?_
      refine s_nil ?_
      refine xs_then ?_
      refine k_seq ?_
      refine k_reg ?_
      refine s_lt (t_pure (.map (some mp35))) ?_
      refine s_lt (t_pure (.pointer (some ⟨g41, 0, none⟩))) ?_
      refine s_lt (t_load 0 (.int .i64 y39.id)) ?_
      refine s_lt (Lt.to (v' := .bool (decide (y39.id ∈ B))) (t_lookup 2 intOk Try.underlying79 (.bool false) y39.id) (got_set _ _)) ?_
      refine s_nil ?_
      refine xs_then ?_
      refine k_cond (decide (y39.id ∈ B)) (fun c42 => ?_) (fun c42 => ?_)
      ·
        have p43 := of_decide_eq_true c42
        refine k_reg ?_
        refine s_lt (t_pure ox) ?_
        refine s_lt (t_loadA 0 #[.int .i64 y39.id, .int .i64 y39.size, .int .i64 y39.weak, y39.rv.v, y39.ev.v]) ?_
        refine s_buildSlice (e := 74) [(0, .agg #[.int .i64 y39.id, .int .i64 y39.size, .int .i64 y39.weak, y39.rv.v, y39.ev.v])] #[.int .i64 y39.id, .int .i64 y39.size, .int .i64 y39.weak, y39.rv.v, y39.ev.v] (fun g44 => ?_) (hb := by kernel_rfl)
        refine s_append (L := N) 2 ObT_ok Try.underlying42 (.lit 0 ObT_ok [y39]) (by show _ * 72 ≤ _; (try simp only [List.length_nil, List.length_cons, List.length_append, List.length_take, List.length_drop, List.length_set, List.length_replicate, List.length_reverse, bits_len]); omega) (by (try simp only [List.length_nil, List.length_cons, List.length_append, List.length_take, List.length_drop, List.length_set, List.length_replicate, List.length_reverse, bits_len]); omega) (fun v45 => ?_)
        refine s_fact (fun H h => ((Acc.own (T := ObT) (L := (N ++ [y39])) 2 rfl) H h).form) (fun hf46 => ?_)
        refine s_lt (t_pure v45) ?_
        refine s_nil ?_
        refine xs_block ?_
        refine xs_then ?_
        refine k_reg ?_
        refine s_lt (t_add (i : Int) 1 (by (try simp only [List.length_nil, List.length_cons, List.length_append, List.length_take, List.length_drop, List.length_set, List.length_replicate, List.length_reverse, bits_len]); omega)) ?_
        refine s_lt (t_pure (.int .i64 ((i : Int) + 1))) ?_
        refine s_nil ?_
        exact xs_round (v45, N ++ [y39], i + 1) (by show l29.length - (i + 1) < l29.length - i; omega) (by obtain ⟨hk1, hk2, hk3, hk4⟩ := hi36; exact ⟨by omega, last_yes hy40 p43 hk2, fun x hx => by rcases List.mem_append.1 hx with hx | hx; exact hk3 x hx; simp at hx; subst hx; exact List.mem_of_getElem? hy40, by rw [List.length_append]; simp only [List.length_singleton]; omega⟩) (sub_of rfl ⟨⟨rfl, rfl⟩, ⟨⟨rfl, rfl⟩, ⟨⟨rfl, rfl⟩, ⟨⟨rfl, rfl⟩, ⟨⟨rfl, rfl⟩, ⟨⟨rfl, rfl⟩, trivial⟩⟩⟩⟩⟩⟩) (fun _ h => h.re [2, 2, 2, 2, 2, 2, 2] [7, 7])
      ·
        have p47 := of_decide_eq_false c42
        refine k_skip ?_
        refine xs_block ?_
        refine xs_then ?_
        refine k_reg ?_
        refine s_lt (t_add (i : Int) 1 (by (try simp only [List.length_nil, List.length_cons, List.length_append, List.length_take, List.length_drop, List.length_set, List.length_replicate, List.length_reverse, bits_len]); omega)) ?_
        refine s_lt (t_pure (.int .i64 ((i : Int) + 1))) ?_
        refine s_nil ?_
        exact xs_round (ox, N, i + 1) (by show l29.length - (i + 1) < l29.length - i; omega) (by obtain ⟨hk1, hk2, hk3, hk4⟩ := hi36; exact ⟨by omega, last_no hy40 p47 hk2, hk3, by omega⟩) (sub_of rfl ⟨⟨rfl, rfl⟩, ⟨⟨rfl, rfl⟩, ⟨⟨rfl, rfl⟩, ⟨⟨rfl, rfl⟩, ⟨⟨rfl, rfl⟩, ⟨⟨rfl, rfl⟩, trivial⟩⟩⟩⟩⟩⟩) (fun _ h => h.re [1, 1, 1, 1, 1, 1, 1] [7])
    ·
      have p48 := of_decide_eq_false c37
      refine k_exit ?_
      refine xs_exit ?_
      refine xs_exit ?_
      refine xs_here ?_
      refine xs_then ?_
      refine k_reg ?_
      refine s_lt (t_pure (.pointer (some ⟨cb, 0, none⟩))) ?_
      refine s_lt (t_pure ox) ?_
      refine s_lt (t_pure (.pointer (some ⟨cb, 0, none⟩))) ?_
      refine s_lt (t_pure (.pointer (some ⟨cb, 0, none⟩))) ?_
      refine s_lt (t_pure (.pointer (some ⟨cb, 0, none⟩))) ?_
      refine s_lt (t_pure (.pointer (some ⟨cb, 1, none⟩))) ?_
      refine s_lt (t_load 4 rv) ?_
      refine s_fact (fun H h => ((Acc.own (T := ObT) (L := N) 0 rfl) H h).form) (fun hf49 => ?_)
      refine s_fact (fun H h => ((show Acc _ _ iTy _ _ from (accZR 6)) H h).form) (fun hf50 => ?_)
      refine s_lt (show Lt _ _ _ _ _ (.agg #[ox, rv]) from by obtain ⟨_, _, e⟩ := hf49; rw [e]; clear e; obtain ⟨_, _, e⟩ := hf50; rw [e]; clear e; exact t_kern _) ?_
      refine s_lt (t_pure (.pointer (some ⟨cb, 0, none⟩))) ?_
      refine s_lt (t_pure (.pointer (some ⟨cb, 0, none⟩))) ?_
      refine s_store (u := .agg #[ox, rv]) (m := 2) 4 #[ox, rv, .pointer (some ⟨qb, 0, none⟩), av] ?_ (hm := by (obtain ⟨_, _, e0⟩ := hf49; obtain ⟨_, _, e1⟩ := hf50; rw [e0, e1]; rfl)) (h1 := by (obtain ⟨_, _, e0⟩ := hf49; obtain ⟨_, _, e1⟩ := hf50; rw [e0, e1]; rfl)) (ha' := by (obtain ⟨_, _, e0⟩ := hf49; obtain ⟨_, _, e1⟩ := hf50; rw [e0, e1]; rfl))
      refine s_nil ?_
      refine xs_block ?_
      obtain ⟨hk1, hk2, hk3, hk4⟩ := hi36
      obtain rfl : i = l29.length := by omega
      rw [List.take_length, hl31] at hk2
      exact xs_finN [] (blkA cb #[ox, rv, .pointer (some ⟨qb, 0, none⟩), av] 77 :: own iTy av B :: zfr Z (GrA ox rv N R) :: F) SI.nil (fun _ h => (zgr_cut hk3 (h.re [0, 1, 4, 2, 2] [5, 5])).re [1, 1] []) ⟨rfl, _, N, hk2, rfl⟩
end Go.Proofs.Ytipmkaabogocfaa
