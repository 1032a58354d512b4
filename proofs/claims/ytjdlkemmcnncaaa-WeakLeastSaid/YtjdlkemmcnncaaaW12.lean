/-
  Marking with a queue: New, Step and Reach of layer 25. Each law says its conditions.
-/
import Derived.Test.YtjdlkemmcnncaaaW11
set_option linter.unusedSimpArgs false
set_option linter.unusedVariables false
set_option maxRecDepth 100000
set_option maxHeartbeats 2000000
namespace Go.Proofs.Ytjdlkemmcnncaaa
open Go.Hp Go.J Go.S
open Go.Mem (Ty KTy blk elemAt pre suf blk_pre blk_suf aget aset strK aggDesc)
open Go.Mem (adel apos aget_aset aget_adel aset_new aget_none_iff)
theorem ps_next {l : List Ob} (hs : Asc l) {ps : List (Int × Nat)} {i g : Nat} {y : Ob} (hp : ps.map Prod.fst = (l.take i).map Ob.id) (hy : l[i]? = some y) : y.id ∉ ps.map Prod.fst ∧ (aset ps y.id g).map Prod.fst = (l.take (i + 1)).map Ob.id := by
  have hn : y.id ∉ ps.map Prod.fst := by
    rw [hp]; intro hm
    obtain ⟨o, ho, e⟩ := List.mem_map.1 hm
    obtain ⟨j, hj⟩ := List.mem_iff_getElem?.1 ho
    rw [List.getElem?_take] at hj
    split at hj
    · rename_i hlt; have := asc_lt hs hj hy hlt; omega
    · cases hj
  refine ⟨hn, ?_⟩
  rw [aset_new (apos_none_of hn), List.take_add_one, hy]; simp [hp]
theorem ps_len {l : List Ob} {ps : List (Int × Nat)} (h : ps.map Prod.fst = l.map Ob.id) : ps.length = l.length := by
  have := congrArg List.length h; simpa using this
theorem max_min {p a : Nat} (h : p = a) : Value.int .i64 (if (0 : Int) < (if (p : Int) < (a : Int) then (p : Int) else (a : Int)) then (if (p : Int) < (a : Int) then (p : Int) else (a : Int)) else 0) = .int .i64 (a : Int) := by
  subst h
  have e : (if (p : Int) < (p : Int) then (p : Int) else (p : Int)) = p := by split <;> rfl
  rw [e]; split
  · rfl
  · exact congrArg _ (by omega)
theorem drop_one (G : List Int) (i : Nat) : (G.drop i).drop 1 = G.drop (i + 1) := by
  rw [List.drop_drop]
theorem ns_len (l : List Ob) (X : List Int) (h : l.length ≤ 100000) : (grs l [] X).length ≤ 1000000 := Nat.le_trans ((ns_nil l).grs X).len (by omega)
theorem bf_sml {l : List Ob} {o : Ob} {id : Int} (hsm : ∀ o ∈ l, o.refs.length ≤ 400 ∧ o.ents.length ≤ 400) (h : fnd l id = some o) : o.refs.length ≤ 1000000 ∧ (entI o).length ≤ 1000000 := by
  have := hsm o (fnd_id h).2
  unfold entI; rw [ent_len]; omega
theorem get_drop0 {G : List Int} {i : Nat} {y : Int} (h : (G.drop i)[0]? = some y) : G[i]? = some y := by
  rw [List.getElem?_drop, Nat.add_zero] at h; exact h
theorem mnew_s {Z : Zone} {ov rv : Value} {l : List Ob} {R : List Int} (hg : KnG Z ov rv l R) (hl : l.length ≤ 100000) (hsm : ∀ o ∈ l, o.refs.length ≤ 400 ∧ o.ents.length ≤ 400) : SF Try.prog 37 #[.agg #[ov, rv]] Z [] fun r Bs => (chk 0 l = false ∧ r = .tuple #[.pointer none, .int .i64 2] ∧ Bs = []) ∨ (chk 0 l = true ∧ ∃ b ps, r = .tuple #[.pointer (some ⟨b, 0, none⟩), .int .i64 0] ∧ Bs = [mrA b l ps (grs l [] R) 0 0]) := by
  refine sf_enter Try.func37 51 [(0, .agg #[ov, rv])] (fun w0 => ?_)
  refine k_fact (fun H h => (hg.obs.get h).len_le) (fun lA => ?_)
  refine k_fact (fun H h => (hg.roots.get h).len_le) (fun lR => ?_)
  refine k_seq ?_
  refine k_reg ?_
  refine s_box #[ov, rv] (fun g1 => ?_)
  refine s_lt (t_pure (.pointer none)) ?_
  refine s_lt (t_pure (.int .i64 0)) ?_
  refine s_nil ?_
  refine xs_then ?_
  refine k_seq ?_
  refine k_seq ?_
  refine k_reg ?_
  refine s_lt (t_loadA 0 #[ov, rv]) ?_
  refine s_vcall (fun _ h => check_s (hg.up h)) ?_
  rintro _ rfl
  refine s_lt (t_pure (.int .i64 (errI (chk 0 l)))) ?_
  refine s_nil ?_
  refine xs_then ?_
  refine k_seq ?_
  refine k_reg ?_
  refine s_lt (t_pure (.int .i64 (errI (chk 0 l)))) ?_
  refine s_lt t_cmp ?_
  refine s_nil ?_
  refine xs_then ?_
  refine k_cond (decide ((errI (chk 0 l)) ≠ 0)) (fun c2 => ?_) (fun c2 => ?_)
  ·
    have p3 := of_decide_eq_true c2
    have hc := errI_bad p3
    have hc := errI_bad p3
    refine k_seq ?_
    refine k_reg ?_
    refine s_lt (t_pure (.int .i64 (errI (chk 0 l)))) ?_
    refine s_lt (t_pure (.pointer none)) ?_
    refine s_lt (t_pure (.int .i64 (errI (chk 0 l)))) ?_
    refine s_nil ?_
    refine xs_then ?_
    refine k_ret ?_
    refine xs_ret ?_
    exact xs_fin [.pointer none, .int .i64 (errI (chk 0 l))] [] (SI.tmp 2 (SI.tmp 3 SI.nil)) (fun _ h => h.re [] [0]) (.inl ⟨hc, by rw [hc]; rfl, rfl⟩)
  ·
    have p4 := Decidable.not_not.1 (of_decide_eq_false c2)
    have hc := errI_ok p4; have hs := chk_asc hc
    have hc := errI_ok p4; have hs := chk_asc hc
    refine k_skip ?_
    refine xs_then ?_
    refine k_seq ?_
    refine k_reg ?_
    refine s_makeMap (Go.Mem.intK 3) ndV (fun b5 => ?_)
    refine s_lt (t_kern (.agg #[.map (some b5), (.slice none 0 0)])) ?_
    refine s_box #[.map (some b5), (.slice none 0 0)] (fun g6 => ?_)
    refine s_lt (t_pure (.pointer (some ⟨g6, 0, none⟩))) ?_
    refine s_nil ?_
    refine xs_then ?_
    refine k_seq ?_
    refine k_seq ?_
    refine k_reg ?_
    refine s_lt (t_pure (.pointer (some ⟨g1, 0, none⟩))) ?_
    refine s_lt (t_load 2 ov) ?_
    refine s_lt (t_len ObT_ok Try.underlying22 (.zn hg.obs)) ?_
    refine s_lt (t_pure (.int .i64 0)) ?_
    refine s_nil ?_
    refine xs_then ?_
    refine k_block ?_
    refine k_mem (fun _ h => nds_nil (l := l) (G := []) (k := 0) h) ?_
    refine k_loop (ι := List (Int × Nat) × Nat) (fun (ps, i) => i ≤ l.length ∧ ps.map Prod.fst = (l.take i).map Ob.id) (fun (ps, i) => [(1, .pointer (some ⟨g1, 0, none⟩)), (2, .pointer none), (3, .int .i64 0), (5, .pointer (some ⟨g6, 0, none⟩)), (19, ov), (20, .int .i64 (l.length : Int)), (21, .int .i64 (i : Int))]) (fun (ps, i) => [ndsA ps l [] 0, blkA g6 #[.map (some b5), (.slice none 0 0)] 67, mpA (Go.Mem.intK 3) ndV b5 ps, blkA g1 #[ov, rv] 25]) (fun (ps, i) => l.length - i) ([], 0) ⟨Nat.zero_le _, rfl⟩ (sub_of rfl ⟨⟨rfl, rfl⟩, ⟨⟨rfl, rfl⟩, ⟨⟨rfl, rfl⟩, ⟨⟨rfl, rfl⟩, ⟨⟨rfl, rfl⟩, ⟨⟨rfl, rfl⟩, ⟨⟨rfl, rfl⟩, trivial⟩⟩⟩⟩⟩⟩⟩) (fun _ h => h.re [0, 0, 0, 0] []) ?_
    rintro ⟨ps, i⟩ hi7
    replace hi7 : i ≤ l.length ∧ ps.map Prod.fst = (l.take i).map Ob.id := hi7
    show SK _ _ _ _ _ [(1, .pointer (some ⟨g1, 0, none⟩)), (2, .pointer none), (3, .int .i64 0), (5, .pointer (some ⟨g6, 0, none⟩)), (19, ov), (20, .int .i64 (l.length : Int)), (21, .int .i64 (i : Int))] _ [ndsA ps l [] 0, blkA g6 #[.map (some b5), (.slice none 0 0)] 67, mpA (Go.Mem.intK 3) ndV b5 ps, blkA g1 #[ov, rv] 25]
    refine k_seq ?_
    refine k_reg ?_
    refine s_lt t_cmp ?_
    refine s_nil ?_
    refine xs_then ?_
    refine k_seq ?_
    refine k_cond (decide ((i : Int) < (l.length : Int))) (fun c8 => ?_) (fun c8 => ?_)
    ·
      have p9 := of_decide_eq_true c8
      refine k_skip ?_
      refine xs_then ?_
      refine k_seq ?_
      refine k_block ?_
      refine k_seq ?_
      refine k_reg ?_
      refine s_lt (t_index ObT_ok Try.underlying22 (.zn hg.obs) (i : Int) i (by omega) (by (try simp only [List.length_nil, List.length_cons, List.length_append, List.length_take, List.length_drop, List.length_set, List.length_replicate, List.length_reverse, bits_len]); omega) (by omega)) ?_
      obtain ⟨y10, hy11⟩ : ∃ y, l[i]? = some y := ⟨_, List.getElem?_eq_getElem (by (try simp only [List.length_nil, List.length_cons, List.length_append, List.length_take, List.length_drop, List.length_set, List.length_replicate, List.length_reverse, bits_len]); omega)⟩
      have hk12 := hg.each y10 (List.mem_of_getElem? hy11)
      have hsy := hsm y10 (List.mem_of_getElem? hy11)
      refine s_lt (t_loadE ObT_ok (.zn hg.obs) hy11) ?_
      refine s_alloc (.agg #[.int .i64 0, .int .i64 0, .int .i64 0, (.slice none 0 0), (.slice none 0 0)]) #[.int .i64 0, .int .i64 0, .int .i64 0, (.slice none 0 0), (.slice none 0 0)] (fun g13 => ?_)
      refine s_store 0 #[.int .i64 y10.id, .int .i64 y10.size, .int .i64 y10.weak, y10.rv.v, y10.ev.v] ?_
      refine s_nil ?_
      refine xs_then ?_
      refine k_held [blkA g13 #[.int .i64 y10.id, .int .i64 y10.size, .int .i64 y10.weak, y10.rv.v, y10.ev.v] 42, blkA g6 #[.map (some b5), (.slice none 0 0)] 67, blkA g1 #[ov, rv] 25] ?_
      refine h_lt 0 rfl (np_block (np_then (np_then (np_block (np_then np_finS))))) [0, 1, 2] (fun _ => (t_pure (.pointer (some ⟨g6, 0, none⟩)))) ?_
      refine h_lt 1 rfl (np_block (np_then (np_then (np_block (np_then np_finS))))) [0, 1, 2] (fun _ => (t_pure (.pointer (some ⟨g6, 0, none⟩)))) ?_
      refine h_lt 2 rfl (np_block (np_then (np_then (np_block (np_then np_finS))))) [0, 1, 2] (fun _ => (t_pure (.pointer (some ⟨g6, 0, none⟩)))) ?_
      refine h_lt 3 rfl (np_block (np_then (np_then (np_block (np_then np_finS))))) [0, 1, 2] (fun _ => (t_load 1 (.map (some b5)))) ?_
      refine h_lt 4 rfl (np_block (np_then (np_then (np_block (np_then np_finS))))) [0, 1, 2] (fun _ => (t_pure (.pointer (some ⟨g13, 0, none⟩)))) ?_
      refine h_lt 5 rfl (np_block (np_then (np_then (np_block (np_then np_finS))))) [0, 1, 2] (fun _ => (t_load 0 (.int .i64 y10.id))) ?_
      refine h_lt 6 rfl (np_block (np_then (np_then (np_block (np_then np_finS))))) [0, 1, 2] (fun _ => (t_pure (.pointer (some ⟨g13, 3, none⟩)))) ?_
      refine h_lt 7 rfl (np_block (np_then (np_then (np_block (np_then np_finS))))) [0, 1, 2] (fun _ => (t_load 0 y10.rv.v)) ?_
      refine h_lt 9 rfl (np_block (np_then (np_then (np_block (np_then np_finS))))) [0, 1, 2] (fun _ => (t_loadA 0 #[.int .i64 y10.id, .int .i64 y10.size, .int .i64 y10.weak, y10.rv.v, y10.ev.v])) ?_
      refine h_stepS 8 ?_
      refine s_pcall (fun _ h => clone_s (Acc.kn (.zn hk12.1) h) (by (try simp only [List.length_nil, List.length_cons, List.length_append, List.length_take, List.length_drop, List.length_set, List.length_replicate, List.length_reverse, bits_len]); omega)) ?_
      rintro v14 _ rfl
      refine s_fact (fun H h => ((Acc.own (T := iTy) (L := y10.refs) 0 rfl) H h).form) (fun hf15 => ?_)
      refine s_nil (xs_held [1, 2, 3] ?_)
      refine h_stepS 10 ?_
      refine s_pcall (fun _ h => mentries_s (x := y10) ⟨Kn.up hk12.1 h, Kn.up hk12.2 h⟩ (by (try simp only [List.length_nil, List.length_cons, List.length_append, List.length_take, List.length_drop, List.length_set, List.length_replicate, List.length_reverse, bits_len]); omega)) ?_
      rintro v16 _ rfl
      refine s_fact (fun H h => ((Acc.own (T := iTy) (L := (entI y10)) 0 rfl) H h).form) (fun hf17 => ?_)
      refine s_nil (xs_held [2, 3, 4] ?_)
      refine h_lt 11 rfl (np_block (np_then (np_then (np_block (np_then np_finS))))) [2, 3, 4] (fun _ => (show Lt _ _ _ _ _ (.agg #[v14, v16, .int .i64 0]) from by obtain ⟨_, _, e⟩ := hf15; rw [e]; clear e; obtain ⟨_, _, e⟩ := hf17; rw [e]; clear e; exact t_kern _)) ?_
      refine h_stepS 12 ?_
      refine s_box #[v14, v16, .int .i64 0] (fun g18 => ?_)
      refine s_nil (xs_held [3, 4, 5] ?_)
      refine h_stepS 13 ?_
      refine s_update 6 intOk Try.underlying65 y10.id g18 ?_
      refine s_nil (xs_held [3, 4, 5] ?_)
      refine h_doneS ?_
      refine xs_block ?_
      refine xs_then ?_
      refine k_reg ?_
      refine s_lt (t_add (i : Int) 1 (by (try simp only [List.length_nil, List.length_cons, List.length_append, List.length_take, List.length_drop, List.length_set, List.length_replicate, List.length_reverse, bits_len]); omega)) ?_
      refine s_lt (t_pure (.int .i64 ((i : Int) + 1))) ?_
      refine s_nil ?_
      obtain ⟨hn, hq⟩ := ps_next (g := g18) hs hi7.2 hy11
      refine xs_mem (fun _ h => nds_new hn (fnd_mem hs (List.mem_of_getElem? hy11)) (h.re [0, 1, 0, 1] [])) ?_
      exact xs_round (aset ps y10.id g18, i + 1) (by show l.length - (i + 1) < l.length - i; omega) ⟨by omega, hq⟩ (sub_of rfl ⟨⟨rfl, rfl⟩, ⟨⟨rfl, rfl⟩, ⟨⟨rfl, rfl⟩, ⟨⟨rfl, rfl⟩, ⟨⟨rfl, rfl⟩, ⟨⟨rfl, rfl⟩, ⟨⟨rfl, rfl⟩, trivial⟩⟩⟩⟩⟩⟩⟩) (fun _ h => h.re [0, 1, 1, 1] [4])
    ·
      have p19 := of_decide_eq_false c8
      refine k_exit ?_
      have hps : ps.map Prod.fst = l.map Ob.id := by rw [hi7.2, List.take_of_length_le (by omega)]
      refine xs_mem (fun _ h => Holds.nilO (T := iTy) h) ?_
      refine xs_mem (fun _ h => mr_shut (q := 0) hps rfl (h.re [2, 2, 0, 0] [])) ?_
      have hRl : ∀ X : List Int, (grs l [] X).length ≤ 1000000 := fun X => ns_len l X hl
      refine xs_exit ?_
      refine xs_exit ?_
      refine xs_here ?_
      refine xs_then ?_
      refine k_seq ?_
      refine k_seq ?_
      refine k_reg ?_
      refine s_lt (t_pure (.pointer (some ⟨g1, 1, none⟩))) ?_
      refine s_lt (t_load 1 rv) ?_
      refine s_lt (t_len iTy_ok Try.underlying23 (.zn hg.roots)) ?_
      refine s_lt (t_pure (.int .i64 0)) ?_
      refine s_nil ?_
      refine xs_then ?_
      refine k_block ?_
      refine k_mem (Bs := [mrA g6 l ps (grs l [] (R.take 0)) 0 0, blkA g1 #[ov, rv] 25]) (fun _ h => h) ?_
      refine k_loop (ι := Nat) (fun j => j ≤ R.length) (fun j => [(2, .pointer none), (3, .int .i64 0), (5, .pointer (some ⟨g6, 0, none⟩)), (40, rv), (41, .int .i64 (R.length : Int)), (42, .int .i64 (j : Int))]) (fun j => [mrA g6 l ps (grs l [] (R.take j)) 0 0, blkA g1 #[ov, rv] 25]) (fun j => R.length - j) 0 (Nat.zero_le _) (sub_of rfl ⟨⟨rfl, rfl⟩, ⟨⟨rfl, rfl⟩, ⟨⟨rfl, rfl⟩, ⟨⟨rfl, rfl⟩, ⟨⟨rfl, rfl⟩, ⟨⟨rfl, rfl⟩, trivial⟩⟩⟩⟩⟩⟩) (fun _ h => h.re [0, 0] []) ?_
      rintro j hi20
      show SK _ _ _ _ _ [(2, .pointer none), (3, .int .i64 0), (5, .pointer (some ⟨g6, 0, none⟩)), (40, rv), (41, .int .i64 (R.length : Int)), (42, .int .i64 (j : Int))] _ [mrA g6 l ps (grs l [] (R.take j)) 0 0, blkA g1 #[ov, rv] 25]
      refine k_seq ?_
      refine k_reg ?_
      refine s_lt t_cmp ?_
      refine s_nil ?_
      refine xs_then ?_
      refine k_seq ?_
      refine k_cond (decide ((j : Int) < (R.length : Int))) (fun c21 => ?_) (fun c21 => ?_)
      ·
        have p22 := of_decide_eq_true c21
        refine k_skip ?_
        refine xs_then ?_
        refine k_seq ?_
        refine k_block ?_
        refine k_seq ?_
        refine k_reg ?_
        refine s_lt (t_index iTy_ok Try.underlying23 (.zn hg.roots) (j : Int) j (by omega) (by (try simp only [List.length_nil, List.length_cons, List.length_append, List.length_take, List.length_drop, List.length_set, List.length_replicate, List.length_reverse, bits_len]); omega) (by omega)) ?_
        obtain ⟨y23, hy24⟩ : ∃ y, R[j]? = some y := ⟨_, List.getElem?_eq_getElem (by (try simp only [List.length_nil, List.length_cons, List.length_append, List.length_take, List.length_drop, List.length_set, List.length_replicate, List.length_reverse, bits_len]); omega)⟩
        refine s_lt (t_loadE iTy_ok (.zn hg.roots) hy24) ?_
        refine s_lt (t_pure (.int .i64 y23)) ?_
        refine s_nil ?_
        refine xs_then ?_
        refine k_reg ?_
        refine s_lt (t_pure (.pointer (some ⟨g6, 0, none⟩))) ?_
        refine s_lt (t_pure (.int .i64 y23)) ?_
        refine s_call [0] (mreach_s (G := (grs l [] (R.take j))) (k := 0) (q := 0) (Nat.zero_le _) (Nat.zero_le _) (hRl _) y23) ?_
        rintro _ _ ⟨rfl, rfl⟩
        refine s_nil ?_
        refine xs_block ?_
        refine xs_then ?_
        refine k_reg ?_
        refine s_lt (t_add (j : Int) 1 (by (try simp only [List.length_nil, List.length_cons, List.length_append, List.length_take, List.length_drop, List.length_set, List.length_replicate, List.length_reverse, bits_len]); omega)) ?_
        refine s_lt (t_pure (.int .i64 ((j : Int) + 1))) ?_
        refine s_nil ?_
        rw [← grs_take hy24]
        exact xs_round (j + 1) (by show R.length - (j + 1) < R.length - j; omega) (by omega) (sub_of rfl ⟨⟨rfl, rfl⟩, ⟨⟨rfl, rfl⟩, ⟨⟨rfl, rfl⟩, ⟨⟨rfl, rfl⟩, ⟨⟨rfl, rfl⟩, ⟨⟨rfl, rfl⟩, trivial⟩⟩⟩⟩⟩⟩) (fun _ h => h.re [0, 0] [])
      ·
        have p25 := of_decide_eq_false c21
        refine k_exit ?_
        refine xs_exit ?_
        refine xs_exit ?_
        refine xs_here ?_
        refine xs_then ?_
        refine k_seq ?_
        refine k_reg ?_
        refine s_lt (t_pure (.pointer (some ⟨g6, 0, none⟩))) ?_
        refine s_lt (t_pure (.pointer (some ⟨g6, 0, none⟩))) ?_
        refine s_lt (t_pure (.int .i64 0)) ?_
        refine s_nil ?_
        refine xs_then ?_
        refine k_ret ?_
        exact xs_fin [.pointer (some ⟨g6, 0, none⟩), .int .i64 0] [mrA g6 l ps (grs l [] R) 0 0] (SI.tmp 2 (SI.tmp 3 SI.nil)) (fun _ h => by rw [List.take_of_length_le (by omega)] at h; exact h.re [0] [1]) (.inr ⟨hc, g6, ps, rfl, rfl⟩)
theorem mstep_s {Z : Zone} {F : List Asr} {b : Nat} {l : List Ob} {R G : List Int} {ps : List (Int × Nat)} (hl : l.length ≤ 100000) (hsm : ∀ o ∈ l, o.refs.length ≤ 400 ∧ o.ents.length ≤ 400) (hB : Bf l R 0 G) : SF Try.prog 38 #[.pointer (some ⟨b, 0, none⟩), .int .i64 (l.length : Int)] Z (mrA b l ps G 0 0 :: F) fun r Bs => ∃ G1 k, Bf l R k G1 ∧ G1.length ≤ k ∧ Bs = mrA b l ps G1 k k :: F := by
  refine sf_enter Try.func38 66 [(0, .pointer (some ⟨b, 0, none⟩)), (1, .int .i64 (l.length : Int))] (fun w0 => ?_)
  refine k_seq ?_
  refine k_reg ?_
  refine s_lt (t_pure (.bool false)) ?_
  refine s_nil ?_
  refine xs_then ?_
  refine k_seq ?_
  refine k_seq ?_
  refine k_reg ?_
  refine s_lt (t_pure (.pointer (some ⟨b, 0, none⟩))) ?_
  refine s_lt (t_pure (.bool false)) ?_
  refine s_nil ?_
  refine xs_then ?_
  refine k_false ?_
  refine k_skip ?_
  refine xs_then ?_
  refine k_seq ?_
  refine k_seq ?_
  refine k_reg ?_
  refine s_lt (t_pure (.int .i64 (l.length : Int))) ?_
  refine s_lt (t_pure (.pointer (some ⟨b, 0, none⟩))) ?_
  refine s_lt (t_pure (.pointer (some ⟨b, 0, none⟩))) ?_
  refine s_lt (t_pure (.pointer (some ⟨b, 0, none⟩))) ?_
  refine s_mem2 (fun H h => mr_open (h.re [0] [])) (fun mb1 qv2 hw => ?_)
  have hps3 := hw
  refine s_lt (t_load 0 (.map (some mb1))) ?_
  refine s_lt (t_lenM 1 Try.underlying65) ?_
  refine s_lt t_min ?_
  refine s_lt (Lt.to (v' := .int .i64 (l.length : Int)) t_max (max_min (ps_len hps3))) ?_
  refine s_lt (t_pure (.int .i64 0)) ?_
  refine s_nil ?_
  refine xs_then ?_
  refine k_block ?_
  refine k_mem (fun _ h => mr_shut (q := 0) hps3 rfl (h.re [0, 0, 0, 0] [])) ?_
  refine k_loop (ι := List Int × Nat) (fun (G1, i) => i ≤ l.length ∧ Bf l R i G1) (fun (G1, i) => [(0, .pointer (some ⟨b, 0, none⟩)), (4, .bool false), (17, .int .i64 (l.length : Int)), (18, .int .i64 (i : Int))]) (fun (G1, i) => mrA b l ps G1 i i :: F) (fun (G1, i) => l.length - i) (G, 0) ⟨Nat.zero_le _, hB⟩ (sub_of rfl ⟨⟨rfl, rfl⟩, ⟨⟨rfl, rfl⟩, ⟨⟨rfl, rfl⟩, ⟨⟨rfl, rfl⟩, trivial⟩⟩⟩⟩) (fun _ h => h.re [0] []) ?_
  rintro ⟨G1, i⟩ hi4
  replace hi4 : i ≤ l.length ∧ Bf l R i G1 := hi4
  show SK _ _ _ _ _ [(0, .pointer (some ⟨b, 0, none⟩)), (4, .bool false), (17, .int .i64 (l.length : Int)), (18, .int .i64 (i : Int))] _ (mrA b l ps G1 i i :: F)
  obtain ⟨hj1, hj2⟩ := id hi4
  have hGl := hj2.len; have hdl : (G1.drop i).length = G1.length - i := List.length_drop
  refine k_seq ?_
  refine k_reg ?_
  refine s_lt t_cmp ?_
  refine s_nil ?_
  refine xs_then ?_
  refine k_seq ?_
  refine k_cond (decide ((i : Int) < (l.length : Int))) (fun c5 => ?_) (fun c5 => ?_)
  ·
    have p6 := of_decide_eq_true c5
    refine k_skip ?_
    refine xs_then ?_
    refine k_seq ?_
    refine k_block ?_
    refine k_seq ?_
    refine k_seq ?_
    refine k_reg ?_
    refine s_lt (t_pure (.pointer (some ⟨b, 0, none⟩))) ?_
    refine s_lt (t_pure (.pointer (some ⟨b, 0, none⟩))) ?_
    refine s_lt (t_pure (.pointer (some ⟨b, 1, none⟩))) ?_
    refine s_mem2 (fun H h => mr_open (h.re [0] [])) (fun mb7 qv8 hw => ?_)
    have hps9 := hw
    refine s_lt (t_load 0 qv8) ?_
    refine s_lt (t_len iTy_ok Try.underlying23 (.ownO 2)) ?_
    refine s_lt t_cmp ?_
    refine s_nil ?_
    refine xs_then ?_
    refine k_cond (decide (((G1.drop i).length : Int) = 0)) (fun c10 => ?_) (fun c10 => ?_)
    ·
      have p11 := of_decide_eq_true c10
      refine k_exit ?_
      refine xs_exit ?_
      refine xs_other ?_
      refine xs_exit ?_
      refine xs_exit ?_
      refine xs_here ?_
      refine xs_then ?_
      refine k_seq ?_
      refine k_reg ?_
      refine s_lt (t_pure (.pointer (some ⟨b, 0, none⟩))) ?_
      refine s_lt (t_pure (.pointer (some ⟨b, 0, none⟩))) ?_
      refine s_lt (t_pure (.pointer (some ⟨b, 1, none⟩))) ?_
      refine s_lt (t_load 0 qv8) ?_
      refine s_lt (t_len iTy_ok Try.underlying23 (.ownO 2)) ?_
      refine s_lt (Lt.to t_cmp (congrArg Value.bool (c10 : (decide (((G1.drop i).length : Int) = 0)) = true))) ?_
      refine s_lt (t_pure (.bool true)) ?_
      refine s_nil ?_
      refine xs_then ?_
      refine k_ret ?_
      refine xs_mem (fun _ h => mr_shut (q := i) hps9 rfl (h.re [0, 0, 0, 0] [])) ?_
      refine xs_fin [.bool true] (mrA b l ps G1 i i :: F) (SI.tmp 4 SI.nil) (fun _ h => h.re [0] []) ⟨G1, i, hj2, by omega, rfl⟩
    ·
      have p12 := of_decide_eq_false c10
      refine k_skip ?_
      refine xs_then ?_
      refine k_seq ?_
      refine k_draw ?_
      refine s_lt (t_pure (.pointer (some ⟨b, 0, none⟩))) ?_
      refine s_lt (t_pure (.pointer (some ⟨b, 0, none⟩))) ?_
      refine s_lt (t_pure (.pointer (some ⟨b, 0, none⟩))) ?_
      refine s_lt (t_load 0 (.map (some mb7))) ?_
      refine s_lt (t_pure (.pointer (some ⟨b, 0, none⟩))) ?_
      refine s_lt (t_pure (.pointer (some ⟨b, 0, none⟩))) ?_
      refine s_lt (t_pure (.pointer (some ⟨b, 1, none⟩))) ?_
      refine s_lt (t_load 0 qv8) ?_
      refine s_lt (t_index iTy_ok Try.underlying23 (.ownO 2) 0 0 (by omega) (by (try simp only [List.length_nil, List.length_cons, List.length_append, List.length_take, List.length_drop, List.length_set, List.length_replicate, List.length_reverse, bits_len]); omega) (by omega)) ?_
      obtain ⟨y13, hy14⟩ : ∃ y, (G1.drop i)[0]? = some y := ⟨_, List.getElem?_eq_getElem (by (try simp only [List.length_nil, List.length_cons, List.length_append, List.length_take, List.length_drop, List.length_set, List.length_replicate, List.length_reverse, bits_len]); omega)⟩
      refine s_lt (t_loadE iTy_ok (.ownO 2) hy14) ?_
      have hGy := get_drop0 hy14
      obtain ⟨ob17, g18, hf19, hq20⟩ := nd_must hps9 (hj2.snd y13 (List.mem_of_getElem? hGy)).1
      refine s_lt (Lt.to (v' := ndV g18) (t_lookup 1 intOk Try.underlying65 (.pointer none) y13) (by rw [hq20]; rfl)) ?_
      refine s_lt (t_pure (.pointer (some ⟨g18, 0, none⟩))) ?_
      refine s_nil ?_
      refine x_dynS (fun _ h => by kernel_rfl) ?_
      refine xs_then ?_
      refine k_seq ?_
      refine k_reg ?_
      refine s_lt (t_pure (.pointer (some ⟨b, 0, none⟩))) ?_
      refine s_lt (t_pure (.pointer (some ⟨b, 0, none⟩))) ?_
      refine s_lt (t_pure (.pointer (some ⟨b, 0, none⟩))) ?_
      refine s_lt (t_pure (.pointer (some ⟨b, 1, none⟩))) ?_
      refine s_lt (t_load 0 qv8) ?_
      refine s_lt (t_suf iTy_ok Try.underlying23 (.ownO 2) 1 1 (by omega) (by (try simp only [List.length_nil, List.length_cons, List.length_append, List.length_take, List.length_drop, List.length_set, List.length_replicate, List.length_reverse, bits_len]); omega) (by omega)) ?_
      refine s_lt (t_pure (.pointer (some ⟨b, 0, none⟩))) ?_
      refine s_lt (t_pure (.pointer (some ⟨b, 1, none⟩))) ?_
      refine s_mem (fun _ h => Holds.sufO (i := 2) h iTy_ok 1 rfl (by (try simp only [List.length_nil, List.length_cons, List.length_append, List.length_take, List.length_drop, List.length_set, List.length_replicate, List.length_reverse, bits_len]); omega)) ?_
      refine s_fact (fun H h => ((Acc.ownO (T := iTy) (L := ((G1.drop i).drop 1)) 2 rfl) H h).form) (fun hf21 => ?_)
      refine s_store (u := (suf iTy.size qv8 1)) (m := 1) 0 #[.map (some mb7), (suf iTy.size qv8 1)] ?_ (hm := by (obtain ⟨_, _, e0⟩ := hf21; rw [e0]; rfl)) (h1 := by (obtain ⟨_, _, e0⟩ := hf21; rw [e0]; rfl)) (ha' := by (obtain ⟨_, _, e0⟩ := hf21; rw [e0]; rfl))
      refine s_nil ?_
      refine xs_then ?_
      refine k_seq ?_
      refine k_seq ?_
      refine k_reg ?_
      refine s_lt (t_pure (.pointer (some ⟨g18, 0, none⟩))) ?_
      refine s_mem2 (fun H h => nds_focus hq20 hf19 (h.re [3] [])) (fun rv22 ev23 _ => ?_)
      refine s_call [0, 0, 0] (mall_s (A := ob17.refs) (B := entI ob17) (bf_sml hsm hf19).1 (bf_sml hsm hf19).2) ?_
      rintro v24 _ rfl
      refine s_mem (Bs := own iTy v24 (allO ob17) :: blkA g18 #[rv22, ev23, .int .i64 (colI G1 i y13)] 63 :: own iTy rv22 ob17.refs :: own iTy ev23 (entI ob17) :: ndsH ps l G1 i y13 :: blkA b #[.map (some mb7), (suf iTy.size qv8 1)] 67 :: mpA (Go.Mem.intK 3) ndV mb7 ps :: ownO iTy (suf iTy.size qv8 1) ((G1.drop i).drop 1) :: F) (fun _ h => h) ?_
      refine s_fact (fun H h => ((Acc.own (T := iTy) (L := (allO ob17)) 0 rfl) H h).form) (fun hf25 => ?_)
      refine s_lt (t_len iTy_ok Try.underlying23 (.own 0)) ?_
      refine s_lt (t_pure (.int .i64 0)) ?_
      refine s_nil ?_
      refine xs_then ?_
      refine k_block ?_
      refine k_fact (fun H h => (h.mp (i := 6) rfl).nodup) (fun hnd26 => ?_)
      refine k_mem (fun _ h => nds_back (G' := G1) (k' := i) hnd26 hq20 hf19 rfl (fun _ _ => rfl) (h.re [1, 1, 1, 1] [])) ?_
      refine k_mem (fun _ h => mr_shut (q := (i + 1)) hps9 (drop_one _ _) (h.re [2, 2, 2, 0] [])) ?_
      refine k_mem (Bs := mrA b l ps (grs l G1 ((allO ob17).take 0)) i (i + 1) :: own iTy v24 (allO ob17) :: F) (fun _ h => h) ?_
      refine k_loop (ι := Nat) (fun j => j ≤ (allO ob17).length) (fun j => [(0, .pointer (some ⟨b, 0, none⟩)), (4, .bool false), (5, .pointer (some ⟨g18, 0, none⟩)), (17, .int .i64 (l.length : Int)), (18, .int .i64 (i : Int)), (19, .bool (decide ((i : Int) < (l.length : Int)))), (20, .pointer (some ⟨b, 0, none⟩)), (21, .pointer (some ⟨b, 0, none⟩)), (22, .pointer (some ⟨b, 1, none⟩)), (23, qv8), (24, .int .i64 ((G1.drop i).length : Int)), (25, .bool (decide (((G1.drop i).length : Int) = 0))), (26, .pointer (some ⟨b, 0, none⟩)), (27, .pointer (some ⟨b, 0, none⟩)), (28, .pointer (some ⟨b, 0, none⟩)), (29, .map (some mb7)), (30, .pointer (some ⟨b, 0, none⟩)), (31, .pointer (some ⟨b, 0, none⟩)), (32, .pointer (some ⟨b, 1, none⟩)), (33, qv8), (34, .pointer (some (elemAt iTy.size qv8 0))), (35, .int .i64 y13), (36, .pointer (some ⟨g18, 0, none⟩)), (37, .pointer (some ⟨b, 0, none⟩)), (38, .pointer (some ⟨b, 0, none⟩)), (39, .pointer (some ⟨b, 0, none⟩)), (40, .pointer (some ⟨b, 1, none⟩)), (41, qv8), (42, (suf iTy.size qv8 1)), (43, .pointer (some ⟨b, 0, none⟩)), (44, .pointer (some ⟨b, 1, none⟩)), (45, .pointer (some ⟨g18, 0, none⟩)), (46, v24), (47, .int .i64 ((allO ob17).length : Int)), (48, .int .i64 (j : Int))]) (fun j => mrA b l ps (grs l G1 ((allO ob17).take j)) i (i + 1) :: own iTy v24 (allO ob17) :: F) (fun j => (allO ob17).length - j) 0 (Nat.zero_le _) (sub_of rfl ⟨⟨rfl, rfl⟩, ⟨⟨rfl, rfl⟩, ⟨⟨rfl, rfl⟩, ⟨⟨rfl, rfl⟩, ⟨⟨rfl, rfl⟩, ⟨⟨rfl, rfl⟩, ⟨⟨rfl, rfl⟩, ⟨⟨rfl, rfl⟩, ⟨⟨rfl, rfl⟩, ⟨⟨rfl, rfl⟩, ⟨⟨rfl, rfl⟩, ⟨⟨rfl, rfl⟩, ⟨⟨rfl, rfl⟩, ⟨⟨rfl, rfl⟩, ⟨⟨rfl, rfl⟩, ⟨⟨rfl, rfl⟩, ⟨⟨rfl, rfl⟩, ⟨⟨rfl, rfl⟩, ⟨⟨rfl, rfl⟩, ⟨⟨rfl, rfl⟩, ⟨⟨rfl, rfl⟩, ⟨⟨rfl, rfl⟩, ⟨⟨rfl, rfl⟩, ⟨⟨rfl, rfl⟩, ⟨⟨rfl, rfl⟩, ⟨⟨rfl, rfl⟩, ⟨⟨rfl, rfl⟩, ⟨⟨rfl, rfl⟩, ⟨⟨rfl, rfl⟩, ⟨⟨rfl, rfl⟩, ⟨⟨rfl, rfl⟩, ⟨⟨rfl, rfl⟩, ⟨⟨rfl, rfl⟩, ⟨⟨rfl, rfl⟩, ⟨⟨rfl, rfl⟩, trivial⟩⟩⟩⟩⟩⟩⟩⟩⟩⟩⟩⟩⟩⟩⟩⟩⟩⟩⟩⟩⟩⟩⟩⟩⟩⟩⟩⟩⟩⟩⟩⟩⟩⟩⟩) (fun _ h => h.re [0, 0] []) ?_
      rintro j hi27
      show SK _ _ _ _ _ [(0, .pointer (some ⟨b, 0, none⟩)), (4, .bool false), (5, .pointer (some ⟨g18, 0, none⟩)), (17, .int .i64 (l.length : Int)), (18, .int .i64 (i : Int)), (19, .bool (decide ((i : Int) < (l.length : Int)))), (20, .pointer (some ⟨b, 0, none⟩)), (21, .pointer (some ⟨b, 0, none⟩)), (22, .pointer (some ⟨b, 1, none⟩)), (23, qv8), (24, .int .i64 ((G1.drop i).length : Int)), (25, .bool (decide (((G1.drop i).length : Int) = 0))), (26, .pointer (some ⟨b, 0, none⟩)), (27, .pointer (some ⟨b, 0, none⟩)), (28, .pointer (some ⟨b, 0, none⟩)), (29, .map (some mb7)), (30, .pointer (some ⟨b, 0, none⟩)), (31, .pointer (some ⟨b, 0, none⟩)), (32, .pointer (some ⟨b, 1, none⟩)), (33, qv8), (34, .pointer (some (elemAt iTy.size qv8 0))), (35, .int .i64 y13), (36, .pointer (some ⟨g18, 0, none⟩)), (37, .pointer (some ⟨b, 0, none⟩)), (38, .pointer (some ⟨b, 0, none⟩)), (39, .pointer (some ⟨b, 0, none⟩)), (40, .pointer (some ⟨b, 1, none⟩)), (41, qv8), (42, (suf iTy.size qv8 1)), (43, .pointer (some ⟨b, 0, none⟩)), (44, .pointer (some ⟨b, 1, none⟩)), (45, .pointer (some ⟨g18, 0, none⟩)), (46, v24), (47, .int .i64 ((allO ob17).length : Int)), (48, .int .i64 (j : Int))] _ (mrA b l ps (grs l G1 ((allO ob17).take j)) i (i + 1) :: own iTy v24 (allO ob17) :: F)
      have hgl := (grs_ok l ((allO ob17).take j) G1).pre.length_le; have hgt := (hj2.ns.grs ((allO ob17).take j)).len; have hGi := (List.getElem?_eq_some_iff.1 hGy).1; have hal := bf_sml hsm hf19; have hao : (allO ob17).length = ob17.refs.length + (entI ob17).length := List.length_append
      refine k_seq ?_
      refine k_reg ?_
      refine s_lt t_cmp ?_
      refine s_nil ?_
      refine xs_then ?_
      refine k_seq ?_
      refine k_cond (decide ((j : Int) < ((allO ob17).length : Int))) (fun c28 => ?_) (fun c28 => ?_)
      ·
        have p29 := of_decide_eq_true c28
        refine k_skip ?_
        refine xs_then ?_
        refine k_seq ?_
        refine k_block ?_
        refine k_seq ?_
        refine k_reg ?_
        refine s_lt (t_index iTy_ok Try.underlying23 (.own 1) (j : Int) j (by omega) (by (try simp only [List.length_nil, List.length_cons, List.length_append, List.length_take, List.length_drop, List.length_set, List.length_replicate, List.length_reverse, bits_len]); omega) (by omega)) ?_
        obtain ⟨y30, hy31⟩ : ∃ y, (allO ob17)[j]? = some y := ⟨_, List.getElem?_eq_getElem (by (try simp only [List.length_nil, List.length_cons, List.length_append, List.length_take, List.length_drop, List.length_set, List.length_replicate, List.length_reverse, bits_len]); omega)⟩
        refine s_lt (t_loadE iTy_ok (.own 1) hy31) ?_
        refine s_lt (t_pure (.int .i64 y30)) ?_
        refine s_nil ?_
        refine xs_then ?_
        refine k_reg ?_
        refine s_lt (t_pure (.pointer (some ⟨b, 0, none⟩))) ?_
        refine s_lt (t_pure (.int .i64 y30)) ?_
        refine s_call [0] (mreach_s (G := (grs l G1 ((allO ob17).take j))) (k := i) (q := (i + 1)) (by omega) (by omega) (by omega) y30) ?_
        rintro _ _ ⟨rfl, rfl⟩
        refine s_nil ?_
        refine xs_block ?_
        refine xs_then ?_
        refine k_reg ?_
        refine s_lt (t_add (j : Int) 1 (by (try simp only [List.length_nil, List.length_cons, List.length_append, List.length_take, List.length_drop, List.length_set, List.length_replicate, List.length_reverse, bits_len]); omega)) ?_
        refine s_lt (t_pure (.int .i64 ((j : Int) + 1))) ?_
        refine s_nil ?_
        rw [← grs_take hy31]
        exact xs_round (j + 1) (by show (allO ob17).length - (j + 1) < (allO ob17).length - j; omega) (by omega) (sub_of rfl ⟨⟨rfl, rfl⟩, ⟨⟨rfl, rfl⟩, ⟨⟨rfl, rfl⟩, ⟨⟨rfl, rfl⟩, ⟨⟨rfl, rfl⟩, ⟨⟨rfl, rfl⟩, ⟨⟨rfl, rfl⟩, ⟨⟨rfl, rfl⟩, ⟨⟨rfl, rfl⟩, ⟨⟨rfl, rfl⟩, ⟨⟨rfl, rfl⟩, ⟨⟨rfl, rfl⟩, ⟨⟨rfl, rfl⟩, ⟨⟨rfl, rfl⟩, ⟨⟨rfl, rfl⟩, ⟨⟨rfl, rfl⟩, ⟨⟨rfl, rfl⟩, ⟨⟨rfl, rfl⟩, ⟨⟨rfl, rfl⟩, ⟨⟨rfl, rfl⟩, ⟨⟨rfl, rfl⟩, ⟨⟨rfl, rfl⟩, ⟨⟨rfl, rfl⟩, ⟨⟨rfl, rfl⟩, ⟨⟨rfl, rfl⟩, ⟨⟨rfl, rfl⟩, ⟨⟨rfl, rfl⟩, ⟨⟨rfl, rfl⟩, ⟨⟨rfl, rfl⟩, ⟨⟨rfl, rfl⟩, ⟨⟨rfl, rfl⟩, ⟨⟨rfl, rfl⟩, ⟨⟨rfl, rfl⟩, ⟨⟨rfl, rfl⟩, ⟨⟨rfl, rfl⟩, trivial⟩⟩⟩⟩⟩⟩⟩⟩⟩⟩⟩⟩⟩⟩⟩⟩⟩⟩⟩⟩⟩⟩⟩⟩⟩⟩⟩⟩⟩⟩⟩⟩⟩⟩⟩) (fun _ h => h.re [0, 0] [])
      ·
        have p32 := of_decide_eq_false c28
        refine k_exit ?_
        obtain rfl : j = (allO ob17).length := by omega
        rw [List.take_length]
        refine xs_exit ?_
        refine xs_exit ?_
        refine xs_here ?_
        refine xs_then ?_
        refine k_reg ?_
        refine s_lt (t_pure (.pointer (some ⟨g18, 0, none⟩))) ?_
        refine s_lt (t_pure (.pointer (some ⟨g18, 0, none⟩))) ?_
        refine s_lt (t_pure (.pointer (some ⟨g18, 2, none⟩))) ?_
        refine s_mem2 (fun H h => mr_open (h.re [0] [])) (fun mb33 qv34 hw => ?_)
        have hps35 := hw
        refine s_mem2 (fun H h => nds_focus hq20 hf19 (h.re [3] [])) (fun rv36 ev37 _ => ?_)
        refine s_store 0 #[rv36, ev37, .int .i64 2] ?_
        refine s_nil ?_
        refine xs_block ?_
        refine xs_then ?_
        refine k_reg ?_
        refine s_lt (t_add (i : Int) 1 (by (try simp only [List.length_nil, List.length_cons, List.length_append, List.length_take, List.length_drop, List.length_set, List.length_replicate, List.length_reverse, bits_len]); omega)) ?_
        refine s_lt (t_pure (.int .i64 ((i : Int) + 1))) ?_
        refine s_nil ?_
        have hgy2 : (grs l G1 (allO ob17))[i]? = some y13 := by rw [pre_get (grs_ok l (allO ob17) G1).pre (by omega)]; exact hGy
        refine xs_fact (fun H h => (h.mp (i := 5) rfl).nodup) (fun hnd38 => ?_)
        refine xs_mem (fun _ h => nds_back (G' := (grs l G1 (allO ob17))) (k' := (i + 1)) hnd38 hq20 hf19 ((colI_black hgy2).trans (if_pos rfl)) (fun x hx => (colI_black hgy2).trans (if_neg hx)) (h.re [0, 0, 0, 0] [])) ?_
        refine xs_mem (fun _ h => mr_shut (q := i + 1) hps35 rfl (h.re [1, 1, 1, 0] [])) ?_
        exact xs_round (grs l G1 (allO ob17), i + 1) (by show l.length - (i + 1) < l.length - i; omega) ⟨by omega, hj2.step hGy hf19⟩ (sub_of rfl ⟨⟨rfl, rfl⟩, ⟨⟨rfl, rfl⟩, ⟨⟨rfl, rfl⟩, ⟨⟨rfl, rfl⟩, trivial⟩⟩⟩⟩) (fun _ h => h.re [0] [1])
  ·
    have p39 := of_decide_eq_false c5
    refine k_exit ?_
    refine xs_exit ?_
    refine xs_exit ?_
    refine xs_here ?_
    refine xs_then ?_
    refine k_seq ?_
    refine k_reg ?_
    refine s_lt (t_pure (.pointer (some ⟨b, 0, none⟩))) ?_
    refine s_lt (t_pure (.pointer (some ⟨b, 0, none⟩))) ?_
    refine s_lt (t_pure (.pointer (some ⟨b, 1, none⟩))) ?_
    refine s_mem2 (fun H h => mr_open (h.re [0] [])) (fun mb40 qv41 hw => ?_)
    have hps42 := hw
    refine s_lt (t_load 0 qv41) ?_
    refine s_lt (t_len iTy_ok Try.underlying23 (.ownO 2)) ?_
    refine s_lt t_cmp ?_
    refine s_lt (t_pure (.bool (decide (((G1.drop i).length : Int) = 0)))) ?_
    refine s_nil ?_
    refine xs_then ?_
    refine k_ret ?_
    refine xs_mem (fun _ h => mr_shut (q := i) hps42 rfl (h.re [0, 0, 0, 0] [])) ?_
    refine xs_fin [.bool (decide (((G1.drop i).length : Int) = 0))] (mrA b l ps G1 i i :: F) (SI.tmp 4 SI.nil) (fun _ h => h.re [0] []) ⟨G1, i, hj2, by omega, rfl⟩
theorem mgraph_s {Z : Zone} {ov rv : Value} {l : List Ob} {R : List Int} (hg : KnG Z ov rv l R) (hl : l.length ≤ 100000) (hsm : ∀ o ∈ l, o.refs.length ≤ 400 ∧ o.ents.length ≤ 400) : SF Try.prog 25 #[.agg #[ov, rv]] Z [] fun r Bs => ∃ v, r = .tuple #[v, .int .i64 (errI (chk 0 l))] ∧ Bs = [own iTy v (reachL l R)] := by
  refine sf_enter Try.func25 47 [(0, .agg #[ov, rv])] (fun w0 => ?_)
  refine k_fact (fun H h => (hg.obs.get h).len_le) (fun lA => ?_)
  refine k_seq ?_
  refine k_reg ?_
  refine s_box #[ov, rv] (fun g1 => ?_)
  refine s_lt (t_pure (.slice none 0 0)) ?_
  refine s_lt (t_pure (.int .i64 0)) ?_
  refine s_nil ?_
  refine xs_then ?_
  refine k_seq ?_
  refine k_reg ?_
  refine s_lt (t_loadA 0 #[ov, rv]) ?_
  refine s_pcall (fun _ h => mnew_s (hg.up h) hl hsm) ?_
  rintro _ _ (⟨hc, rfl, rfl⟩ | ⟨hc, b2, ps3, rfl, rfl⟩)
  ·
    refine s_lt (t_pure (.tuple #[.pointer none, .int .i64 2])) ?_
    refine s_lt (t_pure (.pointer none)) ?_
    refine s_lt (t_pure (.int .i64 2)) ?_
    refine s_lt (t_pure (.pointer none)) ?_
    refine s_lt (t_pure (.int .i64 2)) ?_
    refine s_nil ?_
    refine xs_then ?_
    refine k_seq ?_
    refine k_seq ?_
    refine k_reg ?_
    refine s_lt (t_pure (.int .i64 2)) ?_
    refine s_lt (t_cmp (c := true)) ?_
    refine s_nil ?_
    refine xs_then ?_
    refine k_true ?_
    refine k_seq ?_
    refine k_reg ?_
    refine s_lt (t_pure (.int .i64 2)) ?_
    refine s_lt (t_pure (.slice none 0 0)) ?_
    refine s_lt (t_pure (.int .i64 2)) ?_
    refine s_nil ?_
    refine xs_then ?_
    refine k_ret ?_
    refine xs_ret ?_
    exact xs_fin [(.slice none 0 0), .int .i64 2] [own iTy (.slice none 0 0) (reachL l R)] (SI.tmp 2 (SI.tmp 3 SI.nil)) (fun _ h => by rw [reachL_bad hc]; exact h.nilS.re [0] [1]) ⟨(.slice none 0 0), by rw [hc]; rfl, rfl⟩
  ·
    have hs := chk_asc hc
    refine s_lt (t_pure (.tuple #[.pointer (some ⟨b2, 0, none⟩), .int .i64 0])) ?_
    refine s_lt (t_pure (.pointer (some ⟨b2, 0, none⟩))) ?_
    refine s_lt (t_pure (.int .i64 0)) ?_
    refine s_lt (t_pure (.pointer (some ⟨b2, 0, none⟩))) ?_
    refine s_lt (t_pure (.int .i64 0)) ?_
    refine s_nil ?_
    refine xs_then ?_
    refine k_seq ?_
    refine k_seq ?_
    refine k_reg ?_
    refine s_lt (t_pure (.int .i64 0)) ?_
    refine s_lt (t_cmp (c := false)) ?_
    refine s_nil ?_
    refine xs_then ?_
    refine k_false ?_
    refine k_skip ?_
    refine xs_then ?_
    refine k_seq ?_
    refine k_reg ?_
    refine s_lt (t_pure (.pointer (some ⟨b2, 0, none⟩))) ?_
    refine s_lt (t_pure (.pointer (some ⟨g1, 0, none⟩))) ?_
    refine s_lt (t_load 1 ov) ?_
    refine s_lt (t_len ObT_ok Try.underlying22 (.zn hg.obs)) ?_
    refine s_call [0] (mstep_s hl hsm (bf_start l R)) ?_
    rintro v6 _ ⟨G4, k5, hB, hGe, rfl⟩
    refine s_nil ?_
    refine xs_then ?_
    refine k_seq ?_
    refine k_reg ?_
    refine s_lt (t_pure (.slice none 0 0)) ?_
    refine s_nil ?_
    refine xs_then ?_
    refine k_seq ?_
    refine k_seq ?_
    refine k_reg ?_
    refine s_lt (t_pure (.pointer (some ⟨g1, 0, none⟩))) ?_
    refine s_lt (t_load 1 ov) ?_
    refine s_lt (t_len ObT_ok Try.underlying22 (.zn hg.obs)) ?_
    refine s_lt (t_pure (.int .i64 0)) ?_
    refine s_nil ?_
    refine xs_then ?_
    refine k_block ?_
    refine k_mem (fun _ h => Holds.nilS (T := iTy) h) ?_
    refine k_mem (Bs := [own iTy (.slice none 0 0) (live (l.take 0) G4), mrA b2 l ps3 G4 k5 k5, blkA g1 #[ov, rv] 25]) (fun _ h => h) ?_
    refine k_loop (ι := Value × Nat) (fun (sx, i) => i ≤ l.length) (fun (sx, i) => [(2, (.slice none 0 0)), (3, .int .i64 0), (4, .pointer (some ⟨b2, 0, none⟩)), (6, sx), (23, ov), (24, .int .i64 (l.length : Int)), (25, .int .i64 (i : Int))]) (fun (sx, i) => [own iTy sx (live (l.take i) G4), mrA b2 l ps3 G4 k5 k5, blkA g1 #[ov, rv] 25]) (fun (sx, i) => l.length - i) (.slice none 0 0, 0) (Nat.zero_le _) (sub_of rfl ⟨⟨rfl, rfl⟩, ⟨⟨rfl, rfl⟩, ⟨⟨rfl, rfl⟩, ⟨⟨rfl, rfl⟩, ⟨⟨rfl, rfl⟩, ⟨⟨rfl, rfl⟩, ⟨⟨rfl, rfl⟩, trivial⟩⟩⟩⟩⟩⟩⟩) (fun _ h => h.re [0, 0, 0] []) ?_
    rintro ⟨sx, i⟩ hi7
    replace hi7 : i ≤ l.length := hi7
    show SK _ _ _ _ _ [(2, (.slice none 0 0)), (3, .int .i64 0), (4, .pointer (some ⟨b2, 0, none⟩)), (6, sx), (23, ov), (24, .int .i64 (l.length : Int)), (25, .int .i64 (i : Int))] _ [own iTy sx (live (l.take i) G4), mrA b2 l ps3 G4 k5 k5, blkA g1 #[ov, rv] 25]
    have hll := live_len (l.take i) G4; rw [List.length_take] at hll
    refine k_seq ?_
    refine k_reg ?_
    refine s_lt t_cmp ?_
    refine s_nil ?_
    refine xs_then ?_
    refine k_seq ?_
    refine k_cond (decide ((i : Int) < (l.length : Int))) (fun c8 => ?_) (fun c8 => ?_)
    ·
      have p9 := of_decide_eq_true c8
      refine k_skip ?_
      refine xs_then ?_
      refine k_seq ?_
      refine k_block ?_
      refine k_seq ?_
      refine k_reg ?_
      refine s_lt (t_index ObT_ok Try.underlying22 (.zn hg.obs) (i : Int) i (by omega) (by (try simp only [List.length_nil, List.length_cons, List.length_append, List.length_take, List.length_drop, List.length_set, List.length_replicate, List.length_reverse, bits_len]); omega) (by omega)) ?_
      obtain ⟨y10, hy11⟩ : ∃ y, l[i]? = some y := ⟨_, List.getElem?_eq_getElem (by (try simp only [List.length_nil, List.length_cons, List.length_append, List.length_take, List.length_drop, List.length_set, List.length_replicate, List.length_reverse, bits_len]); omega)⟩
      have hk12 := hg.each y10 (List.mem_of_getElem? hy11)
      refine s_lt (t_loadE ObT_ok (.zn hg.obs) hy11) ?_
      refine s_alloc (.agg #[.int .i64 0, .int .i64 0, .int .i64 0, (.slice none 0 0), (.slice none 0 0)]) #[.int .i64 0, .int .i64 0, .int .i64 0, (.slice none 0 0), (.slice none 0 0)] (fun g13 => ?_)
      refine s_store 0 #[.int .i64 y10.id, .int .i64 y10.size, .int .i64 y10.weak, y10.rv.v, y10.ev.v] ?_
      refine s_nil ?_
      refine xs_then ?_
      refine k_seq ?_
      refine k_draw ?_
      refine s_lt (t_pure (.pointer (some ⟨b2, 0, none⟩))) ?_
      refine s_lt (t_pure (.pointer (some ⟨b2, 0, none⟩))) ?_
      refine s_lt (t_pure (.pointer (some ⟨b2, 0, none⟩))) ?_
      refine s_mem2 (fun H h => mr_open (h.re [2] [])) (fun mb14 qv15 hw => ?_)
      have hps16 := hw
      refine s_lt (t_load 0 (.map (some mb14))) ?_
      refine s_lt (t_pure (.pointer (some ⟨g13, 0, none⟩))) ?_
      refine s_lt (t_load 4 (.int .i64 y10.id)) ?_
      obtain ⟨ob19, g20, hf21, hq22⟩ := nd_must hps16 (by rw [Is, fnd_mem hs (List.mem_of_getElem? hy11)]; rfl)
      refine s_lt (Lt.to (v' := ndV g20) (t_lookup 1 intOk Try.underlying65 (.pointer none) y10.id) (by rw [hq22]; rfl)) ?_
      refine s_lt (t_pure (.pointer (some ⟨g20, 0, none⟩))) ?_
      refine s_lt (t_pure (.pointer (some ⟨g20, 2, none⟩))) ?_
      refine s_mem2 (fun H h => nds_focus hq22 hf21 (h.re [3] [])) (fun rv23 ev24 _ => ?_)
      refine s_lt (t_load 0 (.int .i64 (colI G4 k5 y10.id))) ?_
      refine s_lt t_cmp ?_
      refine s_nil ?_
      refine x_dynS (fun _ h => by kernel_rfl) ?_
      refine xs_then ?_
      refine k_cond (decide ((colI G4 k5 y10.id) = 2)) (fun c25 => ?_) (fun c25 => ?_)
      ·
        have p26 := of_decide_eq_true c25
        refine k_reg ?_
        refine s_lt (t_pure sx) ?_
        refine s_lt (t_pure (.pointer (some ⟨g13, 0, none⟩))) ?_
        refine s_lt (t_load 7 (.int .i64 y10.id)) ?_
        refine s_buildSlice (e := 3) [(0, .int .i64 y10.id)] #[.int .i64 y10.id] (fun g27 => ?_) (hb := by kernel_rfl)
        refine s_append (L := (live (l.take i) G4)) 9 iTy_ok Try.underlying23 (.lit 0 iTy_ok [y10.id]) (by show _ * 8 ≤ _; (try simp only [List.length_nil, List.length_cons, List.length_append, List.length_take, List.length_drop, List.length_set, List.length_replicate, List.length_reverse, bits_len]); omega) (by (try simp only [List.length_nil, List.length_cons, List.length_append, List.length_take, List.length_drop, List.length_set, List.length_replicate, List.length_reverse, bits_len]); omega) (fun v28 => ?_)
        refine s_fact (fun H h => ((Acc.own (T := iTy) (L := ((live (l.take i) G4) ++ [y10.id])) 9 rfl) H h).form) (fun hf29 => ?_)
        refine s_lt (t_pure v28) ?_
        refine s_nil ?_
        refine xs_block ?_
        refine xs_then ?_
        refine k_reg ?_
        refine s_lt (t_add (i : Int) 1 (by (try simp only [List.length_nil, List.length_cons, List.length_append, List.length_take, List.length_drop, List.length_set, List.length_replicate, List.length_reverse, bits_len]); omega)) ?_
        refine s_lt (t_pure (.int .i64 ((i : Int) + 1))) ?_
        refine s_nil ?_
        refine xs_fact (fun H h => (h.mp (i := 6) rfl).nodup) (fun hnd30 => ?_)
        refine xs_mem (fun _ h => nds_back (G' := G4) (k' := k5) hnd30 hq22 hf21 rfl (fun _ _ => rfl) (h.re [1, 1, 1, 1] [])) ?_
        refine xs_mem (fun _ h => mr_shut (q := k5) hps16 rfl (h.re [2, 2, 2, 0] [])) ?_
        rw [live_yes hy11 ((colI_end hGe).1 p26)]
        exact xs_round (v28, i + 1) (by show l.length - (i + 1) < l.length - i; omega) (by show i + 1 ≤ l.length; omega) (sub_of rfl ⟨⟨rfl, rfl⟩, ⟨⟨rfl, rfl⟩, ⟨⟨rfl, rfl⟩, ⟨⟨rfl, rfl⟩, ⟨⟨rfl, rfl⟩, ⟨⟨rfl, rfl⟩, ⟨⟨rfl, rfl⟩, trivial⟩⟩⟩⟩⟩⟩⟩) (fun _ h => h.re [3, 0, 2] [3, 3])
      ·
        have p31 := of_decide_eq_false c25
        refine k_skip ?_
        refine xs_block ?_
        refine xs_then ?_
        refine k_reg ?_
        refine s_lt (t_add (i : Int) 1 (by (try simp only [List.length_nil, List.length_cons, List.length_append, List.length_take, List.length_drop, List.length_set, List.length_replicate, List.length_reverse, bits_len]); omega)) ?_
        refine s_lt (t_pure (.int .i64 ((i : Int) + 1))) ?_
        refine s_nil ?_
        refine xs_fact (fun H h => (h.mp (i := 5) rfl).nodup) (fun hnd32 => ?_)
        refine xs_mem (fun _ h => nds_back (G' := G4) (k' := k5) hnd32 hq22 hf21 rfl (fun _ _ => rfl) (h.re [0, 0, 0, 0] [])) ?_
        refine xs_mem (fun _ h => mr_shut (q := k5) hps16 rfl (h.re [1, 1, 1, 0] [])) ?_
        rw [live_no hy11 (fun q => p31 ((colI_end hGe).2 q))]
        exact xs_round (sx, i + 1) (by show l.length - (i + 1) < l.length - i; omega) (by show i + 1 ≤ l.length; omega) (sub_of rfl ⟨⟨rfl, rfl⟩, ⟨⟨rfl, rfl⟩, ⟨⟨rfl, rfl⟩, ⟨⟨rfl, rfl⟩, ⟨⟨rfl, rfl⟩, ⟨⟨rfl, rfl⟩, ⟨⟨rfl, rfl⟩, trivial⟩⟩⟩⟩⟩⟩⟩) (fun _ h => h.re [2, 0, 1] [3])
    ·
      have p33 := of_decide_eq_false c8
      refine k_exit ?_
      refine xs_exit ?_
      refine xs_exit ?_
      refine xs_here ?_
      refine xs_then ?_
      refine k_seq ?_
      refine k_reg ?_
      refine s_lt (t_pure sx) ?_
      refine s_lt (t_pure sx) ?_
      refine s_lt (t_pure (.int .i64 0)) ?_
      refine s_nil ?_
      refine xs_then ?_
      refine k_ret ?_
      exact xs_fin [sx, .int .i64 0] [own iTy sx (reachL l R)] (SI.tmp 2 (SI.tmp 3 SI.nil)) (fun _ h => by rw [List.take_of_length_le (by omega), hB.live hc hGe] at h; exact h.re [0] [1, 1]) ⟨sx, by rw [hc]; rfl, rfl⟩
/-- A closure's call, its arguments as a list. -/
theorem s_callL {P : Program} {w0 : World} {ops : Array Oper} {Q : Exit → Act → World → Prop} {n : Nat} {E : Env} {Z : Zone} {As : List Asr} {o : Oper} {rest : List Oper} {f : FuncId} {x : Operand} {xs : Array Operand} {ts : Array TypeId} {first cap : Array Value} {vals : List Value} {R : Value → List Asr → Prop} {d : Nat} {As0 : List Asr} (is : List Nat) (hc : SF P f vals.toArray Z As0 R)
    (h : ∀ v Bs, R v Bs → SL P w0 ops Q n rest ((d, v) :: E) Z Bs) (hp : rearr As is = As0 := by rfl)
    (ho : o.op = .call { callee := .value x, args := xs, argTypes := ts } := by rfl) (hf : ev E x = .func (.func f) first cap := by rfl) (hx : (first.toList ++ (xs.toList.map (ev E))) ++ cap.toList = vals := by rfl) (hd : o.dst = some d := by rfl) (hfn : isFn P f = true := by kernel_rfl) (hk : okOp ops n E o = true := by kernel_rfl) : SL P w0 ops Q n (o :: rest) E Z As :=
  s_callC is hc h hp ho hf (by apply Array.toList_inj.1; simpa using hx) hd hfn hk
theorem t_clo {P : Program} {E : Env} {Z : Zone} {As : List Asr} {o : Oper} (f : FuncId) (vs us : List Value) {xs ys : Array Operand} (ho : o.op = .makeFunc (.func f) xs ys := by rfl) (hx : xs.toList.map (ev E) = vs := by rfl) (hy : ys.toList.map (ev E) = us := by rfl) : Lt P E o Z As (.func (.func f) vs.toArray us.toArray) := t_pure _ fun w => by
  unfold execOp
  simp only [ho]
  have a : xs.map (ev E) = vs.toArray := by apply Array.toList_inj.1; simpa using hx
  have b : ys.map (ev E) = us.toArray := by apply Array.toList_inj.1; simpa using hy
  rw [a, b]; rfl
def inB (L : List Int) (l : List Ob) (x : Int) : Bool := decide (x ∈ L) || !(fnd l x).isSome
theorem inB_of {L : List Int} {l : List Ob} {x : Int} (h : Is l x → x ∈ L) : inB L l x = true := by
  unfold inB
  cases hf : (fnd l x).isSome with
  | true => rw [decide_eq_true (h hf)]; rfl
  | false => simp
/-- What the law asks of a set. -/
structure InAll (L : List Int) (l : List Ob) (R : List Int) : Prop where
  roots : ∀ r ∈ R, inB L l r = true
  refs : ∀ o ∈ l, o.id ∈ L → ∀ z ∈ o.refs, inB L l z = true
  key : ∀ o ∈ l, o.id ∈ L → ∀ e ∈ o.ents, (o.weak = 0 ∨ o.weak = 2) → inB L l e.key = true
  val : ∀ o ∈ l, o.id ∈ L → ∀ e ∈ o.ents, o.weak = 0 → inB L l e.val = true
  eph : ∀ o ∈ l, o.id ∈ L → ∀ e ∈ o.ents, o.weak = 1 → (e.key = 0 ∨ e.key ∈ L) → inB L l e.val = true
theorem alive_in {l : List Ob} {R : List Int} (hc : chk 0 l = true) : InAll (aliveR l R) l R := by
  have hs := chk_asc hc
  have k := all_closed hs R
  have m : ∀ x, x ∈ aliveR l R ↔ x ∈ (allR l R).1 := mem_alive hc
  have kp : ∀ o ∈ l, o.id ∈ aliveR l R → ∀ z ∈ keptO o, inB (aliveR l R) l z = true := fun o ho hi z hz => inB_of fun q => (m z).2 (k.kept o.id o ((m _).1 hi) (fnd_mem hs ho) z hz q)
  have ke : ∀ (o : Ob) (e : Ent) (z : Int), e ∈ o.ents → z ∈ keptE o.weak e → z ∈ keptO o := fun o e z he hz => List.mem_append_right _ (List.mem_flatMap.2 ⟨e, he, hz⟩)
  refine ⟨fun r hr => inB_of fun q => (m r).2 (k.roots r hr q), fun o ho hi z hz => kp o ho hi z (List.mem_append_left _ hz), fun o ho hi e he hw => kp o ho hi _ (ke o e _ he ?_), fun o ho hi e he hw => kp o ho hi _ (ke o e _ he ?_), fun o ho hi e he hw hk => ?_⟩
  · rcases hw with hw | hw <;> simp [keptE, hw]
  · simp [keptE, hw]
  · rcases hk with hk | hk
    · exact kp o ho hi _ (ke o e _ he (by simp [keptE, hw, hk]))
    · exact inB_of fun q => (m _).2 (k.eph o.id o ((m _).1 hi) (fnd_mem hs ho) hw e he ((m _).1 hk) q)
theorem alive_is {l : List Ob} {R : List Int} (hc : chk 0 l = true) {x : Int} (h : x ∈ aliveR l R) : Is l x := (all_good l R).clo.1 x ((mem_alive hc x).1 h)
theorem find_must {l : List Ob} (h : Asc l) {id : Int} (hi : Is l id) : ∃ i : Nat, findI l id = (i : Int) := by
  rcases find_cases h id with ⟨h1, _⟩ | ⟨i, o, _, _, _, h2⟩
  · rw [Is, h1] at hi; cases hi
  · exact ⟨i, h2⟩
theorem weak_take {l : List Ob} {i : Nat} {y : Ob} (h : ∀ o ∈ l.take i, o.weak = 0) (hy : l[i]? = some y) (hw : y.weak = 0) : ∀ o ∈ l.take (i + 1), o.weak = 0 := by
  intro o ho
  rw [List.take_add_one, hy] at ho
  rcases List.mem_append.1 ho with ho | ho
  · exact h o ho
  · simp at ho; subst ho; exact hw
theorem in_clo {F : List Asr} {gs gg : Nat} {Z : Zone} {sv ov rv : Value} {L : List Int} {l : List Ob} {R : List Int} (hL : Kn Z iTy sv L) (hsL : L.Pairwise (· < ·)) (hll : L.length ≤ 1000000) (hg : KnG Z ov rv l R) (hs : Asc l) (hl : l.length ≤ 1000000) {id : Int} (hin : inB L l id = true) : SF Try.prog 39 #[.int .i64 id, .pointer (some ⟨gs, 0, none⟩), .pointer (some ⟨gg, 0, none⟩)] Z (blkA gs #[sv] 23 :: blkA gg #[ov, rv] 25 :: F) fun r Bs => r = .bool true ∧ Bs = blkA gs #[sv] 23 :: blkA gg #[ov, rv] 25 :: F := by
  refine sf_enter Try.func39 14 [(0, .int .i64 id), (1, .pointer (some ⟨gs, 0, none⟩)), (2, .pointer (some ⟨gg, 0, none⟩))] (fun w0 => ?_)
  refine k_seq ?_
  refine k_reg ?_
  refine s_lt (t_pure (.bool false)) ?_
  refine s_nil ?_
  refine xs_then ?_
  refine k_seq ?_
  refine k_reg ?_
  refine s_lt (t_load 0 sv) ?_
  refine s_lt (t_pure (.int .i64 id)) ?_
  refine s_vcall (fun _ h => in_s id (Acc.kn (.zn hL) h) hsL hll) ?_
  rintro _ rfl
  refine s_lt (t_pure (.bool (decide (id ∈ L)))) ?_
  refine s_fork 8 (decide (id ∈ L)) (fun c1 => ?_) (fun c1 => ?_)
  ·
    have p2 := of_decide_eq_true c1
    refine s_skip ?_
    refine s_skip ?_
    refine s_skip ?_
    refine s_skip ?_
    refine s_lt (t_pure (.bool true)) ?_
    refine s_lt (t_pure (.bool true)) ?_
    refine s_nil ?_
    refine xs_then ?_
    refine k_ret ?_
    exact xs_fin [.bool true] (blkA gs #[sv] 23 :: blkA gg #[ov, rv] 25 :: F) (SI.tmp 4 SI.nil) (fun _ h => h.re [0, 0] []) ⟨rfl, rfl⟩
  ·
    have p3 := of_decide_eq_false c1
    refine s_lt (t_loadA 1 #[ov, rv]) ?_
    refine s_lt (t_pure (.int .i64 id)) ?_
    refine s_vcall (fun _ h => find2_s (hg.up h) hs hl id) ?_
    rintro _ rfl
    rcases find_cases hs id with ⟨hf6, he10⟩ | ⟨ix4, ob5, hx7, hid8, hf9, he10⟩
    ·
      rw [he10]
      refine s_lt (t_cmp (c := true)) ?_
      refine s_lt (t_pure (.bool true)) ?_
      refine s_lt (t_pure (.bool true)) ?_
      refine s_nil ?_
      refine xs_then ?_
      refine k_ret ?_
      exact xs_fin [.bool true] (blkA gs #[sv] 23 :: blkA gg #[ov, rv] 25 :: F) (SI.tmp 4 SI.nil) (fun _ h => h.re [0, 0] []) ⟨rfl, rfl⟩
    ·
      rw [he10]
      have hk11 := hg.each ob5 (List.mem_of_getElem? hx7)
      have hlt12 : ix4 < l.length := (List.getElem?_eq_some_iff.1 hx7).1
      refine s_lt t_cmp ?_
      refine s_lt (t_pure (.bool (decide ((ix4 : Int) < 0)))) ?_
      refine s_lt (t_pure (.bool (decide ((ix4 : Int) < 0)))) ?_
      refine s_nil ?_
      refine xs_then ?_
      refine k_ret ?_
      refine xs_fin [.bool (decide ((ix4 : Int) < 0))] (blkA gs #[sv] 23 :: blkA gg #[ov, rv] 25 :: F) (SI.tmp 4 SI.nil) (fun _ h => h.re [0, 0] []) ⟨?_, rfl⟩
      exfalso; simp [inB, p3, hf9] at hin
theorem closed_s {Z : Zone} {ov rv : Value} {l : List Ob} {R : List Int} (hg : KnG Z ov rv l R) {sv : Value} {L : List Int} (hL : Kn Z iTy sv L) (hsL : L.Pairwise (· < ·)) (hll : L.length ≤ 1000000) (hs : Asc l) (hl : l.length ≤ 1000000) (hI : InAll L l R) : SF Try.prog 27 #[.agg #[ov, rv], sv] Z [] fun r Bs => r = .bool true ∧ Bs = [] := by
  refine sf_enter Try.func27 122 [(0, .agg #[ov, rv]), (1, sv)] (fun w0 => ?_)
  refine k_fact (fun H h => (hg.obs.get h).len_le) (fun lA => ?_)
  refine k_fact (fun H h => (hg.roots.get h).len_le) (fun lR => ?_)
  refine k_fact (fun H h => ((Acc.zn hL) H h).form) (fun hf => ?_)
  obtain ⟨pp, cc, e⟩ := hf; subst e
  refine k_seq ?_
  refine k_reg ?_
  refine s_box #[ov, rv] (fun g1 => ?_)
  refine s_box #[(.slice pp L.length cc)] (fun g2 => ?_)
  refine s_lt (t_pure (.bool false)) ?_
  refine s_nil ?_
  refine xs_then ?_
  refine k_seq ?_
  refine k_reg ?_
  refine s_lt (t_clo 39 [] [.pointer (some ⟨g2, 0, none⟩), .pointer (some ⟨g1, 0, none⟩)]) ?_
  refine s_lt (t_pure (.func (.func 39) #[] #[.pointer (some ⟨g2, 0, none⟩), .pointer (some ⟨g1, 0, none⟩)])) ?_
  refine s_nil ?_
  refine xs_then ?_
  refine k_seq ?_
  refine k_seq ?_
  refine k_reg ?_
  refine s_lt (t_pure (.int .i64 0)) ?_
  refine s_nil ?_
  refine xs_then ?_
  refine k_block ?_
  refine k_loop (ι := Nat) (fun i => i ≤ R.length) (fun i => [(2, .pointer (some ⟨g1, 0, none⟩)), (3, .pointer (some ⟨g2, 0, none⟩)), (4, .bool false), (5, .func (.func 39) #[] #[.pointer (some ⟨g2, 0, none⟩), .pointer (some ⟨g1, 0, none⟩)]), (6, .int .i64 (i : Int))]) (fun i => [blkA g2 #[(.slice pp L.length cc)] 23, blkA g1 #[ov, rv] 25]) (fun i => R.length - i) 0 (Nat.zero_le _) (sub_of rfl ⟨⟨rfl, rfl⟩, ⟨⟨rfl, rfl⟩, ⟨⟨rfl, rfl⟩, ⟨⟨rfl, rfl⟩, ⟨⟨rfl, rfl⟩, trivial⟩⟩⟩⟩⟩) (fun _ h => h.re [0, 0] []) ?_
  rintro i hi3
  show SK _ _ _ _ _ [(2, .pointer (some ⟨g1, 0, none⟩)), (3, .pointer (some ⟨g2, 0, none⟩)), (4, .bool false), (5, .func (.func 39) #[] #[.pointer (some ⟨g2, 0, none⟩), .pointer (some ⟨g1, 0, none⟩)]), (6, .int .i64 (i : Int))] _ [blkA g2 #[(.slice pp L.length cc)] 23, blkA g1 #[ov, rv] 25]
  refine k_seq ?_
  refine k_seq ?_
  refine k_reg ?_
  refine s_lt (t_pure (.int .i64 (i : Int))) ?_
  refine s_lt (t_pure (.pointer (some ⟨g1, 1, none⟩))) ?_
  refine s_lt (t_load 1 rv) ?_
  refine s_lt (t_len iTy_ok Try.underlying23 (.zn hg.roots)) ?_
  refine s_lt t_cmp ?_
  refine s_nil ?_
  refine xs_then ?_
  refine k_cond (decide ((i : Int) < (R.length : Int))) (fun c4 => ?_) (fun c4 => ?_)
  ·
    have p5 := of_decide_eq_true c4
    refine k_skip ?_
    refine xs_then ?_
    refine k_seq ?_
    refine k_block ?_
    refine k_seq ?_
    refine k_reg ?_
    refine s_lt (t_pure (.func (.func 39) #[] #[.pointer (some ⟨g2, 0, none⟩), .pointer (some ⟨g1, 0, none⟩)])) ?_
    refine s_lt (t_pure (.pointer (some ⟨g1, 1, none⟩))) ?_
    refine s_lt (t_load 1 rv) ?_
    refine s_lt (t_pure (.int .i64 (i : Int))) ?_
    refine s_lt (t_index iTy_ok Try.underlying23 (.zn hg.roots) (i : Int) i (by omega) (by (try simp only [List.length_nil, List.length_cons, List.length_append, List.length_take, List.length_drop, List.length_set, List.length_replicate, List.length_reverse, bits_len]); omega) (by omega)) ?_
    obtain ⟨y6, hy7⟩ : ∃ y, R[i]? = some y := ⟨_, List.getElem?_eq_getElem (by (try simp only [List.length_nil, List.length_cons, List.length_append, List.length_take, List.length_drop, List.length_set, List.length_replicate, List.length_reverse, bits_len]); omega)⟩
    refine s_lt (t_loadE iTy_ok (.zn hg.roots) hy7) ?_
    refine s_callL [0, 0] (in_clo hL hsL hll hg hs hl (hI.roots y6 (List.mem_of_getElem? hy7))) ?_
    rintro _ _ ⟨rfl, rfl⟩
    refine s_lt (t_pure (.bool false)) ?_
    refine s_nil ?_
    refine xs_then ?_
    refine k_false ?_
    refine k_skip ?_
    refine xs_block ?_
    refine xs_then ?_
    refine k_reg ?_
    refine s_lt (t_pure (.int .i64 (i : Int))) ?_
    refine s_lt (t_add (i : Int) 1 (by (try simp only [List.length_nil, List.length_cons, List.length_append, List.length_take, List.length_drop, List.length_set, List.length_replicate, List.length_reverse, bits_len]); omega)) ?_
    refine s_lt (t_pure (.int .i64 ((i : Int) + 1))) ?_
    refine s_nil ?_
    exact xs_round (i + 1) (by show R.length - (i + 1) < R.length - i; omega) (by omega) (sub_of rfl ⟨⟨rfl, rfl⟩, ⟨⟨rfl, rfl⟩, ⟨⟨rfl, rfl⟩, ⟨⟨rfl, rfl⟩, ⟨⟨rfl, rfl⟩, trivial⟩⟩⟩⟩⟩) (fun _ h => h.re [0, 0] [])
  ·
    have p8 := of_decide_eq_false c4
    refine k_exit ?_
    refine xs_exit ?_
    refine xs_exit ?_
    refine xs_here ?_
    refine xs_then ?_
    refine k_seq ?_
    refine k_seq ?_
    refine k_reg ?_
    refine s_lt (t_pure (.int .i64 0)) ?_
    refine s_nil ?_
    refine xs_then ?_
    refine k_block ?_
    refine k_loop (ι := Nat) (fun j => j ≤ l.length) (fun j => [(2, .pointer (some ⟨g1, 0, none⟩)), (3, .pointer (some ⟨g2, 0, none⟩)), (4, .bool false), (5, .func (.func 39) #[] #[.pointer (some ⟨g2, 0, none⟩), .pointer (some ⟨g1, 0, none⟩)]), (7, .int .i64 (j : Int))]) (fun j => [blkA g2 #[(.slice pp L.length cc)] 23, blkA g1 #[ov, rv] 25]) (fun j => l.length - j) 0 (Nat.zero_le _) (sub_of rfl ⟨⟨rfl, rfl⟩, ⟨⟨rfl, rfl⟩, ⟨⟨rfl, rfl⟩, ⟨⟨rfl, rfl⟩, ⟨⟨rfl, rfl⟩, trivial⟩⟩⟩⟩⟩) (fun _ h => h.re [0, 0] []) ?_
    rintro j hi9
    show SK _ _ _ _ _ [(2, .pointer (some ⟨g1, 0, none⟩)), (3, .pointer (some ⟨g2, 0, none⟩)), (4, .bool false), (5, .func (.func 39) #[] #[.pointer (some ⟨g2, 0, none⟩), .pointer (some ⟨g1, 0, none⟩)]), (7, .int .i64 (j : Int))] _ [blkA g2 #[(.slice pp L.length cc)] 23, blkA g1 #[ov, rv] 25]
    refine k_seq ?_
    refine k_seq ?_
    refine k_reg ?_
    refine s_lt (t_pure (.int .i64 (j : Int))) ?_
    refine s_lt (t_pure (.pointer (some ⟨g1, 0, none⟩))) ?_
    refine s_lt (t_load 1 ov) ?_
    refine s_lt (t_len ObT_ok Try.underlying22 (.zn hg.obs)) ?_
    refine s_lt t_cmp ?_
    refine s_nil ?_
    refine xs_then ?_
    refine k_cond (decide ((j : Int) < (l.length : Int))) (fun c10 => ?_) (fun c10 => ?_)
    ·
      have p11 := of_decide_eq_true c10
      refine k_skip ?_
      refine xs_then ?_
      refine k_seq ?_
      refine k_block ?_
      refine k_seq ?_
      refine k_reg ?_
      refine s_lt (t_pure (.pointer (some ⟨g1, 0, none⟩))) ?_
      refine s_lt (t_load 1 ov) ?_
      refine s_lt (t_pure (.int .i64 (j : Int))) ?_
      refine s_lt (t_index ObT_ok Try.underlying22 (.zn hg.obs) (j : Int) j (by omega) (by (try simp only [List.length_nil, List.length_cons, List.length_append, List.length_take, List.length_drop, List.length_set, List.length_replicate, List.length_reverse, bits_len]); omega) (by omega)) ?_
      obtain ⟨y12, hy13⟩ : ∃ y, l[j]? = some y := ⟨_, List.getElem?_eq_getElem (by (try simp only [List.length_nil, List.length_cons, List.length_append, List.length_take, List.length_drop, List.length_set, List.length_replicate, List.length_reverse, bits_len]); omega)⟩
      have hk14 := hg.each y12 (List.mem_of_getElem? hy13)
      refine s_lt (t_loadE ObT_ok (.zn hg.obs) hy13) ?_
      refine s_alloc (.agg #[.int .i64 0, .int .i64 0, .int .i64 0, (.slice none 0 0), (.slice none 0 0)]) #[.int .i64 0, .int .i64 0, .int .i64 0, (.slice none 0 0), (.slice none 0 0)] (fun g15 => ?_)
      refine s_store 0 #[.int .i64 y12.id, .int .i64 y12.size, .int .i64 y12.weak, y12.rv.v, y12.ev.v] ?_
      refine s_nil ?_
      refine xs_then ?_
      refine k_seq ?_
      refine k_seq ?_
      refine k_reg ?_
      refine s_lt (t_load 1 (.slice pp L.length cc)) ?_
      refine s_lt (t_pure (.pointer (some ⟨g15, 0, none⟩))) ?_
      refine s_lt (t_load 0 (.int .i64 y12.id)) ?_
      refine s_vcall (fun _ h => in_s y12.id (Acc.kn (.zn hL) h) hsL hll) ?_
      rintro _ rfl
      refine s_lt (t_pure (.bool (!(decide (y12.id ∈ L))))) ?_
      refine s_nil ?_
      refine xs_then ?_
      refine k_cond (!(decide (y12.id ∈ L))) (fun c16 => ?_) (fun c16 => ?_)
      ·
        have c17 := not_t c16
        have p18 := of_decide_eq_false c17
        refine k_exit ?_
        refine xs_exit ?_
        refine xs_here ?_
        refine xs_then ?_
        refine k_reg ?_
        refine s_lt (t_pure (.int .i64 (j : Int))) ?_
        refine s_lt (t_add (j : Int) 1 (by (try simp only [List.length_nil, List.length_cons, List.length_append, List.length_take, List.length_drop, List.length_set, List.length_replicate, List.length_reverse, bits_len]); omega)) ?_
        refine s_lt (t_pure (.int .i64 ((j : Int) + 1))) ?_
        refine s_nil ?_
        exact xs_round (j + 1) (by show l.length - (j + 1) < l.length - j; omega) (by omega) (sub_of rfl ⟨⟨rfl, rfl⟩, ⟨⟨rfl, rfl⟩, ⟨⟨rfl, rfl⟩, ⟨⟨rfl, rfl⟩, ⟨⟨rfl, rfl⟩, trivial⟩⟩⟩⟩⟩) (fun _ h => h.re [1, 1] [2])
      ·
        have c19 := not_f c16
        have p20 := of_decide_eq_true c19
        refine k_skip ?_
        refine xs_then ?_
        refine k_seq ?_
        refine k_seq ?_
        refine k_reg ?_
        refine s_lt (t_pure (.int .i64 0)) ?_
        refine s_nil ?_
        refine xs_then ?_
        refine k_block ?_
        refine k_fact (fun H h => (hk14.1.get h).len_le) (fun lrv => ?_)
        refine k_loop (ι := Nat) (fun k => k ≤ y12.refs.length) (fun k => [(2, .pointer (some ⟨g1, 0, none⟩)), (3, .pointer (some ⟨g2, 0, none⟩)), (4, .bool false), (5, .func (.func 39) #[] #[.pointer (some ⟨g2, 0, none⟩), .pointer (some ⟨g1, 0, none⟩)]), (7, .int .i64 (j : Int)), (8, .pointer (some ⟨g15, 0, none⟩)), (9, .int .i64 (k : Int)), (28, .int .i64 (j : Int)), (29, .pointer (some ⟨g1, 0, none⟩)), (30, ov), (31, .int .i64 (l.length : Int)), (32, .bool (decide ((j : Int) < (l.length : Int)))), (35, .pointer (some ⟨g1, 0, none⟩)), (36, ov), (37, .int .i64 (j : Int)), (38, .pointer (some (elemAt ObT.size ov j))), (39, .agg #[.int .i64 y12.id, .int .i64 y12.size, .int .i64 y12.weak, y12.rv.v, y12.ev.v]), (40, (.slice pp L.length cc)), (41, .pointer (some ⟨g15, 0, none⟩)), (42, .int .i64 y12.id), (43, .bool (decide (y12.id ∈ L))), (44, .bool (!(decide (y12.id ∈ L))))]) (fun k => [blkA g15 #[.int .i64 y12.id, .int .i64 y12.size, .int .i64 y12.weak, y12.rv.v, y12.ev.v] 42, blkA g2 #[(.slice pp L.length cc)] 23, blkA g1 #[ov, rv] 25]) (fun k => y12.refs.length - k) 0 (Nat.zero_le _) (sub_of rfl ⟨⟨rfl, rfl⟩, ⟨⟨rfl, rfl⟩, ⟨⟨rfl, rfl⟩, ⟨⟨rfl, rfl⟩, ⟨⟨rfl, rfl⟩, ⟨⟨rfl, rfl⟩, ⟨⟨rfl, rfl⟩, ⟨⟨rfl, rfl⟩, ⟨⟨rfl, rfl⟩, ⟨⟨rfl, rfl⟩, ⟨⟨rfl, rfl⟩, ⟨⟨rfl, rfl⟩, ⟨⟨rfl, rfl⟩, ⟨⟨rfl, rfl⟩, ⟨⟨rfl, rfl⟩, ⟨⟨rfl, rfl⟩, ⟨⟨rfl, rfl⟩, ⟨⟨rfl, rfl⟩, ⟨⟨rfl, rfl⟩, ⟨⟨rfl, rfl⟩, ⟨⟨rfl, rfl⟩, ⟨⟨rfl, rfl⟩, trivial⟩⟩⟩⟩⟩⟩⟩⟩⟩⟩⟩⟩⟩⟩⟩⟩⟩⟩⟩⟩⟩⟩) (fun _ h => h.re [0, 0, 0] []) ?_
        rintro k hi21
        show SK _ _ _ _ _ [(2, .pointer (some ⟨g1, 0, none⟩)), (3, .pointer (some ⟨g2, 0, none⟩)), (4, .bool false), (5, .func (.func 39) #[] #[.pointer (some ⟨g2, 0, none⟩), .pointer (some ⟨g1, 0, none⟩)]), (7, .int .i64 (j : Int)), (8, .pointer (some ⟨g15, 0, none⟩)), (9, .int .i64 (k : Int)), (28, .int .i64 (j : Int)), (29, .pointer (some ⟨g1, 0, none⟩)), (30, ov), (31, .int .i64 (l.length : Int)), (32, .bool (decide ((j : Int) < (l.length : Int)))), (35, .pointer (some ⟨g1, 0, none⟩)), (36, ov), (37, .int .i64 (j : Int)), (38, .pointer (some (elemAt ObT.size ov j))), (39, .agg #[.int .i64 y12.id, .int .i64 y12.size, .int .i64 y12.weak, y12.rv.v, y12.ev.v]), (40, (.slice pp L.length cc)), (41, .pointer (some ⟨g15, 0, none⟩)), (42, .int .i64 y12.id), (43, .bool (decide (y12.id ∈ L))), (44, .bool (!(decide (y12.id ∈ L))))] _ [blkA g15 #[.int .i64 y12.id, .int .i64 y12.size, .int .i64 y12.weak, y12.rv.v, y12.ev.v] 42, blkA g2 #[(.slice pp L.length cc)] 23, blkA g1 #[ov, rv] 25]
        refine k_seq ?_
        refine k_seq ?_
        refine k_reg ?_
        refine s_lt (t_pure (.int .i64 (k : Int))) ?_
        refine s_lt (t_pure (.pointer (some ⟨g15, 3, none⟩))) ?_
        refine s_lt (t_load 0 y12.rv.v) ?_
        refine s_lt (t_len iTy_ok Try.underlying23 (.zn hk14.1)) ?_
        refine s_lt t_cmp ?_
        refine s_nil ?_
        refine xs_then ?_
        refine k_cond (decide ((k : Int) < (y12.refs.length : Int))) (fun c22 => ?_) (fun c22 => ?_)
        ·
          have p23 := of_decide_eq_true c22
          refine k_skip ?_
          refine xs_then ?_
          refine k_seq ?_
          refine k_block ?_
          refine k_seq ?_
          refine k_reg ?_
          refine s_lt (t_pure (.func (.func 39) #[] #[.pointer (some ⟨g2, 0, none⟩), .pointer (some ⟨g1, 0, none⟩)])) ?_
          refine s_lt (t_pure (.pointer (some ⟨g15, 3, none⟩))) ?_
          refine s_lt (t_load 0 y12.rv.v) ?_
          refine s_lt (t_pure (.int .i64 (k : Int))) ?_
          refine s_lt (t_index iTy_ok Try.underlying23 (.zn hk14.1) (k : Int) k (by omega) (by (try simp only [List.length_nil, List.length_cons, List.length_append, List.length_take, List.length_drop, List.length_set, List.length_replicate, List.length_reverse, bits_len]); omega) (by omega)) ?_
          obtain ⟨y24, hy25⟩ : ∃ y, y12.refs[k]? = some y := ⟨_, List.getElem?_eq_getElem (by (try simp only [List.length_nil, List.length_cons, List.length_append, List.length_take, List.length_drop, List.length_set, List.length_replicate, List.length_reverse, bits_len]); omega)⟩
          refine s_lt (t_loadE iTy_ok (.zn hk14.1) hy25) ?_
          refine s_callL [1, 1] (in_clo hL hsL hll hg hs hl (hI.refs y12 (List.mem_of_getElem? hy13) p20 y24 (List.mem_of_getElem? hy25))) ?_
          rintro _ _ ⟨rfl, rfl⟩
          refine s_lt (t_pure (.bool false)) ?_
          refine s_nil ?_
          refine xs_then ?_
          refine k_false ?_
          refine k_skip ?_
          refine xs_block ?_
          refine xs_then ?_
          refine k_reg ?_
          refine s_lt (t_pure (.int .i64 (k : Int))) ?_
          refine s_lt (t_add (k : Int) 1 (by (try simp only [List.length_nil, List.length_cons, List.length_append, List.length_take, List.length_drop, List.length_set, List.length_replicate, List.length_reverse, bits_len]); omega)) ?_
          refine s_lt (t_pure (.int .i64 ((k : Int) + 1))) ?_
          refine s_nil ?_
          exact xs_round (k + 1) (by show y12.refs.length - (k + 1) < y12.refs.length - k; omega) (by omega) (sub_of rfl ⟨⟨rfl, rfl⟩, ⟨⟨rfl, rfl⟩, ⟨⟨rfl, rfl⟩, ⟨⟨rfl, rfl⟩, ⟨⟨rfl, rfl⟩, ⟨⟨rfl, rfl⟩, ⟨⟨rfl, rfl⟩, ⟨⟨rfl, rfl⟩, ⟨⟨rfl, rfl⟩, ⟨⟨rfl, rfl⟩, ⟨⟨rfl, rfl⟩, ⟨⟨rfl, rfl⟩, ⟨⟨rfl, rfl⟩, ⟨⟨rfl, rfl⟩, ⟨⟨rfl, rfl⟩, ⟨⟨rfl, rfl⟩, ⟨⟨rfl, rfl⟩, ⟨⟨rfl, rfl⟩, ⟨⟨rfl, rfl⟩, ⟨⟨rfl, rfl⟩, ⟨⟨rfl, rfl⟩, ⟨⟨rfl, rfl⟩, trivial⟩⟩⟩⟩⟩⟩⟩⟩⟩⟩⟩⟩⟩⟩⟩⟩⟩⟩⟩⟩⟩⟩) (fun _ h => h.re [2, 0, 0] [])
        ·
          have p26 := of_decide_eq_false c22
          refine k_exit ?_
          refine xs_exit ?_
          refine xs_exit ?_
          refine xs_here ?_
          refine xs_then ?_
          refine k_seq ?_
          refine k_reg ?_
          refine s_lt (t_pure (.int .i64 0)) ?_
          refine s_nil ?_
          refine xs_then ?_
          refine k_block ?_
          refine k_fact (fun H h => (hk14.2.get h).len_le) (fun lev => ?_)
          refine k_loop (ι := Nat) (fun m => m ≤ y12.ents.length) (fun m => [(2, .pointer (some ⟨g1, 0, none⟩)), (3, .pointer (some ⟨g2, 0, none⟩)), (4, .bool false), (5, .func (.func 39) #[] #[.pointer (some ⟨g2, 0, none⟩), .pointer (some ⟨g1, 0, none⟩)]), (7, .int .i64 (j : Int)), (8, .pointer (some ⟨g15, 0, none⟩)), (9, .int .i64 (k : Int)), (10, .int .i64 (m : Int)), (28, .int .i64 (j : Int)), (29, .pointer (some ⟨g1, 0, none⟩)), (30, ov), (31, .int .i64 (l.length : Int)), (32, .bool (decide ((j : Int) < (l.length : Int)))), (35, .pointer (some ⟨g1, 0, none⟩)), (36, ov), (37, .int .i64 (j : Int)), (38, .pointer (some (elemAt ObT.size ov j))), (39, .agg #[.int .i64 y12.id, .int .i64 y12.size, .int .i64 y12.weak, y12.rv.v, y12.ev.v]), (40, (.slice pp L.length cc)), (41, .pointer (some ⟨g15, 0, none⟩)), (42, .int .i64 y12.id), (43, .bool (decide (y12.id ∈ L))), (44, .bool (!(decide (y12.id ∈ L)))), (45, .int .i64 (k : Int)), (46, .pointer (some ⟨g15, 3, none⟩)), (47, y12.rv.v), (48, .int .i64 (y12.refs.length : Int)), (49, .bool (decide ((k : Int) < (y12.refs.length : Int))))]) (fun m => [blkA g15 #[.int .i64 y12.id, .int .i64 y12.size, .int .i64 y12.weak, y12.rv.v, y12.ev.v] 42, blkA g2 #[(.slice pp L.length cc)] 23, blkA g1 #[ov, rv] 25]) (fun m => y12.ents.length - m) 0 (Nat.zero_le _) (sub_of rfl ⟨⟨rfl, rfl⟩, ⟨⟨rfl, rfl⟩, ⟨⟨rfl, rfl⟩, ⟨⟨rfl, rfl⟩, ⟨⟨rfl, rfl⟩, ⟨⟨rfl, rfl⟩, ⟨⟨rfl, rfl⟩, ⟨⟨rfl, rfl⟩, ⟨⟨rfl, rfl⟩, ⟨⟨rfl, rfl⟩, ⟨⟨rfl, rfl⟩, ⟨⟨rfl, rfl⟩, ⟨⟨rfl, rfl⟩, ⟨⟨rfl, rfl⟩, ⟨⟨rfl, rfl⟩, ⟨⟨rfl, rfl⟩, ⟨⟨rfl, rfl⟩, ⟨⟨rfl, rfl⟩, ⟨⟨rfl, rfl⟩, ⟨⟨rfl, rfl⟩, ⟨⟨rfl, rfl⟩, ⟨⟨rfl, rfl⟩, ⟨⟨rfl, rfl⟩, ⟨⟨rfl, rfl⟩, ⟨⟨rfl, rfl⟩, ⟨⟨rfl, rfl⟩, ⟨⟨rfl, rfl⟩, ⟨⟨rfl, rfl⟩, trivial⟩⟩⟩⟩⟩⟩⟩⟩⟩⟩⟩⟩⟩⟩⟩⟩⟩⟩⟩⟩⟩⟩⟩⟩⟩⟩⟩⟩) (fun _ h => h.re [0, 0, 0] []) ?_
          rintro m hi27
          show SK _ _ _ _ _ [(2, .pointer (some ⟨g1, 0, none⟩)), (3, .pointer (some ⟨g2, 0, none⟩)), (4, .bool false), (5, .func (.func 39) #[] #[.pointer (some ⟨g2, 0, none⟩), .pointer (some ⟨g1, 0, none⟩)]), (7, .int .i64 (j : Int)), (8, .pointer (some ⟨g15, 0, none⟩)), (9, .int .i64 (k : Int)), (10, .int .i64 (m : Int)), (28, .int .i64 (j : Int)), (29, .pointer (some ⟨g1, 0, none⟩)), (30, ov), (31, .int .i64 (l.length : Int)), (32, .bool (decide ((j : Int) < (l.length : Int)))), (35, .pointer (some ⟨g1, 0, none⟩)), (36, ov), (37, .int .i64 (j : Int)), (38, .pointer (some (elemAt ObT.size ov j))), (39, .agg #[.int .i64 y12.id, .int .i64 y12.size, .int .i64 y12.weak, y12.rv.v, y12.ev.v]), (40, (.slice pp L.length cc)), (41, .pointer (some ⟨g15, 0, none⟩)), (42, .int .i64 y12.id), (43, .bool (decide (y12.id ∈ L))), (44, .bool (!(decide (y12.id ∈ L)))), (45, .int .i64 (k : Int)), (46, .pointer (some ⟨g15, 3, none⟩)), (47, y12.rv.v), (48, .int .i64 (y12.refs.length : Int)), (49, .bool (decide ((k : Int) < (y12.refs.length : Int))))] _ [blkA g15 #[.int .i64 y12.id, .int .i64 y12.size, .int .i64 y12.weak, y12.rv.v, y12.ev.v] 42, blkA g2 #[(.slice pp L.length cc)] 23, blkA g1 #[ov, rv] 25]
          refine k_seq ?_
          refine k_seq ?_
          refine k_reg ?_
          refine s_lt (t_pure (.int .i64 (m : Int))) ?_
          refine s_lt (t_pure (.pointer (some ⟨g15, 4, none⟩))) ?_
          refine s_lt (t_load 0 y12.ev.v) ?_
          refine s_lt (t_len EntT_ok Try.underlying40 (.zn hk14.2)) ?_
          refine s_lt t_cmp ?_
          refine s_nil ?_
          refine xs_then ?_
          refine k_cond (decide ((m : Int) < (y12.ents.length : Int))) (fun c28 => ?_) (fun c28 => ?_)
          ·
            have p29 := of_decide_eq_true c28
            refine k_skip ?_
            refine xs_then ?_
            refine k_seq ?_
            refine k_block ?_
            refine k_seq ?_
            refine k_reg ?_
            refine s_lt (t_pure (.pointer (some ⟨g15, 4, none⟩))) ?_
            refine s_lt (t_load 0 y12.ev.v) ?_
            refine s_lt (t_pure (.int .i64 (m : Int))) ?_
            refine s_lt (t_index EntT_ok Try.underlying40 (.zn hk14.2) (m : Int) m (by omega) (by (try simp only [List.length_nil, List.length_cons, List.length_append, List.length_take, List.length_drop, List.length_set, List.length_replicate, List.length_reverse, bits_len]); omega) (by omega)) ?_
            obtain ⟨y30, hy31⟩ : ∃ y, y12.ents[m]? = some y := ⟨_, List.getElem?_eq_getElem (by (try simp only [List.length_nil, List.length_cons, List.length_append, List.length_take, List.length_drop, List.length_set, List.length_replicate, List.length_reverse, bits_len]); omega)⟩
            refine s_lt (t_loadE EntT_ok (.zn hk14.2) hy31) ?_
            refine s_alloc (.agg #[.int .i64 0, .int .i64 0]) #[.int .i64 0, .int .i64 0] (fun g32 => ?_)
            refine s_store 0 #[.int .i64 y30.key, .int .i64 y30.val] ?_
            refine s_nil ?_
            refine xs_then ?_
            refine k_seq ?_
            refine k_reg ?_
            refine s_lt (t_pure (.pointer (some ⟨g15, 2, none⟩))) ?_
            refine s_lt (t_load 1 (.int .i64 y12.weak)) ?_
            refine s_lt t_cmp ?_
            refine s_lt (t_pure (.bool (decide (y12.weak = 0)))) ?_
            refine s_fork 75 (decide (y12.weak = 0)) (fun c33 => ?_) (fun c33 => ?_)
            ·
              have p34 := of_decide_eq_true c33
              refine s_skip ?_
              refine s_skip ?_
              refine s_skip ?_
              refine s_lt (t_pure (.bool true)) ?_
              refine s_lt (t_pure (.bool true)) ?_
              refine s_lt (t_pure (.func (.func 39) #[] #[.pointer (some ⟨g2, 0, none⟩), .pointer (some ⟨g1, 0, none⟩)])) ?_
              refine s_lt (t_pure (.pointer (some ⟨g32, 0, none⟩))) ?_
              refine s_lt (t_load 0 (.int .i64 y30.key)) ?_
              refine s_callL [2, 2] (in_clo hL hsL hll hg hs hl (hI.key y12 (List.mem_of_getElem? hy13) p20 y30 (List.mem_of_getElem? hy31) (by omega))) ?_
              rintro _ _ ⟨rfl, rfl⟩
              refine s_lt (t_pure (.bool false)) ?_
              refine s_lt (t_pure (.bool false)) ?_
              refine s_lt (t_pure (.bool false)) ?_
              refine s_lt (t_pure (.pointer (some ⟨g15, 2, none⟩))) ?_
              refine s_lt (t_load 3 (.int .i64 y12.weak)) ?_
              refine s_lt (Lt.to t_cmp (congrArg Value.bool (c33 : (decide (y12.weak = 0)) = true))) ?_
              refine s_lt (t_pure (.bool true)) ?_
              refine s_lt (t_pure (.func (.func 39) #[] #[.pointer (some ⟨g2, 0, none⟩), .pointer (some ⟨g1, 0, none⟩)])) ?_
              refine s_lt (t_pure (.pointer (some ⟨g32, 1, none⟩))) ?_
              refine s_lt (t_load 2 (.int .i64 y30.val)) ?_
              refine s_callL [0, 0] (in_clo hL hsL hll hg hs hl (by first | exact hI.val y12 (List.mem_of_getElem? hy13) p20 y30 (List.mem_of_getElem? hy31) (by omega) | exact hI.eph y12 (List.mem_of_getElem? hy13) p20 y30 (List.mem_of_getElem? hy31) (by omega) (by first | (left; assumption) | (right; assumption)))) ?_
              rintro _ _ ⟨rfl, rfl⟩
              refine s_lt (t_pure (.bool false)) ?_
              refine s_lt (t_pure (.bool false)) ?_
              refine s_lt (t_pure (.bool false)) ?_
              refine s_lt (t_pure (.bool false)) ?_
              refine s_lt (t_pure (.pointer (some ⟨g15, 2, none⟩))) ?_
              refine s_lt (t_load 3 (.int .i64 y12.weak)) ?_
              refine s_lt t_cmp ?_
              refine s_lt (t_pure (.bool (decide (y12.weak = 1)))) ?_
              refine s_fork 103 (decide (y12.weak = 1)) (fun c35 => ?_) (fun c35 => ?_)
              ·
                have p36 := of_decide_eq_true c35
                refine s_lt (t_pure (.pointer (some ⟨g32, 0, none⟩))) ?_
                refine s_lt (t_load 2 (.int .i64 y30.key)) ?_
                refine s_lt t_cmp ?_
                refine s_lt (t_pure (.bool (decide (y30.key = 0)))) ?_
                refine s_fork 107 (decide (y30.key = 0)) (fun c37 => ?_) (fun c37 => ?_)
                ·
                  have p38 := of_decide_eq_true c37
                  refine s_skip ?_
                  refine s_skip ?_
                  refine s_skip ?_
                  refine s_skip ?_
                  refine s_lt (t_pure (.bool true)) ?_
                  refine s_lt (t_pure (.bool true)) ?_
                  refine s_lt (t_pure (.bool true)) ?_
                  refine s_lt (t_pure (.func (.func 39) #[] #[.pointer (some ⟨g2, 0, none⟩), .pointer (some ⟨g1, 0, none⟩)])) ?_
                  refine s_lt (t_pure (.pointer (some ⟨g32, 1, none⟩))) ?_
                  refine s_lt (t_load 2 (.int .i64 y30.val)) ?_
                  refine s_callL [0, 0] (in_clo hL hsL hll hg hs hl (by first | exact hI.val y12 (List.mem_of_getElem? hy13) p20 y30 (List.mem_of_getElem? hy31) (by omega) | exact hI.eph y12 (List.mem_of_getElem? hy13) p20 y30 (List.mem_of_getElem? hy31) (by omega) (by first | (left; assumption) | (right; assumption)))) ?_
                  rintro _ _ ⟨rfl, rfl⟩
                  refine s_lt (t_pure (.bool false)) ?_
                  refine s_lt (t_pure (.bool false)) ?_
                  refine s_lt (t_pure (.bool false)) ?_
                  refine s_nil ?_
                  refine xs_then ?_
                  refine k_false ?_
                  refine k_skip ?_
                  refine xs_block ?_
                  refine xs_then ?_
                  refine k_reg ?_
                  refine s_lt (t_pure (.int .i64 (m : Int))) ?_
                  refine s_lt (t_add (m : Int) 1 (by (try simp only [List.length_nil, List.length_cons, List.length_append, List.length_take, List.length_drop, List.length_set, List.length_replicate, List.length_reverse, bits_len]); omega)) ?_
                  refine s_lt (t_pure (.int .i64 ((m : Int) + 1))) ?_
                  refine s_nil ?_
                  exact xs_round (m + 1) (by show y12.ents.length - (m + 1) < y12.ents.length - m; omega) (by omega) (sub_of rfl ⟨⟨rfl, rfl⟩, ⟨⟨rfl, rfl⟩, ⟨⟨rfl, rfl⟩, ⟨⟨rfl, rfl⟩, ⟨⟨rfl, rfl⟩, ⟨⟨rfl, rfl⟩, ⟨⟨rfl, rfl⟩, ⟨⟨rfl, rfl⟩, ⟨⟨rfl, rfl⟩, ⟨⟨rfl, rfl⟩, ⟨⟨rfl, rfl⟩, ⟨⟨rfl, rfl⟩, ⟨⟨rfl, rfl⟩, ⟨⟨rfl, rfl⟩, ⟨⟨rfl, rfl⟩, ⟨⟨rfl, rfl⟩, ⟨⟨rfl, rfl⟩, ⟨⟨rfl, rfl⟩, ⟨⟨rfl, rfl⟩, ⟨⟨rfl, rfl⟩, ⟨⟨rfl, rfl⟩, ⟨⟨rfl, rfl⟩, ⟨⟨rfl, rfl⟩, ⟨⟨rfl, rfl⟩, ⟨⟨rfl, rfl⟩, ⟨⟨rfl, rfl⟩, ⟨⟨rfl, rfl⟩, ⟨⟨rfl, rfl⟩, trivial⟩⟩⟩⟩⟩⟩⟩⟩⟩⟩⟩⟩⟩⟩⟩⟩⟩⟩⟩⟩⟩⟩⟩⟩⟩⟩⟩⟩) (fun _ h => h.re [3, 0, 0] [3])
                ·
                  have p39 := of_decide_eq_false c37
                  refine s_lt (t_load 0 (.slice pp L.length cc)) ?_
                  refine s_lt (t_pure (.pointer (some ⟨g32, 0, none⟩))) ?_
                  refine s_lt (t_load 2 (.int .i64 y30.key)) ?_
                  refine s_vcall (fun _ h => in_s y30.key (Acc.kn (.zn hL) h) hsL hll) ?_
                  rintro _ rfl
                  refine s_lt (t_pure (.bool (decide (y30.key ∈ L)))) ?_
                  refine s_lt (t_pure (.bool (decide (y30.key ∈ L)))) ?_
                  refine s_lt (t_pure (.bool (decide (y30.key ∈ L)))) ?_
                  refine s_fork 114 (decide (y30.key ∈ L)) (fun c40 => ?_) (fun c40 => ?_)
                  ·
                    have p41 := of_decide_eq_true c40
                    refine s_lt (t_pure (.func (.func 39) #[] #[.pointer (some ⟨g2, 0, none⟩), .pointer (some ⟨g1, 0, none⟩)])) ?_
                    refine s_lt (t_pure (.pointer (some ⟨g32, 1, none⟩))) ?_
                    refine s_lt (t_load 2 (.int .i64 y30.val)) ?_
                    refine s_callL [0, 0] (in_clo hL hsL hll hg hs hl (by first | exact hI.val y12 (List.mem_of_getElem? hy13) p20 y30 (List.mem_of_getElem? hy31) (by omega) | exact hI.eph y12 (List.mem_of_getElem? hy13) p20 y30 (List.mem_of_getElem? hy31) (by omega) (by first | (left; assumption) | (right; assumption)))) ?_
                    rintro _ _ ⟨rfl, rfl⟩
                    refine s_lt (t_pure (.bool false)) ?_
                    refine s_lt (t_pure (.bool false)) ?_
                    refine s_lt (t_pure (.bool false)) ?_
                    refine s_nil ?_
                    refine xs_then ?_
                    refine k_false ?_
                    refine k_skip ?_
                    refine xs_block ?_
                    refine xs_then ?_
                    refine k_reg ?_
                    refine s_lt (t_pure (.int .i64 (m : Int))) ?_
                    refine s_lt (t_add (m : Int) 1 (by (try simp only [List.length_nil, List.length_cons, List.length_append, List.length_take, List.length_drop, List.length_set, List.length_replicate, List.length_reverse, bits_len]); omega)) ?_
                    refine s_lt (t_pure (.int .i64 ((m : Int) + 1))) ?_
                    refine s_nil ?_
                    exact xs_round (m + 1) (by show y12.ents.length - (m + 1) < y12.ents.length - m; omega) (by omega) (sub_of rfl ⟨⟨rfl, rfl⟩, ⟨⟨rfl, rfl⟩, ⟨⟨rfl, rfl⟩, ⟨⟨rfl, rfl⟩, ⟨⟨rfl, rfl⟩, ⟨⟨rfl, rfl⟩, ⟨⟨rfl, rfl⟩, ⟨⟨rfl, rfl⟩, ⟨⟨rfl, rfl⟩, ⟨⟨rfl, rfl⟩, ⟨⟨rfl, rfl⟩, ⟨⟨rfl, rfl⟩, ⟨⟨rfl, rfl⟩, ⟨⟨rfl, rfl⟩, ⟨⟨rfl, rfl⟩, ⟨⟨rfl, rfl⟩, ⟨⟨rfl, rfl⟩, ⟨⟨rfl, rfl⟩, ⟨⟨rfl, rfl⟩, ⟨⟨rfl, rfl⟩, ⟨⟨rfl, rfl⟩, ⟨⟨rfl, rfl⟩, ⟨⟨rfl, rfl⟩, ⟨⟨rfl, rfl⟩, ⟨⟨rfl, rfl⟩, ⟨⟨rfl, rfl⟩, ⟨⟨rfl, rfl⟩, ⟨⟨rfl, rfl⟩, trivial⟩⟩⟩⟩⟩⟩⟩⟩⟩⟩⟩⟩⟩⟩⟩⟩⟩⟩⟩⟩⟩⟩⟩⟩⟩⟩⟩⟩) (fun _ h => h.re [3, 0, 0] [3])
                  ·
                    have p42 := of_decide_eq_false c40
                    refine s_skip ?_
                    refine s_skip ?_
                    refine s_skip ?_
                    refine s_skip ?_
                    refine s_skip ?_
                    refine s_lt (t_pure (.bool false)) ?_
                    refine s_lt (t_pure (.bool false)) ?_
                    refine s_nil ?_
                    refine xs_then ?_
                    refine k_false ?_
                    refine k_skip ?_
                    refine xs_block ?_
                    refine xs_then ?_
                    refine k_reg ?_
                    refine s_lt (t_pure (.int .i64 (m : Int))) ?_
                    refine s_lt (t_add (m : Int) 1 (by (try simp only [List.length_nil, List.length_cons, List.length_append, List.length_take, List.length_drop, List.length_set, List.length_replicate, List.length_reverse, bits_len]); omega)) ?_
                    refine s_lt (t_pure (.int .i64 ((m : Int) + 1))) ?_
                    refine s_nil ?_
                    exact xs_round (m + 1) (by show y12.ents.length - (m + 1) < y12.ents.length - m; omega) (by omega) (sub_of rfl ⟨⟨rfl, rfl⟩, ⟨⟨rfl, rfl⟩, ⟨⟨rfl, rfl⟩, ⟨⟨rfl, rfl⟩, ⟨⟨rfl, rfl⟩, ⟨⟨rfl, rfl⟩, ⟨⟨rfl, rfl⟩, ⟨⟨rfl, rfl⟩, ⟨⟨rfl, rfl⟩, ⟨⟨rfl, rfl⟩, ⟨⟨rfl, rfl⟩, ⟨⟨rfl, rfl⟩, ⟨⟨rfl, rfl⟩, ⟨⟨rfl, rfl⟩, ⟨⟨rfl, rfl⟩, ⟨⟨rfl, rfl⟩, ⟨⟨rfl, rfl⟩, ⟨⟨rfl, rfl⟩, ⟨⟨rfl, rfl⟩, ⟨⟨rfl, rfl⟩, ⟨⟨rfl, rfl⟩, ⟨⟨rfl, rfl⟩, ⟨⟨rfl, rfl⟩, ⟨⟨rfl, rfl⟩, ⟨⟨rfl, rfl⟩, ⟨⟨rfl, rfl⟩, ⟨⟨rfl, rfl⟩, ⟨⟨rfl, rfl⟩, trivial⟩⟩⟩⟩⟩⟩⟩⟩⟩⟩⟩⟩⟩⟩⟩⟩⟩⟩⟩⟩⟩⟩⟩⟩⟩⟩⟩⟩) (fun _ h => h.re [3, 0, 0] [3])
              ·
                have p43 := of_decide_eq_false c35
                refine s_skip ?_
                refine s_skip ?_
                refine s_skip ?_
                refine s_skip ?_
                refine s_skip ?_
                refine s_skip ?_
                refine s_skip ?_
                refine s_skip ?_
                refine s_skip ?_
                refine s_lt (t_pure (.bool false)) ?_
                refine s_lt (t_pure (.bool false)) ?_
                refine s_skip ?_
                refine s_skip ?_
                refine s_skip ?_
                refine s_skip ?_
                refine s_skip ?_
                refine s_lt (t_pure (.bool false)) ?_
                refine s_lt (t_pure (.bool false)) ?_
                refine s_nil ?_
                refine xs_then ?_
                refine k_false ?_
                refine k_skip ?_
                refine xs_block ?_
                refine xs_then ?_
                refine k_reg ?_
                refine s_lt (t_pure (.int .i64 (m : Int))) ?_
                refine s_lt (t_add (m : Int) 1 (by (try simp only [List.length_nil, List.length_cons, List.length_append, List.length_take, List.length_drop, List.length_set, List.length_replicate, List.length_reverse, bits_len]); omega)) ?_
                refine s_lt (t_pure (.int .i64 ((m : Int) + 1))) ?_
                refine s_nil ?_
                exact xs_round (m + 1) (by show y12.ents.length - (m + 1) < y12.ents.length - m; omega) (by omega) (sub_of rfl ⟨⟨rfl, rfl⟩, ⟨⟨rfl, rfl⟩, ⟨⟨rfl, rfl⟩, ⟨⟨rfl, rfl⟩, ⟨⟨rfl, rfl⟩, ⟨⟨rfl, rfl⟩, ⟨⟨rfl, rfl⟩, ⟨⟨rfl, rfl⟩, ⟨⟨rfl, rfl⟩, ⟨⟨rfl, rfl⟩, ⟨⟨rfl, rfl⟩, ⟨⟨rfl, rfl⟩, ⟨⟨rfl, rfl⟩, ⟨⟨rfl, rfl⟩, ⟨⟨rfl, rfl⟩, ⟨⟨rfl, rfl⟩, ⟨⟨rfl, rfl⟩, ⟨⟨rfl, rfl⟩, ⟨⟨rfl, rfl⟩, ⟨⟨rfl, rfl⟩, ⟨⟨rfl, rfl⟩, ⟨⟨rfl, rfl⟩, ⟨⟨rfl, rfl⟩, ⟨⟨rfl, rfl⟩, ⟨⟨rfl, rfl⟩, ⟨⟨rfl, rfl⟩, ⟨⟨rfl, rfl⟩, ⟨⟨rfl, rfl⟩, trivial⟩⟩⟩⟩⟩⟩⟩⟩⟩⟩⟩⟩⟩⟩⟩⟩⟩⟩⟩⟩⟩⟩⟩⟩⟩⟩⟩⟩) (fun _ h => h.re [3, 0, 0] [3])
            ·
              have p44 := of_decide_eq_false c33
              refine s_lt (t_pure (.pointer (some ⟨g15, 2, none⟩))) ?_
              refine s_lt (t_load 1 (.int .i64 y12.weak)) ?_
              refine s_lt t_cmp ?_
              refine s_lt (t_pure (.bool (decide (y12.weak = 2)))) ?_
              refine s_lt (t_pure (.bool (decide (y12.weak = 2)))) ?_
              refine s_fork 80 (decide (y12.weak = 2)) (fun c45 => ?_) (fun c45 => ?_)
              ·
                have p46 := of_decide_eq_true c45
                refine s_lt (t_pure (.func (.func 39) #[] #[.pointer (some ⟨g2, 0, none⟩), .pointer (some ⟨g1, 0, none⟩)])) ?_
                refine s_lt (t_pure (.pointer (some ⟨g32, 0, none⟩))) ?_
                refine s_lt (t_load 0 (.int .i64 y30.key)) ?_
                refine s_callL [2, 2] (in_clo hL hsL hll hg hs hl (hI.key y12 (List.mem_of_getElem? hy13) p20 y30 (List.mem_of_getElem? hy31) (by omega))) ?_
                rintro _ _ ⟨rfl, rfl⟩
                refine s_lt (t_pure (.bool false)) ?_
                refine s_lt (t_pure (.bool false)) ?_
                refine s_lt (t_pure (.bool false)) ?_
                refine s_lt (t_pure (.pointer (some ⟨g15, 2, none⟩))) ?_
                refine s_lt (t_load 3 (.int .i64 y12.weak)) ?_
                refine s_lt (Lt.to t_cmp (congrArg Value.bool (c33 : (decide (y12.weak = 0)) = false))) ?_
                refine s_lt (t_pure (.bool false)) ?_
                refine s_skip ?_
                refine s_skip ?_
                refine s_skip ?_
                refine s_skip ?_
                refine s_skip ?_
                refine s_lt (t_pure (.bool false)) ?_
                refine s_lt (t_pure (.bool false)) ?_
                refine s_lt (t_pure (.bool false)) ?_
                refine s_lt (t_pure (.pointer (some ⟨g15, 2, none⟩))) ?_
                refine s_lt (t_load 3 (.int .i64 y12.weak)) ?_
                refine s_lt t_cmp ?_
                refine s_lt (t_pure (.bool (decide (y12.weak = 1)))) ?_
                refine s_fork 103 (decide (y12.weak = 1)) (fun c47 => ?_) (fun c47 => ?_)
                ·
                  have p48 := of_decide_eq_true c47
                  refine s_lt (t_pure (.pointer (some ⟨g32, 0, none⟩))) ?_
                  refine s_lt (t_load 2 (.int .i64 y30.key)) ?_
                  refine s_lt t_cmp ?_
                  refine s_lt (t_pure (.bool (decide (y30.key = 0)))) ?_
                  refine s_fork 107 (decide (y30.key = 0)) (fun c49 => ?_) (fun c49 => ?_)
                  ·
                    have p50 := of_decide_eq_true c49
                    refine s_skip ?_
                    refine s_skip ?_
                    refine s_skip ?_
                    refine s_skip ?_
                    refine s_lt (t_pure (.bool true)) ?_
                    refine s_lt (t_pure (.bool true)) ?_
                    refine s_lt (t_pure (.bool true)) ?_
                    refine s_lt (t_pure (.func (.func 39) #[] #[.pointer (some ⟨g2, 0, none⟩), .pointer (some ⟨g1, 0, none⟩)])) ?_
                    refine s_lt (t_pure (.pointer (some ⟨g32, 1, none⟩))) ?_
                    refine s_lt (t_load 2 (.int .i64 y30.val)) ?_
                    refine s_callL [0, 0] (in_clo hL hsL hll hg hs hl (by first | exact hI.val y12 (List.mem_of_getElem? hy13) p20 y30 (List.mem_of_getElem? hy31) (by omega) | exact hI.eph y12 (List.mem_of_getElem? hy13) p20 y30 (List.mem_of_getElem? hy31) (by omega) (by first | (left; assumption) | (right; assumption)))) ?_
                    rintro _ _ ⟨rfl, rfl⟩
                    refine s_lt (t_pure (.bool false)) ?_
                    refine s_lt (t_pure (.bool false)) ?_
                    refine s_lt (t_pure (.bool false)) ?_
                    refine s_nil ?_
                    refine xs_then ?_
                    refine k_false ?_
                    refine k_skip ?_
                    refine xs_block ?_
                    refine xs_then ?_
                    refine k_reg ?_
                    refine s_lt (t_pure (.int .i64 (m : Int))) ?_
                    refine s_lt (t_add (m : Int) 1 (by (try simp only [List.length_nil, List.length_cons, List.length_append, List.length_take, List.length_drop, List.length_set, List.length_replicate, List.length_reverse, bits_len]); omega)) ?_
                    refine s_lt (t_pure (.int .i64 ((m : Int) + 1))) ?_
                    refine s_nil ?_
                    exact xs_round (m + 1) (by show y12.ents.length - (m + 1) < y12.ents.length - m; omega) (by omega) (sub_of rfl ⟨⟨rfl, rfl⟩, ⟨⟨rfl, rfl⟩, ⟨⟨rfl, rfl⟩, ⟨⟨rfl, rfl⟩, ⟨⟨rfl, rfl⟩, ⟨⟨rfl, rfl⟩, ⟨⟨rfl, rfl⟩, ⟨⟨rfl, rfl⟩, ⟨⟨rfl, rfl⟩, ⟨⟨rfl, rfl⟩, ⟨⟨rfl, rfl⟩, ⟨⟨rfl, rfl⟩, ⟨⟨rfl, rfl⟩, ⟨⟨rfl, rfl⟩, ⟨⟨rfl, rfl⟩, ⟨⟨rfl, rfl⟩, ⟨⟨rfl, rfl⟩, ⟨⟨rfl, rfl⟩, ⟨⟨rfl, rfl⟩, ⟨⟨rfl, rfl⟩, ⟨⟨rfl, rfl⟩, ⟨⟨rfl, rfl⟩, ⟨⟨rfl, rfl⟩, ⟨⟨rfl, rfl⟩, ⟨⟨rfl, rfl⟩, ⟨⟨rfl, rfl⟩, ⟨⟨rfl, rfl⟩, ⟨⟨rfl, rfl⟩, trivial⟩⟩⟩⟩⟩⟩⟩⟩⟩⟩⟩⟩⟩⟩⟩⟩⟩⟩⟩⟩⟩⟩⟩⟩⟩⟩⟩⟩) (fun _ h => h.re [3, 0, 0] [3])
                  ·
                    have p51 := of_decide_eq_false c49
                    refine s_lt (t_load 0 (.slice pp L.length cc)) ?_
                    refine s_lt (t_pure (.pointer (some ⟨g32, 0, none⟩))) ?_
                    refine s_lt (t_load 2 (.int .i64 y30.key)) ?_
                    refine s_vcall (fun _ h => in_s y30.key (Acc.kn (.zn hL) h) hsL hll) ?_
                    rintro _ rfl
                    refine s_lt (t_pure (.bool (decide (y30.key ∈ L)))) ?_
                    refine s_lt (t_pure (.bool (decide (y30.key ∈ L)))) ?_
                    refine s_lt (t_pure (.bool (decide (y30.key ∈ L)))) ?_
                    refine s_fork 114 (decide (y30.key ∈ L)) (fun c52 => ?_) (fun c52 => ?_)
                    ·
                      have p53 := of_decide_eq_true c52
                      refine s_lt (t_pure (.func (.func 39) #[] #[.pointer (some ⟨g2, 0, none⟩), .pointer (some ⟨g1, 0, none⟩)])) ?_
                      refine s_lt (t_pure (.pointer (some ⟨g32, 1, none⟩))) ?_
                      refine s_lt (t_load 2 (.int .i64 y30.val)) ?_
                      refine s_callL [0, 0] (in_clo hL hsL hll hg hs hl (by first | exact hI.val y12 (List.mem_of_getElem? hy13) p20 y30 (List.mem_of_getElem? hy31) (by omega) | exact hI.eph y12 (List.mem_of_getElem? hy13) p20 y30 (List.mem_of_getElem? hy31) (by omega) (by first | (left; assumption) | (right; assumption)))) ?_
                      rintro _ _ ⟨rfl, rfl⟩
                      refine s_lt (t_pure (.bool false)) ?_
                      refine s_lt (t_pure (.bool false)) ?_
                      refine s_lt (t_pure (.bool false)) ?_
                      refine s_nil ?_
                      refine xs_then ?_
                      refine k_false ?_
                      refine k_skip ?_
                      refine xs_block ?_
                      refine xs_then ?_
                      refine k_reg ?_
                      refine s_lt (t_pure (.int .i64 (m : Int))) ?_
                      refine s_lt (t_add (m : Int) 1 (by (try simp only [List.length_nil, List.length_cons, List.length_append, List.length_take, List.length_drop, List.length_set, List.length_replicate, List.length_reverse, bits_len]); omega)) ?_
                      refine s_lt (t_pure (.int .i64 ((m : Int) + 1))) ?_
                      refine s_nil ?_
                      exact xs_round (m + 1) (by show y12.ents.length - (m + 1) < y12.ents.length - m; omega) (by omega) (sub_of rfl ⟨⟨rfl, rfl⟩, ⟨⟨rfl, rfl⟩, ⟨⟨rfl, rfl⟩, ⟨⟨rfl, rfl⟩, ⟨⟨rfl, rfl⟩, ⟨⟨rfl, rfl⟩, ⟨⟨rfl, rfl⟩, ⟨⟨rfl, rfl⟩, ⟨⟨rfl, rfl⟩, ⟨⟨rfl, rfl⟩, ⟨⟨rfl, rfl⟩, ⟨⟨rfl, rfl⟩, ⟨⟨rfl, rfl⟩, ⟨⟨rfl, rfl⟩, ⟨⟨rfl, rfl⟩, ⟨⟨rfl, rfl⟩, ⟨⟨rfl, rfl⟩, ⟨⟨rfl, rfl⟩, ⟨⟨rfl, rfl⟩, ⟨⟨rfl, rfl⟩, ⟨⟨rfl, rfl⟩, ⟨⟨rfl, rfl⟩, ⟨⟨rfl, rfl⟩, ⟨⟨rfl, rfl⟩, ⟨⟨rfl, rfl⟩, ⟨⟨rfl, rfl⟩, ⟨⟨rfl, rfl⟩, ⟨⟨rfl, rfl⟩, trivial⟩⟩⟩⟩⟩⟩⟩⟩⟩⟩⟩⟩⟩⟩⟩⟩⟩⟩⟩⟩⟩⟩⟩⟩⟩⟩⟩⟩) (fun _ h => h.re [3, 0, 0] [3])
                    ·
                      have p54 := of_decide_eq_false c52
                      refine s_skip ?_
                      refine s_skip ?_
                      refine s_skip ?_
                      refine s_skip ?_
                      refine s_skip ?_
                      refine s_lt (t_pure (.bool false)) ?_
                      refine s_lt (t_pure (.bool false)) ?_
                      refine s_nil ?_
                      refine xs_then ?_
                      refine k_false ?_
                      refine k_skip ?_
                      refine xs_block ?_
                      refine xs_then ?_
                      refine k_reg ?_
                      refine s_lt (t_pure (.int .i64 (m : Int))) ?_
                      refine s_lt (t_add (m : Int) 1 (by (try simp only [List.length_nil, List.length_cons, List.length_append, List.length_take, List.length_drop, List.length_set, List.length_replicate, List.length_reverse, bits_len]); omega)) ?_
                      refine s_lt (t_pure (.int .i64 ((m : Int) + 1))) ?_
                      refine s_nil ?_
                      exact xs_round (m + 1) (by show y12.ents.length - (m + 1) < y12.ents.length - m; omega) (by omega) (sub_of rfl ⟨⟨rfl, rfl⟩, ⟨⟨rfl, rfl⟩, ⟨⟨rfl, rfl⟩, ⟨⟨rfl, rfl⟩, ⟨⟨rfl, rfl⟩, ⟨⟨rfl, rfl⟩, ⟨⟨rfl, rfl⟩, ⟨⟨rfl, rfl⟩, ⟨⟨rfl, rfl⟩, ⟨⟨rfl, rfl⟩, ⟨⟨rfl, rfl⟩, ⟨⟨rfl, rfl⟩, ⟨⟨rfl, rfl⟩, ⟨⟨rfl, rfl⟩, ⟨⟨rfl, rfl⟩, ⟨⟨rfl, rfl⟩, ⟨⟨rfl, rfl⟩, ⟨⟨rfl, rfl⟩, ⟨⟨rfl, rfl⟩, ⟨⟨rfl, rfl⟩, ⟨⟨rfl, rfl⟩, ⟨⟨rfl, rfl⟩, ⟨⟨rfl, rfl⟩, ⟨⟨rfl, rfl⟩, ⟨⟨rfl, rfl⟩, ⟨⟨rfl, rfl⟩, ⟨⟨rfl, rfl⟩, ⟨⟨rfl, rfl⟩, trivial⟩⟩⟩⟩⟩⟩⟩⟩⟩⟩⟩⟩⟩⟩⟩⟩⟩⟩⟩⟩⟩⟩⟩⟩⟩⟩⟩⟩) (fun _ h => h.re [3, 0, 0] [3])
                ·
                  have p55 := of_decide_eq_false c47
                  refine s_skip ?_
                  refine s_skip ?_
                  refine s_skip ?_
                  refine s_skip ?_
                  refine s_skip ?_
                  refine s_skip ?_
                  refine s_skip ?_
                  refine s_skip ?_
                  refine s_skip ?_
                  refine s_lt (t_pure (.bool false)) ?_
                  refine s_lt (t_pure (.bool false)) ?_
                  refine s_skip ?_
                  refine s_skip ?_
                  refine s_skip ?_
                  refine s_skip ?_
                  refine s_skip ?_
                  refine s_lt (t_pure (.bool false)) ?_
                  refine s_lt (t_pure (.bool false)) ?_
                  refine s_nil ?_
                  refine xs_then ?_
                  refine k_false ?_
                  refine k_skip ?_
                  refine xs_block ?_
                  refine xs_then ?_
                  refine k_reg ?_
                  refine s_lt (t_pure (.int .i64 (m : Int))) ?_
                  refine s_lt (t_add (m : Int) 1 (by (try simp only [List.length_nil, List.length_cons, List.length_append, List.length_take, List.length_drop, List.length_set, List.length_replicate, List.length_reverse, bits_len]); omega)) ?_
                  refine s_lt (t_pure (.int .i64 ((m : Int) + 1))) ?_
                  refine s_nil ?_
                  exact xs_round (m + 1) (by show y12.ents.length - (m + 1) < y12.ents.length - m; omega) (by omega) (sub_of rfl ⟨⟨rfl, rfl⟩, ⟨⟨rfl, rfl⟩, ⟨⟨rfl, rfl⟩, ⟨⟨rfl, rfl⟩, ⟨⟨rfl, rfl⟩, ⟨⟨rfl, rfl⟩, ⟨⟨rfl, rfl⟩, ⟨⟨rfl, rfl⟩, ⟨⟨rfl, rfl⟩, ⟨⟨rfl, rfl⟩, ⟨⟨rfl, rfl⟩, ⟨⟨rfl, rfl⟩, ⟨⟨rfl, rfl⟩, ⟨⟨rfl, rfl⟩, ⟨⟨rfl, rfl⟩, ⟨⟨rfl, rfl⟩, ⟨⟨rfl, rfl⟩, ⟨⟨rfl, rfl⟩, ⟨⟨rfl, rfl⟩, ⟨⟨rfl, rfl⟩, ⟨⟨rfl, rfl⟩, ⟨⟨rfl, rfl⟩, ⟨⟨rfl, rfl⟩, ⟨⟨rfl, rfl⟩, ⟨⟨rfl, rfl⟩, ⟨⟨rfl, rfl⟩, ⟨⟨rfl, rfl⟩, ⟨⟨rfl, rfl⟩, trivial⟩⟩⟩⟩⟩⟩⟩⟩⟩⟩⟩⟩⟩⟩⟩⟩⟩⟩⟩⟩⟩⟩⟩⟩⟩⟩⟩⟩) (fun _ h => h.re [3, 0, 0] [3])
              ·
                have p56 := of_decide_eq_false c45
                refine s_skip ?_
                refine s_skip ?_
                refine s_skip ?_
                refine s_skip ?_
                refine s_skip ?_
                refine s_lt (t_pure (.bool false)) ?_
                refine s_lt (t_pure (.bool false)) ?_
                refine s_lt (t_pure (.pointer (some ⟨g15, 2, none⟩))) ?_
                refine s_lt (t_load 1 (.int .i64 y12.weak)) ?_
                refine s_lt (Lt.to t_cmp (congrArg Value.bool (c33 : (decide (y12.weak = 0)) = false))) ?_
                refine s_lt (t_pure (.bool false)) ?_
                refine s_skip ?_
                refine s_skip ?_
                refine s_skip ?_
                refine s_skip ?_
                refine s_skip ?_
                refine s_lt (t_pure (.bool false)) ?_
                refine s_lt (t_pure (.bool false)) ?_
                refine s_lt (t_pure (.bool false)) ?_
                refine s_lt (t_pure (.pointer (some ⟨g15, 2, none⟩))) ?_
                refine s_lt (t_load 1 (.int .i64 y12.weak)) ?_
                refine s_lt t_cmp ?_
                refine s_lt (t_pure (.bool (decide (y12.weak = 1)))) ?_
                refine s_fork 103 (decide (y12.weak = 1)) (fun c57 => ?_) (fun c57 => ?_)
                ·
                  have p58 := of_decide_eq_true c57
                  refine s_lt (t_pure (.pointer (some ⟨g32, 0, none⟩))) ?_
                  refine s_lt (t_load 0 (.int .i64 y30.key)) ?_
                  refine s_lt t_cmp ?_
                  refine s_lt (t_pure (.bool (decide (y30.key = 0)))) ?_
                  refine s_fork 107 (decide (y30.key = 0)) (fun c59 => ?_) (fun c59 => ?_)
                  ·
                    have p60 := of_decide_eq_true c59
                    refine s_skip ?_
                    refine s_skip ?_
                    refine s_skip ?_
                    refine s_skip ?_
                    refine s_lt (t_pure (.bool true)) ?_
                    refine s_lt (t_pure (.bool true)) ?_
                    refine s_lt (t_pure (.bool true)) ?_
                    refine s_lt (t_pure (.func (.func 39) #[] #[.pointer (some ⟨g2, 0, none⟩), .pointer (some ⟨g1, 0, none⟩)])) ?_
                    refine s_lt (t_pure (.pointer (some ⟨g32, 1, none⟩))) ?_
                    refine s_lt (t_load 0 (.int .i64 y30.val)) ?_
                    refine s_callL [2, 2] (in_clo hL hsL hll hg hs hl (by first | exact hI.val y12 (List.mem_of_getElem? hy13) p20 y30 (List.mem_of_getElem? hy31) (by omega) | exact hI.eph y12 (List.mem_of_getElem? hy13) p20 y30 (List.mem_of_getElem? hy31) (by omega) (by first | (left; assumption) | (right; assumption)))) ?_
                    rintro _ _ ⟨rfl, rfl⟩
                    refine s_lt (t_pure (.bool false)) ?_
                    refine s_lt (t_pure (.bool false)) ?_
                    refine s_lt (t_pure (.bool false)) ?_
                    refine s_nil ?_
                    refine xs_then ?_
                    refine k_false ?_
                    refine k_skip ?_
                    refine xs_block ?_
                    refine xs_then ?_
                    refine k_reg ?_
                    refine s_lt (t_pure (.int .i64 (m : Int))) ?_
                    refine s_lt (t_add (m : Int) 1 (by (try simp only [List.length_nil, List.length_cons, List.length_append, List.length_take, List.length_drop, List.length_set, List.length_replicate, List.length_reverse, bits_len]); omega)) ?_
                    refine s_lt (t_pure (.int .i64 ((m : Int) + 1))) ?_
                    refine s_nil ?_
                    exact xs_round (m + 1) (by show y12.ents.length - (m + 1) < y12.ents.length - m; omega) (by omega) (sub_of rfl ⟨⟨rfl, rfl⟩, ⟨⟨rfl, rfl⟩, ⟨⟨rfl, rfl⟩, ⟨⟨rfl, rfl⟩, ⟨⟨rfl, rfl⟩, ⟨⟨rfl, rfl⟩, ⟨⟨rfl, rfl⟩, ⟨⟨rfl, rfl⟩, ⟨⟨rfl, rfl⟩, ⟨⟨rfl, rfl⟩, ⟨⟨rfl, rfl⟩, ⟨⟨rfl, rfl⟩, ⟨⟨rfl, rfl⟩, ⟨⟨rfl, rfl⟩, ⟨⟨rfl, rfl⟩, ⟨⟨rfl, rfl⟩, ⟨⟨rfl, rfl⟩, ⟨⟨rfl, rfl⟩, ⟨⟨rfl, rfl⟩, ⟨⟨rfl, rfl⟩, ⟨⟨rfl, rfl⟩, ⟨⟨rfl, rfl⟩, ⟨⟨rfl, rfl⟩, ⟨⟨rfl, rfl⟩, ⟨⟨rfl, rfl⟩, ⟨⟨rfl, rfl⟩, ⟨⟨rfl, rfl⟩, ⟨⟨rfl, rfl⟩, trivial⟩⟩⟩⟩⟩⟩⟩⟩⟩⟩⟩⟩⟩⟩⟩⟩⟩⟩⟩⟩⟩⟩⟩⟩⟩⟩⟩⟩) (fun _ h => h.re [3, 0, 0] [3])
                  ·
                    have p61 := of_decide_eq_false c59
                    refine s_lt (t_load 2 (.slice pp L.length cc)) ?_
                    refine s_lt (t_pure (.pointer (some ⟨g32, 0, none⟩))) ?_
                    refine s_lt (t_load 0 (.int .i64 y30.key)) ?_
                    refine s_vcall (fun _ h => in_s y30.key (Acc.kn (.zn hL) h) hsL hll) ?_
                    rintro _ rfl
                    refine s_lt (t_pure (.bool (decide (y30.key ∈ L)))) ?_
                    refine s_lt (t_pure (.bool (decide (y30.key ∈ L)))) ?_
                    refine s_lt (t_pure (.bool (decide (y30.key ∈ L)))) ?_
                    refine s_fork 114 (decide (y30.key ∈ L)) (fun c62 => ?_) (fun c62 => ?_)
                    ·
                      have p63 := of_decide_eq_true c62
                      refine s_lt (t_pure (.func (.func 39) #[] #[.pointer (some ⟨g2, 0, none⟩), .pointer (some ⟨g1, 0, none⟩)])) ?_
                      refine s_lt (t_pure (.pointer (some ⟨g32, 1, none⟩))) ?_
                      refine s_lt (t_load 0 (.int .i64 y30.val)) ?_
                      refine s_callL [2, 2] (in_clo hL hsL hll hg hs hl (by first | exact hI.val y12 (List.mem_of_getElem? hy13) p20 y30 (List.mem_of_getElem? hy31) (by omega) | exact hI.eph y12 (List.mem_of_getElem? hy13) p20 y30 (List.mem_of_getElem? hy31) (by omega) (by first | (left; assumption) | (right; assumption)))) ?_
                      rintro _ _ ⟨rfl, rfl⟩
                      refine s_lt (t_pure (.bool false)) ?_
                      refine s_lt (t_pure (.bool false)) ?_
                      refine s_lt (t_pure (.bool false)) ?_
                      refine s_nil ?_
                      refine xs_then ?_
                      refine k_false ?_
                      refine k_skip ?_
                      refine xs_block ?_
                      refine xs_then ?_
                      refine k_reg ?_
                      refine s_lt (t_pure (.int .i64 (m : Int))) ?_
                      refine s_lt (t_add (m : Int) 1 (by (try simp only [List.length_nil, List.length_cons, List.length_append, List.length_take, List.length_drop, List.length_set, List.length_replicate, List.length_reverse, bits_len]); omega)) ?_
                      refine s_lt (t_pure (.int .i64 ((m : Int) + 1))) ?_
                      refine s_nil ?_
                      exact xs_round (m + 1) (by show y12.ents.length - (m + 1) < y12.ents.length - m; omega) (by omega) (sub_of rfl ⟨⟨rfl, rfl⟩, ⟨⟨rfl, rfl⟩, ⟨⟨rfl, rfl⟩, ⟨⟨rfl, rfl⟩, ⟨⟨rfl, rfl⟩, ⟨⟨rfl, rfl⟩, ⟨⟨rfl, rfl⟩, ⟨⟨rfl, rfl⟩, ⟨⟨rfl, rfl⟩, ⟨⟨rfl, rfl⟩, ⟨⟨rfl, rfl⟩, ⟨⟨rfl, rfl⟩, ⟨⟨rfl, rfl⟩, ⟨⟨rfl, rfl⟩, ⟨⟨rfl, rfl⟩, ⟨⟨rfl, rfl⟩, ⟨⟨rfl, rfl⟩, ⟨⟨rfl, rfl⟩, ⟨⟨rfl, rfl⟩, ⟨⟨rfl, rfl⟩, ⟨⟨rfl, rfl⟩, ⟨⟨rfl, rfl⟩, ⟨⟨rfl, rfl⟩, ⟨⟨rfl, rfl⟩, ⟨⟨rfl, rfl⟩, ⟨⟨rfl, rfl⟩, ⟨⟨rfl, rfl⟩, ⟨⟨rfl, rfl⟩, trivial⟩⟩⟩⟩⟩⟩⟩⟩⟩⟩⟩⟩⟩⟩⟩⟩⟩⟩⟩⟩⟩⟩⟩⟩⟩⟩⟩⟩) (fun _ h => h.re [3, 0, 0] [3])
                    ·
                      have p64 := of_decide_eq_false c62
                      refine s_skip ?_
                      refine s_skip ?_
                      refine s_skip ?_
                      refine s_skip ?_
                      refine s_skip ?_
                      refine s_lt (t_pure (.bool false)) ?_
                      refine s_lt (t_pure (.bool false)) ?_
                      refine s_nil ?_
                      refine xs_then ?_
                      refine k_false ?_
                      refine k_skip ?_
                      refine xs_block ?_
                      refine xs_then ?_
                      refine k_reg ?_
                      refine s_lt (t_pure (.int .i64 (m : Int))) ?_
                      refine s_lt (t_add (m : Int) 1 (by (try simp only [List.length_nil, List.length_cons, List.length_append, List.length_take, List.length_drop, List.length_set, List.length_replicate, List.length_reverse, bits_len]); omega)) ?_
                      refine s_lt (t_pure (.int .i64 ((m : Int) + 1))) ?_
                      refine s_nil ?_
                      exact xs_round (m + 1) (by show y12.ents.length - (m + 1) < y12.ents.length - m; omega) (by omega) (sub_of rfl ⟨⟨rfl, rfl⟩, ⟨⟨rfl, rfl⟩, ⟨⟨rfl, rfl⟩, ⟨⟨rfl, rfl⟩, ⟨⟨rfl, rfl⟩, ⟨⟨rfl, rfl⟩, ⟨⟨rfl, rfl⟩, ⟨⟨rfl, rfl⟩, ⟨⟨rfl, rfl⟩, ⟨⟨rfl, rfl⟩, ⟨⟨rfl, rfl⟩, ⟨⟨rfl, rfl⟩, ⟨⟨rfl, rfl⟩, ⟨⟨rfl, rfl⟩, ⟨⟨rfl, rfl⟩, ⟨⟨rfl, rfl⟩, ⟨⟨rfl, rfl⟩, ⟨⟨rfl, rfl⟩, ⟨⟨rfl, rfl⟩, ⟨⟨rfl, rfl⟩, ⟨⟨rfl, rfl⟩, ⟨⟨rfl, rfl⟩, ⟨⟨rfl, rfl⟩, ⟨⟨rfl, rfl⟩, ⟨⟨rfl, rfl⟩, ⟨⟨rfl, rfl⟩, ⟨⟨rfl, rfl⟩, ⟨⟨rfl, rfl⟩, trivial⟩⟩⟩⟩⟩⟩⟩⟩⟩⟩⟩⟩⟩⟩⟩⟩⟩⟩⟩⟩⟩⟩⟩⟩⟩⟩⟩⟩) (fun _ h => h.re [1, 1, 1] [3])
                ·
                  have p65 := of_decide_eq_false c57
                  refine s_skip ?_
                  refine s_skip ?_
                  refine s_skip ?_
                  refine s_skip ?_
                  refine s_skip ?_
                  refine s_skip ?_
                  refine s_skip ?_
                  refine s_skip ?_
                  refine s_skip ?_
                  refine s_lt (t_pure (.bool false)) ?_
                  refine s_lt (t_pure (.bool false)) ?_
                  refine s_skip ?_
                  refine s_skip ?_
                  refine s_skip ?_
                  refine s_skip ?_
                  refine s_skip ?_
                  refine s_lt (t_pure (.bool false)) ?_
                  refine s_lt (t_pure (.bool false)) ?_
                  refine s_nil ?_
                  refine xs_then ?_
                  refine k_false ?_
                  refine k_skip ?_
                  refine xs_block ?_
                  refine xs_then ?_
                  refine k_reg ?_
                  refine s_lt (t_pure (.int .i64 (m : Int))) ?_
                  refine s_lt (t_add (m : Int) 1 (by (try simp only [List.length_nil, List.length_cons, List.length_append, List.length_take, List.length_drop, List.length_set, List.length_replicate, List.length_reverse, bits_len]); omega)) ?_
                  refine s_lt (t_pure (.int .i64 ((m : Int) + 1))) ?_
                  refine s_nil ?_
                  exact xs_round (m + 1) (by show y12.ents.length - (m + 1) < y12.ents.length - m; omega) (by omega) (sub_of rfl ⟨⟨rfl, rfl⟩, ⟨⟨rfl, rfl⟩, ⟨⟨rfl, rfl⟩, ⟨⟨rfl, rfl⟩, ⟨⟨rfl, rfl⟩, ⟨⟨rfl, rfl⟩, ⟨⟨rfl, rfl⟩, ⟨⟨rfl, rfl⟩, ⟨⟨rfl, rfl⟩, ⟨⟨rfl, rfl⟩, ⟨⟨rfl, rfl⟩, ⟨⟨rfl, rfl⟩, ⟨⟨rfl, rfl⟩, ⟨⟨rfl, rfl⟩, ⟨⟨rfl, rfl⟩, ⟨⟨rfl, rfl⟩, ⟨⟨rfl, rfl⟩, ⟨⟨rfl, rfl⟩, ⟨⟨rfl, rfl⟩, ⟨⟨rfl, rfl⟩, ⟨⟨rfl, rfl⟩, ⟨⟨rfl, rfl⟩, ⟨⟨rfl, rfl⟩, ⟨⟨rfl, rfl⟩, ⟨⟨rfl, rfl⟩, ⟨⟨rfl, rfl⟩, ⟨⟨rfl, rfl⟩, ⟨⟨rfl, rfl⟩, trivial⟩⟩⟩⟩⟩⟩⟩⟩⟩⟩⟩⟩⟩⟩⟩⟩⟩⟩⟩⟩⟩⟩⟩⟩⟩⟩⟩⟩) (fun _ h => h.re [1, 1, 1] [3])
          ·
            have p66 := of_decide_eq_false c28
            refine k_exit ?_
            refine xs_exit ?_
            refine xs_exit ?_
            refine xs_here ?_
            refine xs_block ?_
            refine xs_then ?_
            refine k_reg ?_
            refine s_lt (t_pure (.int .i64 (j : Int))) ?_
            refine s_lt (t_add (j : Int) 1 (by (try simp only [List.length_nil, List.length_cons, List.length_append, List.length_take, List.length_drop, List.length_set, List.length_replicate, List.length_reverse, bits_len]); omega)) ?_
            refine s_lt (t_pure (.int .i64 ((j : Int) + 1))) ?_
            refine s_nil ?_
            exact xs_round (j + 1) (by show l.length - (j + 1) < l.length - j; omega) (by omega) (sub_of rfl ⟨⟨rfl, rfl⟩, ⟨⟨rfl, rfl⟩, ⟨⟨rfl, rfl⟩, ⟨⟨rfl, rfl⟩, ⟨⟨rfl, rfl⟩, trivial⟩⟩⟩⟩⟩) (fun _ h => h.re [1, 1] [2])
    ·
      have p67 := of_decide_eq_false c10
      refine k_exit ?_
      refine xs_exit ?_
      refine xs_exit ?_
      refine xs_here ?_
      refine xs_then ?_
      refine k_seq ?_
      refine k_reg ?_
      refine s_lt (t_pure (.bool true)) ?_
      refine s_nil ?_
      refine xs_then ?_
      refine k_ret ?_
      exact xs_fin [.bool true] [] (SI.tmp 4 SI.nil) (fun _ h => h.re [] [0, 0]) ⟨rfl, rfl⟩
theorem least_w {Z : Zone} {ov rv : Value} {l : List Ob} {R : List Int} (hg : KnG Z ov rv l R) : SF Try.prog 10 #[.agg #[ov, rv]] Z [] fun r Bs => r = .bool true ∧ Bs = [] := by
  refine sf_enter Try.func10 116 [(0, .agg #[ov, rv])] (fun w0 => ?_)
  refine k_fact (fun H h => (hg.obs.get h).len_le) (fun lA => ?_)
  refine k_seq ?_
  refine k_reg ?_
  refine s_box #[ov, rv] (fun g1 => ?_)
  refine s_lt (t_pure (.bool false)) ?_
  refine s_nil ?_
  refine xs_then ?_
  refine k_seq ?_
  refine k_seq ?_
  refine k_reg ?_
  refine s_lt (t_loadA 0 #[ov, rv]) ?_
  refine s_vcall (fun _ h => large_s (hg.up h)) ?_
  rintro _ rfl
  refine s_nil ?_
  refine xs_then ?_
  refine k_cond (largeB l R) (fun c2 => ?_) (fun c2 => ?_)
  ·
    refine k_seq ?_
    refine k_reg ?_
    refine s_vcall (fun _ h => awake_s) ?_
    rintro _ rfl
    refine s_lt (t_pure (.bool true)) ?_
    refine s_nil ?_
    refine xs_then ?_
    refine k_ret ?_
    refine xs_ret ?_
    exact xs_fin [.bool true] [] (SI.tmp 2 SI.nil) (fun _ h => h.re [] [0]) ⟨rfl, rfl⟩
  ·
    obtain ⟨hl0, hr0, hsm⟩ := small_of c2; have hp0 := pot_le l hsm []; have hp : pot l [] ≤ 1000000 := by omega
    have hl : l.length ≤ 100000 := by omega
    refine k_skip ?_
    refine xs_then ?_
    refine k_seq ?_
    refine k_reg ?_
    refine s_lt (t_loadA 0 #[ov, rv]) ?_
    refine s_pcall (fun _ h => Alive_s (hg.up h) hl hp) ?_
    rintro _ _ ⟨v3, rfl, rfl⟩
    rw [alive_eq]
    refine s_fact (fun H h => ((Acc.own (T := iTy) (L := (aliveR l R)) 0 rfl) H h).form) (fun hf4 => ?_)
    refine s_lt (t_pure (.tuple #[v3, .int .i64 (errI (chk 0 l))])) ?_
    refine s_lt (t_pure v3) ?_
    refine s_lt (t_pure (.int .i64 (errI (chk 0 l)))) ?_
    refine s_lt (t_pure v3) ?_
    refine s_lt (t_pure (.int .i64 (errI (chk 0 l)))) ?_
    refine s_nil ?_
    refine xs_then ?_
    refine k_seq ?_
    refine k_reg ?_
    refine s_lt (t_loadA 1 #[ov, rv]) ?_
    refine s_pcall (fun _ h => mgraph_s (hg.up h) hl hsm) ?_
    rintro _ _ ⟨v5, rfl, rfl⟩
    refine s_fact (fun H h => ((Acc.own (T := iTy) (L := (reachL l R)) 0 rfl) H h).form) (fun hf6 => ?_)
    refine s_lt (t_pure (.tuple #[v5, .int .i64 (errI (chk 0 l))])) ?_
    refine s_lt (t_pure v5) ?_
    refine s_lt (t_pure (.int .i64 (errI (chk 0 l)))) ?_
    refine s_lt (t_pure v5) ?_
    refine s_lt (t_pure (.int .i64 (errI (chk 0 l)))) ?_
    refine s_nil ?_
    refine xs_then ?_
    refine k_seq ?_
    refine k_seq ?_
    refine k_reg ?_
    refine s_lt (t_pure (.int .i64 (errI (chk 0 l)))) ?_
    refine s_lt t_cmp ?_
    refine s_lt (t_pure (.bool (decide ((errI (chk 0 l)) ≠ 0)))) ?_
    refine s_fork 25 (decide ((errI (chk 0 l)) ≠ 0)) (fun c7 => ?_) (fun c7 => ?_)
    ·
      have p8 := of_decide_eq_true c7
      have hc := errI_bad p8
      have hc := errI_bad p8; have hz : (aliveR l R).length = 0 := by rw [aliveR_bad hc]; rfl
      refine s_skip ?_
      refine s_skip ?_
      refine s_lt (t_pure (.bool true)) ?_
      refine s_nil ?_
      refine xs_then ?_
      refine k_true ?_
      refine k_seq ?_
      refine k_reg ?_
      refine s_lt (t_pure (.int .i64 (errI (chk 0 l)))) ?_
      refine s_lt (t_pure (.int .i64 (errI (chk 0 l)))) ?_
      refine s_lt (Lt.to t_cmp (congrArg Value.bool (decide_eq_true rfl : (decide ((errI (chk 0 l)) = (errI (chk 0 l)))) = true))) ?_
      refine s_lt (t_pure (.bool true)) ?_
      refine s_lt (t_pure (.int .i64 (errI (chk 0 l)))) ?_
      refine s_lt (t_loadA 2 #[ov, rv]) ?_
      refine s_vcall (fun _ h => check_s (hg.up h)) ?_
      rintro _ rfl
      refine s_lt (Lt.to t_cmp (congrArg Value.bool (decide_eq_true rfl : (decide ((errI (chk 0 l)) = (errI (chk 0 l)))) = true))) ?_
      refine s_lt (t_pure (.bool true)) ?_
      refine s_lt (t_pure (.bool true)) ?_
      refine s_lt (t_pure v3) ?_
      refine s_lt (t_len iTy_ok Try.underlying23 (.own 1)) ?_
      refine s_lt (Lt.to t_cmp (congrArg Value.bool (decide_eq_true (by omega) : (decide (((aliveR l R).length : Int) = 0)) = true))) ?_
      refine s_lt (t_pure (.bool true)) ?_
      refine s_lt (t_pure (.bool true)) ?_
      refine s_vcall (fun _ h => awake_s) ?_
      rintro _ rfl
      refine s_lt (t_pure (.bool true)) ?_
      refine s_lt (t_pure (.bool true)) ?_
      refine s_nil ?_
      refine xs_then ?_
      refine k_ret ?_
      refine xs_ret ?_
      exact xs_fin [.bool true] [] (SI.tmp 2 SI.nil) (fun _ h => h.re [] [0, 0, 0]) ⟨rfl, rfl⟩
    ·
      have p9 := Decidable.not_not.1 (of_decide_eq_false c7)
      have hc := errI_ok p9; have hs := chk_asc hc
      have hc := errI_ok p9; have hs := chk_asc hc; have hal := alive_len l R; have hrl := reachL_len l R
      refine s_lt (t_pure (.int .i64 (errI (chk 0 l)))) ?_
      refine s_lt (Lt.to t_cmp (congrArg Value.bool (c7 : (decide ((errI (chk 0 l)) ≠ 0)) = false))) ?_
      refine s_lt (t_pure (.bool false)) ?_
      refine s_nil ?_
      refine xs_then ?_
      refine k_false ?_
      refine k_skip ?_
      refine xs_then ?_
      refine k_seq ?_
      refine k_reg ?_
      refine s_lt (t_pure (.bool true)) ?_
      refine s_nil ?_
      refine xs_then ?_
      refine k_seq ?_
      refine k_seq ?_
      refine k_reg ?_
      refine s_lt (t_pure (.int .i64 0)) ?_
      refine s_nil ?_
      refine xs_then ?_
      refine k_block ?_
      refine k_loop (ι := Bool × Nat) (fun (fr, i) => i ≤ l.length ∧ (fr = true → ∀ o ∈ l.take i, o.weak = 0)) (fun (fr, i) => [(1, .pointer (some ⟨g1, 0, none⟩)), (2, .bool false), (3, v3), (5, v5), (7, .bool fr), (8, .int .i64 (i : Int))]) (fun (fr, i) => [own iTy v5 (reachL l R), own iTy v3 (aliveR l R), blkA g1 #[ov, rv] 25]) (fun (fr, i) => l.length - i) (true, 0) ⟨Nat.zero_le _, fun _ o ho => by simp at ho⟩ (sub_of rfl ⟨⟨rfl, rfl⟩, ⟨⟨rfl, rfl⟩, ⟨⟨rfl, rfl⟩, ⟨⟨rfl, rfl⟩, ⟨⟨rfl, rfl⟩, ⟨⟨rfl, rfl⟩, trivial⟩⟩⟩⟩⟩⟩) (fun _ h => h.re [0, 0, 0] []) ?_
      rintro ⟨fr, i⟩ hi10
      replace hi10 : i ≤ l.length ∧ (fr = true → ∀ o ∈ l.take i, o.weak = 0) := hi10
      show SK _ _ _ _ _ [(1, .pointer (some ⟨g1, 0, none⟩)), (2, .bool false), (3, v3), (5, v5), (7, .bool fr), (8, .int .i64 (i : Int))] _ [own iTy v5 (reachL l R), own iTy v3 (aliveR l R), blkA g1 #[ov, rv] 25]
      refine k_seq ?_
      refine k_seq ?_
      refine k_reg ?_
      refine s_lt (t_pure (.int .i64 (i : Int))) ?_
      refine s_lt (t_pure (.pointer (some ⟨g1, 0, none⟩))) ?_
      refine s_lt (t_load 2 ov) ?_
      refine s_lt (t_len ObT_ok Try.underlying22 (.zn hg.obs)) ?_
      refine s_lt t_cmp ?_
      refine s_nil ?_
      refine xs_then ?_
      refine k_cond (decide ((i : Int) < (l.length : Int))) (fun c11 => ?_) (fun c11 => ?_)
      ·
        have p12 := of_decide_eq_true c11
        refine k_skip ?_
        refine xs_then ?_
        refine k_seq ?_
        refine k_block ?_
        refine k_reg ?_
        refine s_lt (t_pure (.bool fr)) ?_
        refine s_lt (t_pure (.bool fr)) ?_
        refine s_fork 54 fr (fun c13 => ?_) (fun c13 => ?_)
        ·
          refine s_lt (t_pure (.pointer (some ⟨g1, 0, none⟩))) ?_
          refine s_lt (t_load 2 ov) ?_
          refine s_lt (t_pure (.int .i64 (i : Int))) ?_
          refine s_lt (t_index ObT_ok Try.underlying22 (.zn hg.obs) (i : Int) i (by omega) (by (try simp only [List.length_nil, List.length_cons, List.length_append, List.length_take, List.length_drop, List.length_set, List.length_replicate, List.length_reverse, bits_len]); omega) (by omega)) ?_
          refine s_lt (t_pure (.pointer (some ((elemAt ObT.size ov i).add 2)))) ?_
          obtain ⟨y14, hy15⟩ : ∃ y, l[i]? = some y := ⟨_, List.getElem?_eq_getElem (by (try simp only [List.length_nil, List.length_cons, List.length_append, List.length_take, List.length_drop, List.length_set, List.length_replicate, List.length_reverse, bits_len]); omega)⟩
          have hk16 := hg.each y14 (List.mem_of_getElem? hy15)
          refine s_lt (t_loadF 2 ObT_ok (.zn hg.obs) hy15) ?_
          refine s_lt t_cmp ?_
          refine s_lt (t_pure (.bool (decide (y14.weak = 0)))) ?_
          refine s_lt (t_pure (.bool (decide (y14.weak = 0)))) ?_
          refine s_nil ?_
          refine xs_block ?_
          refine xs_then ?_
          refine k_reg ?_
          refine s_lt (t_pure (.int .i64 (i : Int))) ?_
          refine s_lt (t_add (i : Int) 1 (by (try simp only [List.length_nil, List.length_cons, List.length_append, List.length_take, List.length_drop, List.length_set, List.length_replicate, List.length_reverse, bits_len]); omega)) ?_
          refine s_lt (t_pure (.int .i64 ((i : Int) + 1))) ?_
          refine s_nil ?_
          exact xs_round (decide (y14.weak = 0), i + 1) (by show l.length - (i + 1) < l.length - i; omega) ⟨by omega, fun q => weak_take (hi10.2 c13) hy15 (of_decide_eq_true q)⟩ (sub_of rfl ⟨⟨rfl, rfl⟩, ⟨⟨rfl, rfl⟩, ⟨⟨rfl, rfl⟩, ⟨⟨rfl, rfl⟩, ⟨⟨rfl, rfl⟩, ⟨⟨rfl, rfl⟩, trivial⟩⟩⟩⟩⟩⟩) (fun _ h => h.re [0, 0, 0] [])
        ·
          refine s_skip ?_
          refine s_skip ?_
          refine s_skip ?_
          refine s_skip ?_
          refine s_skip ?_
          refine s_skip ?_
          refine s_skip ?_
          refine s_lt (t_pure (.bool false)) ?_
          refine s_lt (t_pure (.bool false)) ?_
          refine s_nil ?_
          refine xs_block ?_
          refine xs_then ?_
          refine k_reg ?_
          refine s_lt (t_pure (.int .i64 (i : Int))) ?_
          refine s_lt (t_add (i : Int) 1 (by (try simp only [List.length_nil, List.length_cons, List.length_append, List.length_take, List.length_drop, List.length_set, List.length_replicate, List.length_reverse, bits_len]); omega)) ?_
          refine s_lt (t_pure (.int .i64 ((i : Int) + 1))) ?_
          refine s_nil ?_
          exact xs_round (false, i + 1) (by show l.length - (i + 1) < l.length - i; omega) ⟨by omega, fun q => nomatch q⟩ (sub_of rfl ⟨⟨rfl, rfl⟩, ⟨⟨rfl, rfl⟩, ⟨⟨rfl, rfl⟩, ⟨⟨rfl, rfl⟩, ⟨⟨rfl, rfl⟩, ⟨⟨rfl, rfl⟩, trivial⟩⟩⟩⟩⟩⟩) (fun _ h => h.re [0, 0, 0] [])
      ·
        have p17 := of_decide_eq_false c11
        refine k_exit ?_
        have hstr : fr = true → ∀ o ∈ l, o.weak = 0 := fun q o ho => hi10.2 q o (by rw [List.take_of_length_le (by omega)]; exact ho)
        refine xs_exit ?_
        refine xs_exit ?_
        refine xs_here ?_
        refine xs_then ?_
        refine k_seq ?_
        refine k_seq ?_
        refine k_reg ?_
        refine s_lt (t_pure (.int .i64 0)) ?_
        refine s_nil ?_
        refine xs_then ?_
        refine k_block ?_
        refine k_loop (ι := Nat) (fun j => j ≤ (aliveR l R).length) (fun j => [(1, .pointer (some ⟨g1, 0, none⟩)), (2, .bool false), (3, v3), (5, v5), (7, .bool fr), (9, .int .i64 (j : Int))]) (fun j => [own iTy v5 (reachL l R), own iTy v3 (aliveR l R), blkA g1 #[ov, rv] 25]) (fun j => (aliveR l R).length - j) 0 (Nat.zero_le _) (sub_of rfl ⟨⟨rfl, rfl⟩, ⟨⟨rfl, rfl⟩, ⟨⟨rfl, rfl⟩, ⟨⟨rfl, rfl⟩, ⟨⟨rfl, rfl⟩, ⟨⟨rfl, rfl⟩, trivial⟩⟩⟩⟩⟩⟩) (fun _ h => h.re [0, 0, 0] []) ?_
        rintro j hi18
        show SK _ _ _ _ _ [(1, .pointer (some ⟨g1, 0, none⟩)), (2, .bool false), (3, v3), (5, v5), (7, .bool fr), (9, .int .i64 (j : Int))] _ [own iTy v5 (reachL l R), own iTy v3 (aliveR l R), blkA g1 #[ov, rv] 25]
        refine k_seq ?_
        refine k_seq ?_
        refine k_reg ?_
        refine s_lt (t_pure (.int .i64 (j : Int))) ?_
        refine s_lt (t_pure v3) ?_
        refine s_lt (t_len iTy_ok Try.underlying23 (.own 1)) ?_
        refine s_lt t_cmp ?_
        refine s_nil ?_
        refine xs_then ?_
        refine k_cond (decide ((j : Int) < ((aliveR l R).length : Int))) (fun c19 => ?_) (fun c19 => ?_)
        ·
          have p20 := of_decide_eq_true c19
          refine k_skip ?_
          refine xs_then ?_
          refine k_seq ?_
          refine k_block ?_
          refine k_seq ?_
          refine k_draw ?_
          refine s_lt (t_pure (.int .i64 (j : Int))) ?_
          refine s_lt t_cmp ?_
          refine s_lt (t_pure (.bool (decide ((0 : Int) < (j : Int))))) ?_
          refine s_fork 71 (decide ((0 : Int) < (j : Int))) (fun c21 => ?_) (fun c21 => ?_)
          ·
            have p22 := of_decide_eq_true c21
            refine s_lt (t_pure v3) ?_
            refine s_lt (t_pure (.int .i64 (j : Int))) ?_
            refine s_lt (t_index iTy_ok Try.underlying23 (.own 1) (j : Int) j (by omega) (by (try simp only [List.length_nil, List.length_cons, List.length_append, List.length_take, List.length_drop, List.length_set, List.length_replicate, List.length_reverse, bits_len]); omega) (by omega)) ?_
            obtain ⟨y23, hy24⟩ : ∃ y, (aliveR l R)[j]? = some y := ⟨_, List.getElem?_eq_getElem (by (try simp only [List.length_nil, List.length_cons, List.length_append, List.length_take, List.length_drop, List.length_set, List.length_replicate, List.length_reverse, bits_len]); omega)⟩
            refine s_lt (t_loadE iTy_ok (.own 1) hy24) ?_
            refine s_lt (t_pure v3) ?_
            refine s_lt (t_pure (.int .i64 (j : Int))) ?_
            refine s_lt (t_sub (j : Int) 1 (by (try simp only [List.length_nil, List.length_cons, List.length_append, List.length_take, List.length_drop, List.length_set, List.length_replicate, List.length_reverse, bits_len]); omega)) ?_
            refine s_lt (t_index iTy_ok Try.underlying23 (.own 1) ((j : Int) - 1) (j - 1) (by omega) (by (try simp only [List.length_nil, List.length_cons, List.length_append, List.length_take, List.length_drop, List.length_set, List.length_replicate, List.length_reverse, bits_len]); omega) (by omega)) ?_
            obtain ⟨y25, hy26⟩ : ∃ y, (aliveR l R)[(j - 1)]? = some y := ⟨_, List.getElem?_eq_getElem (by (try simp only [List.length_nil, List.length_cons, List.length_append, List.length_take, List.length_drop, List.length_set, List.length_replicate, List.length_reverse, bits_len]); omega)⟩
            refine s_lt (t_loadE iTy_ok (.own 1) hy26) ?_
            refine s_lt (Lt.to t_cmp (congrArg Value.bool (decide_eq_false (by have := get_lt (alive_asc l R) hy26 hy24 (by omega); omega) : (decide (y23 ≤ y25)) = false))) ?_
            refine s_lt (t_pure (.bool false)) ?_
            refine s_lt (t_pure (.bool false)) ?_
            refine s_lt (t_loadA 2 #[ov, rv]) ?_
            refine s_lt (t_pure v3) ?_
            refine s_lt (t_pure (.int .i64 (j : Int))) ?_
            refine s_lt (t_index iTy_ok Try.underlying23 (.own 1) (j : Int) j (by omega) (by (try simp only [List.length_nil, List.length_cons, List.length_append, List.length_take, List.length_drop, List.length_set, List.length_replicate, List.length_reverse, bits_len]); omega) (by omega)) ?_
            refine s_lt (t_loadE iTy_ok (.own 1) hy24) ?_
            refine s_vcall (fun _ h => find2_s (hg.up h) hs (by omega) y23) ?_
            rintro _ rfl
            obtain ⟨ix27, hf28⟩ := find_must hs (alive_is hc (List.mem_of_getElem? hy24)); rw [hf28]
            refine s_lt (Lt.to t_cmp (congrArg Value.bool (decide_eq_false (by omega) : (decide ((ix27 : Int) < 0)) = false))) ?_
            refine s_lt (t_pure (.bool false)) ?_
            refine s_lt (t_pure (.bool false)) ?_
            refine s_lt (t_pure v5) ?_
            refine s_lt (t_pure v3) ?_
            refine s_lt (t_pure (.int .i64 (j : Int))) ?_
            refine s_lt (t_index iTy_ok Try.underlying23 (.own 1) (j : Int) j (by omega) (by (try simp only [List.length_nil, List.length_cons, List.length_append, List.length_take, List.length_drop, List.length_set, List.length_replicate, List.length_reverse, bits_len]); omega) (by omega)) ?_
            refine s_lt (t_loadE iTy_ok (.own 1) hy24) ?_
            refine s_vcall (fun _ h => in_s y23 (Acc.kn (.own 0) h) (reachL_asc l R) (by omega)) ?_
            rintro u30 e29
            obtain rfl : u30 = .bool true := e29.trans (congrArg Value.bool (decide_eq_true (alive_reach hc (List.mem_of_getElem? hy24))))
            refine s_lt (t_pure (.bool false)) ?_
            refine s_lt (t_pure (.bool false)) ?_
            refine s_nil ?_
            refine x_dynS (fun _ h => by kernel_rfl) ?_
            refine xs_then ?_
            refine k_false ?_
            refine k_skip ?_
            refine xs_block ?_
            refine xs_then ?_
            refine k_reg ?_
            refine s_lt (t_pure (.int .i64 (j : Int))) ?_
            refine s_lt (t_add (j : Int) 1 (by (try simp only [List.length_nil, List.length_cons, List.length_append, List.length_take, List.length_drop, List.length_set, List.length_replicate, List.length_reverse, bits_len]); omega)) ?_
            refine s_lt (t_pure (.int .i64 ((j : Int) + 1))) ?_
            refine s_nil ?_
            exact xs_round (j + 1) (by show (aliveR l R).length - (j + 1) < (aliveR l R).length - j; omega) (by omega) (sub_of rfl ⟨⟨rfl, rfl⟩, ⟨⟨rfl, rfl⟩, ⟨⟨rfl, rfl⟩, ⟨⟨rfl, rfl⟩, ⟨⟨rfl, rfl⟩, ⟨⟨rfl, rfl⟩, trivial⟩⟩⟩⟩⟩⟩) (fun _ h => h.re [0, 0, 0] [])
          ·
            have p31 := of_decide_eq_false c21
            refine s_skip ?_
            refine s_skip ?_
            refine s_skip ?_
            refine s_skip ?_
            refine s_skip ?_
            refine s_skip ?_
            refine s_skip ?_
            refine s_skip ?_
            refine s_skip ?_
            refine s_skip ?_
            refine s_lt (t_pure (.bool false)) ?_
            refine s_lt (t_pure (.bool false)) ?_
            refine s_lt (t_loadA 2 #[ov, rv]) ?_
            refine s_lt (t_pure v3) ?_
            refine s_lt (t_pure (.int .i64 (j : Int))) ?_
            refine s_lt (t_index iTy_ok Try.underlying23 (.own 1) (j : Int) j (by omega) (by (try simp only [List.length_nil, List.length_cons, List.length_append, List.length_take, List.length_drop, List.length_set, List.length_replicate, List.length_reverse, bits_len]); omega) (by omega)) ?_
            obtain ⟨y32, hy33⟩ : ∃ y, (aliveR l R)[j]? = some y := ⟨_, List.getElem?_eq_getElem (by (try simp only [List.length_nil, List.length_cons, List.length_append, List.length_take, List.length_drop, List.length_set, List.length_replicate, List.length_reverse, bits_len]); omega)⟩
            refine s_lt (t_loadE iTy_ok (.own 1) hy33) ?_
            refine s_vcall (fun _ h => find2_s (hg.up h) hs (by omega) y32) ?_
            rintro _ rfl
            obtain ⟨ix34, hf35⟩ := find_must hs (alive_is hc (List.mem_of_getElem? hy33)); rw [hf35]
            refine s_lt (Lt.to t_cmp (congrArg Value.bool (decide_eq_false (by omega) : (decide ((ix34 : Int) < 0)) = false))) ?_
            refine s_lt (t_pure (.bool false)) ?_
            refine s_lt (t_pure (.bool false)) ?_
            refine s_lt (t_pure v5) ?_
            refine s_lt (t_pure v3) ?_
            refine s_lt (t_pure (.int .i64 (j : Int))) ?_
            refine s_lt (t_index iTy_ok Try.underlying23 (.own 1) (j : Int) j (by omega) (by (try simp only [List.length_nil, List.length_cons, List.length_append, List.length_take, List.length_drop, List.length_set, List.length_replicate, List.length_reverse, bits_len]); omega) (by omega)) ?_
            refine s_lt (t_loadE iTy_ok (.own 1) hy33) ?_
            refine s_vcall (fun _ h => in_s y32 (Acc.kn (.own 0) h) (reachL_asc l R) (by omega)) ?_
            rintro u37 e36
            obtain rfl : u37 = .bool true := e36.trans (congrArg Value.bool (decide_eq_true (alive_reach hc (List.mem_of_getElem? hy33))))
            refine s_lt (t_pure (.bool false)) ?_
            refine s_lt (t_pure (.bool false)) ?_
            refine s_nil ?_
            refine x_dynS (fun _ h => by kernel_rfl) ?_
            refine xs_then ?_
            refine k_false ?_
            refine k_skip ?_
            refine xs_block ?_
            refine xs_then ?_
            refine k_reg ?_
            refine s_lt (t_pure (.int .i64 (j : Int))) ?_
            refine s_lt (t_add (j : Int) 1 (by (try simp only [List.length_nil, List.length_cons, List.length_append, List.length_take, List.length_drop, List.length_set, List.length_replicate, List.length_reverse, bits_len]); omega)) ?_
            refine s_lt (t_pure (.int .i64 ((j : Int) + 1))) ?_
            refine s_nil ?_
            exact xs_round (j + 1) (by show (aliveR l R).length - (j + 1) < (aliveR l R).length - j; omega) (by omega) (sub_of rfl ⟨⟨rfl, rfl⟩, ⟨⟨rfl, rfl⟩, ⟨⟨rfl, rfl⟩, ⟨⟨rfl, rfl⟩, ⟨⟨rfl, rfl⟩, ⟨⟨rfl, rfl⟩, trivial⟩⟩⟩⟩⟩⟩) (fun _ h => h.re [0, 0, 0] [])
        ·
          have p38 := of_decide_eq_false c19
          refine k_exit ?_
          refine xs_exit ?_
          refine xs_exit ?_
          refine xs_here ?_
          refine xs_then ?_
          refine k_seq ?_
          refine k_reg ?_
          refine s_lt (t_loadA 2 #[ov, rv]) ?_
          refine s_lt (t_pure v3) ?_
          refine s_vcall (fun _ h => closed_s (hg.up h) (Acc.kn (.own 1) h) (alive_asc l R) (by omega) hs (by omega) (alive_in hc)) ?_
          rintro _ rfl
          refine s_lt (t_pure (.bool true)) ?_
          refine s_lt (t_pure (.bool fr)) ?_
          refine s_lt (t_pure (.bool (!fr))) ?_
          refine s_lt (t_pure (.bool (!fr))) ?_
          refine s_fork 107 (!fr) (fun c39 => ?_) (fun c39 => ?_)
          ·
            have c40 := not_t c39
            refine s_skip ?_
            refine s_skip ?_
            refine s_skip ?_
            refine s_lt (t_pure (.bool true)) ?_
            refine s_lt (t_pure (.bool true)) ?_
            refine s_lt (t_pure (.bool true)) ?_
            refine s_vcall (fun _ h => awake_s) ?_
            rintro _ rfl
            refine s_lt (t_pure (.bool true)) ?_
            refine s_lt (t_pure (.bool true)) ?_
            refine s_nil ?_
            refine xs_then ?_
            refine k_ret ?_
            exact xs_fin [.bool true] [] (SI.tmp 2 SI.nil) (fun _ h => h.re [] [0, 0, 0]) ⟨rfl, rfl⟩
          ·
            have c41 := not_f c39
            refine s_lt (t_pure v3) ?_
            refine s_lt (t_pure v5) ?_
            refine s_vcall (fun _ h => ints_s (Acc.kn (.own 1) h) (Acc.kn (.own 0) h)) ?_
            rintro u43 e42
            obtain rfl : u43 = .bool true := e42.trans (congrArg Value.bool (decide_eq_true (strong_reach hc (hstr c41))))
            refine s_lt (t_pure (.bool true)) ?_
            refine s_lt (t_pure (.bool true)) ?_
            refine s_lt (t_pure (.bool true)) ?_
            refine s_vcall (fun _ h => awake_s) ?_
            rintro _ rfl
            refine s_lt (t_pure (.bool true)) ?_
            refine s_lt (t_pure (.bool true)) ?_
            refine s_nil ?_
            refine xs_then ?_
            refine k_ret ?_
            exact xs_fin [.bool true] [] (SI.tmp 2 SI.nil) (fun _ h => h.re [] [0, 0, 0]) ⟨rfl, rfl⟩
end Go.Proofs.Ytjdlkemmcnncaaa
