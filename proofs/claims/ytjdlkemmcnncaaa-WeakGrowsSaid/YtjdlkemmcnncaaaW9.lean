/-
  WeakGrows, WeakAgain and WeakEntries walked. No condition but that the arguments are what the types say.
-/
import Derived.Test.YtjdlkemmcnncaaaW8
import Derived.Test.YtjdlkemmcnncaaaL5
set_option linter.unusedSimpArgs false
set_option linter.unusedVariables false
set_option maxRecDepth 100000
set_option maxHeartbeats 2000000
namespace Go.Proofs.Ytjdlkemmcnncaaa
open Go.Hp Go.J Go.S
open Go.Mem (Ty KTy blk elemAt pre suf blk_pre blk_suf aget aset strK aggDesc)
theorem grows_w {Z : Zone} {ov rv : Value} {l : List Ob} {R : List Int} (hg : KnG Z ov rv l R) {mv : Value} {N : List Int} (hN : Kn Z iTy mv N) : SF Try.prog 9 #[.agg #[ov, rv], mv] Z [] fun r Bs => r = .bool true ∧ Bs = [] := by
  refine sf_enter Try.func9 82 [(0, .agg #[ov, rv]), (1, mv)] (fun w0 => ?_)
  refine k_fact (fun H h => (hg.obs.get h).form) (fun hfo => ?_)
  refine k_fact (fun H h => (hg.roots.get h).form) (fun hfr => ?_)
  refine k_seq ?_
  refine k_reg ?_
  refine s_box #[ov, rv] (fun g1 => ?_)
  refine s_lt (t_pure (.bool false)) ?_
  refine s_nil ?_
  refine xs_then ?_
  refine k_seq ?_
  refine k_cut (ι := Unit) (fun _ => True) (fun _ => [(1, mv), (2, .pointer (some ⟨g1, 0, none⟩)), (4, .bool false), (18, .bool ((largeB l R) || (decide ((100 : Int) < (N.length : Int)))))]) (fun _ => [blkA g1 #[ov, rv] 25]) ?_ (fun _ _ => ?_)
  ·
    refine k_reg ?_
    refine s_lt (t_loadA 0 #[ov, rv]) ?_
    refine s_vcall (fun _ h => large_s (hg.up h)) ?_
    rintro _ rfl
    refine s_lt (t_pure (.bool (largeB l R))) ?_
    refine s_fork 14 (largeB l R) (fun c2 => ?_) (fun c2 => ?_)
    ·
      refine s_skip ?_
      refine s_skip ?_
      refine s_skip ?_
      refine s_lt (t_pure (.bool true)) ?_
      refine s_nil ?_
      exact xs_cut () trivial (sub_of rfl ⟨⟨rfl, rfl⟩, ⟨⟨rfl, rfl⟩, ⟨⟨rfl, rfl⟩, ⟨⟨rfl, show Value.bool true = Value.bool ((largeB l R) || (decide ((100 : Int) < (N.length : Int)))) by first | (simp only [c2, Bool.true_and, Bool.false_and, Bool.and_true, Bool.and_false, Bool.true_or, Bool.or_true, Bool.false_or, Bool.or_false, Bool.not_true, Bool.not_false]; done) | simp [c2]⟩, trivial⟩⟩⟩⟩) (fun _ h => h.re [0] [])
    ·
      obtain ⟨hl0, hr0, hsm⟩ := small_of c2
      have hp0 := pot_le l hsm []
      have hp : pot l [] ≤ 1000000 := by omega
      have hl : l.length ≤ 100000 := by omega
      have hr : R.length ≤ 100000 := by omega
      refine s_lt (t_pure mv) ?_
      refine s_lt (t_len iTy_ok Try.underlying23 (.zn hN)) ?_
      refine s_lt t_cmp ?_
      refine s_lt (t_pure (.bool (decide ((100 : Int) < (N.length : Int))))) ?_
      refine s_nil ?_
      exact xs_cut () trivial (sub_of rfl ⟨⟨rfl, rfl⟩, ⟨⟨rfl, rfl⟩, ⟨⟨rfl, rfl⟩, ⟨⟨rfl, show Value.bool (decide ((100 : Int) < (N.length : Int))) = Value.bool ((largeB l R) || (decide ((100 : Int) < (N.length : Int)))) by first | (simp only [c2, Bool.true_and, Bool.false_and, Bool.and_true, Bool.and_false, Bool.true_or, Bool.or_true, Bool.false_or, Bool.or_false, Bool.not_true, Bool.not_false]; done) | simp [c2]⟩, trivial⟩⟩⟩⟩) (fun _ h => h.re [0] [])
  ·
    refine k_cond ((largeB l R) || (decide ((100 : Int) < (N.length : Int)))) (fun c3 => ?_) (fun c3 => ?_)
    ·
      have p4 := c3
      simp only [Bool.and_eq_true, Bool.or_eq_true, Bool.and_eq_false_iff, Bool.or_eq_false_iff, Bool.not_eq_true', Bool.not_eq_false', decide_eq_true_eq, decide_eq_false_iff_not] at p4
      refine k_seq ?_
      refine k_reg ?_
      refine s_vcall (fun _ h => awake_s) ?_
      rintro _ rfl
      refine s_lt (t_pure (.bool true)) ?_
      refine s_nil ?_
      refine xs_then ?_
      refine k_ret ?_
      refine xs_ret ?_
      exact xs_fin [.bool true] [] (SI.tmp 4 SI.nil) (fun _ h => h.re [] [0]) ⟨rfl, rfl⟩
    ·
      obtain ⟨c5, c6⟩ := or_f c3
      obtain ⟨hl0, hr0, hsm⟩ := small_of c5
      have hp0 := pot_le l hsm []
      have hp : pot l [] ≤ 1000000 := by omega
      have hl : l.length ≤ 100000 := by omega
      have hr : R.length ≤ 100000 := by omega
      have p7 := of_decide_eq_false c6
      refine k_skip ?_
      refine xs_then ?_
      refine k_seq ?_
      refine k_held [blkA g1 #[ov, rv] 25] ?_
      refine h_lt 0 rfl (np_then np_finS) [0] (fun _ => (t_pure (.pointer (some ⟨g1, 0, none⟩)))) ?_
      refine h_lt 1 rfl (np_then np_finS) [0] (fun _ => (t_load 0 ov)) ?_
      refine h_lt 3 rfl (np_then np_finS) [0] (fun _ => (t_pure (.pointer (some ⟨g1, 1, none⟩)))) ?_
      refine h_lt 4 rfl (np_then np_finS) [0] (fun _ => (t_load 0 rv)) ?_
      refine h_lt 6 rfl (np_then np_finS) [0] (fun _ => (t_pure mv)) ?_
      refine h_stepS2 2 9 ?_ ?_
      ·
        refine s_buildSlice (e := 3) [] #[] (fun g8 => ?_) (hb := by kernel_rfl)
        refine s_nil (xs_held [1] ?_)
        refine h_stepS2 5 9 ?_ ?_
        ·
          refine s_mem (fun _ h => Holds.slice 0 h iTy_ok []) ?_
          refine s_append (L := []) 0 iTy_ok Try.underlying23 (.zn hg.roots) (by show _ * 8 ≤ _; (try simp only [List.length_nil, List.length_cons, List.length_append, List.length_take, List.length_drop, List.length_set, List.length_replicate, List.length_reverse, bits_len]); omega) (by (try simp only [List.length_nil, List.length_cons, List.length_append, List.length_take, List.length_drop, List.length_set, List.length_replicate, List.length_reverse, bits_len]); omega) (fun v9 => ?_)
          rw [List.nil_append]
          refine s_fact (fun H h => ((Acc.own (T := iTy) (L := R) 0 rfl) H h).form) (fun hf10 => ?_)
          refine s_nil (xs_held [1] ?_)
          refine h_stepS2 7 9 ?_ ?_
          ·
            refine s_append (L := R) 0 iTy_ok Try.underlying23 (.zn hN) (by show _ * 8 ≤ _; (try simp only [List.length_nil, List.length_cons, List.length_append, List.length_take, List.length_drop, List.length_set, List.length_replicate, List.length_reverse, bits_len]); omega) (by (try simp only [List.length_nil, List.length_cons, List.length_append, List.length_take, List.length_drop, List.length_set, List.length_replicate, List.length_reverse, bits_len]); omega) (fun v11 => ?_)
            refine s_fact (fun H h => ((Acc.own (T := iTy) (L := (R ++ N)) 0 rfl) H h).form) (fun hf12 => ?_)
            refine s_nil (xs_held [1] ?_)
            refine h_lt 8 rfl (np_then np_finS) [1] (fun _ => (show Lt _ _ _ _ _ (.agg #[ov, v11]) from by obtain ⟨_, _, e⟩ := hfo; rw [e]; clear e; obtain ⟨_, _, e⟩ := hf12; rw [e]; clear e; exact t_kern _)) ?_
            refine h_stepS 9 ?_
            refine s_alloc (.agg #[(.slice none 0 0), (.slice none 0 0)]) #[(.slice none 0 0), (.slice none 0 0)] (fun g13 => ?_)
            refine s_nil (xs_held [2] ?_)
            refine h_stepS 10 ?_
            refine s_store (u := .agg #[ov, v11]) (m := 2) 0 #[ov, v11] ?_ (hm := by (obtain ⟨_, _, e0⟩ := hfo; obtain ⟨_, _, e1⟩ := hf12; rw [e0, e1]; rfl)) (h1 := by (obtain ⟨_, _, e0⟩ := hfo; obtain ⟨_, _, e1⟩ := hf12; rw [e0, e1]; rfl)) (ha' := by (obtain ⟨_, _, e0⟩ := hfo; obtain ⟨_, _, e1⟩ := hf12; rw [e0, e1]; rfl))
            refine s_nil (xs_held [2] ?_)
            refine h_doneS ?_
            refine xs_then ?_
            refine k_seq ?_
            refine k_reg ?_
            refine s_lt (t_loadA 2 #[ov, rv]) ?_
            refine s_pcall (fun _ h => Alive_s (hg.up h) hl hp) ?_
            rintro _ _ ⟨v14, rfl, rfl⟩
            rw [alive_eq]
            refine s_fact (fun H h => ((Acc.own (T := iTy) (L := (aliveR l R)) 0 rfl) H h).form) (fun hf15 => ?_)
            refine s_lt (t_pure (.tuple #[v14, .int .i64 (errI (chk 0 l))])) ?_
            refine s_lt (t_pure v14) ?_
            refine s_lt (t_pure (.int .i64 (errI (chk 0 l)))) ?_
            refine s_lt (t_pure v14) ?_
            refine s_lt (t_pure (.int .i64 (errI (chk 0 l)))) ?_
            refine s_nil ?_
            refine xs_then ?_
            refine k_seq ?_
            refine k_reg ?_
            refine s_lt (t_loadA 1 #[ov, v11]) ?_
            refine s_pcall (fun _ h => Alive_s (show KnG _ _ _ l (R ++ N) from ⟨(hg.up h).obs, h.knS 2, (hg.up h).each⟩) hl hp) ?_
            rintro _ _ ⟨v16, rfl, rfl⟩
            rw [alive_eq]
            refine s_fact (fun H h => ((Acc.own (T := iTy) (L := (aliveR l (R ++ N))) 0 rfl) H h).form) (fun hf17 => ?_)
            refine s_lt (t_pure (.tuple #[v16, .int .i64 (errI (chk 0 l))])) ?_
            refine s_lt (t_pure v16) ?_
            refine s_lt (t_pure (.int .i64 (errI (chk 0 l)))) ?_
            refine s_lt (t_pure v16) ?_
            refine s_lt (t_pure (.int .i64 (errI (chk 0 l)))) ?_
            refine s_nil ?_
            refine xs_then ?_
            refine k_seq ?_
            refine k_seq ?_
            refine k_reg ?_
            refine s_lt (t_pure (.int .i64 (errI (chk 0 l)))) ?_
            refine s_lt (t_pure (.int .i64 (errI (chk 0 l)))) ?_
            refine s_lt (Lt.to t_cmp (congrArg Value.bool (decide_eq_false (fun h => h rfl) : (decide ((errI (chk 0 l)) ≠ (errI (chk 0 l)))) = false))) ?_
            refine s_nil ?_
            refine xs_then ?_
            refine k_false ?_
            refine k_skip ?_
            refine xs_then ?_
            refine k_seq ?_
            refine k_seq ?_
            refine k_reg ?_
            refine s_lt (t_pure (.int .i64 0)) ?_
            refine s_nil ?_
            refine xs_then ?_
            refine k_block ?_
            refine k_loop (ι := Nat) (fun i => i ≤ (aliveR l R).length) (fun i => [(1, mv), (2, .pointer (some ⟨g1, 0, none⟩)), (4, .bool false), (6, v14), (7, .int .i64 (errI (chk 0 l))), (8, v16), (10, .int .i64 (i : Int))]) (fun i => [own iTy v16 (aliveR l (R ++ N)), own iTy v14 (aliveR l R), blkA g13 #[ov, v11] 25, own iTy v11 (R ++ N), blkA g1 #[ov, rv] 25]) (fun i => (aliveR l R).length - i) 0 (Nat.zero_le _) (sub_of rfl ⟨⟨rfl, rfl⟩, ⟨⟨rfl, rfl⟩, ⟨⟨rfl, rfl⟩, ⟨⟨rfl, rfl⟩, ⟨⟨rfl, rfl⟩, ⟨⟨rfl, rfl⟩, ⟨⟨rfl, rfl⟩, trivial⟩⟩⟩⟩⟩⟩⟩) (fun _ h => h.re [0, 0, 0, 0, 0] []) ?_
            rintro i hi18
            show SK _ _ _ _ _ [(1, mv), (2, .pointer (some ⟨g1, 0, none⟩)), (4, .bool false), (6, v14), (7, .int .i64 (errI (chk 0 l))), (8, v16), (10, .int .i64 (i : Int))] _ [own iTy v16 (aliveR l (R ++ N)), own iTy v14 (aliveR l R), blkA g13 #[ov, v11] 25, own iTy v11 (R ++ N), blkA g1 #[ov, rv] 25]
            have hal := alive_len l R
            refine k_seq ?_
            refine k_seq ?_
            refine k_reg ?_
            refine s_lt (t_pure (.int .i64 (i : Int))) ?_
            refine s_lt (t_pure v14) ?_
            refine s_lt (t_len iTy_ok Try.underlying23 (.own 1)) ?_
            refine s_lt t_cmp ?_
            refine s_nil ?_
            refine xs_then ?_
            refine k_cond (decide ((i : Int) < ((aliveR l R).length : Int))) (fun c19 => ?_) (fun c19 => ?_)
            ·
              have p20 := of_decide_eq_true c19
              refine k_skip ?_
              refine xs_then ?_
              refine k_seq ?_
              refine k_block ?_
              refine k_seq ?_
              refine k_reg ?_
              refine s_lt (t_pure v16) ?_
              refine s_lt (t_pure v14) ?_
              refine s_lt (t_pure (.int .i64 (i : Int))) ?_
              refine s_lt (t_index iTy_ok Try.underlying23 (.own 1) (i : Int) i (by omega) (by (try simp only [List.length_nil, List.length_cons, List.length_append, List.length_take, List.length_drop, List.length_set, List.length_replicate, List.length_reverse, bits_len]); omega) (by omega)) ?_
              obtain ⟨y21, hy22⟩ : ∃ y, (aliveR l R)[i]? = some y := ⟨_, List.getElem?_eq_getElem (by (try simp only [List.length_nil, List.length_cons, List.length_append, List.length_take, List.length_drop, List.length_set, List.length_replicate, List.length_reverse, bits_len]); omega)⟩
              refine s_lt (t_loadE iTy_ok (.own 1) hy22) ?_
              refine s_vcall (fun _ h => in_s y21 (Acc.kn (.own 0) h) (alive_asc _ _) (by have := alive_len l (R ++ N); omega)) ?_
              rintro u24 e23
              obtain rfl : u24 = .bool true := e23.trans (congrArg Value.bool (decide_eq_true (grows (List.mem_of_getElem? hy22))))
              refine s_lt (t_pure (.bool false)) ?_
              refine s_nil ?_
              refine xs_then ?_
              refine k_false ?_
              refine k_skip ?_
              refine xs_block ?_
              refine xs_then ?_
              refine k_reg ?_
              refine s_lt (t_pure (.int .i64 (i : Int))) ?_
              refine s_lt (t_add (i : Int) 1 (by (try simp only [List.length_nil, List.length_cons, List.length_append, List.length_take, List.length_drop, List.length_set, List.length_replicate, List.length_reverse, bits_len]); omega)) ?_
              refine s_lt (t_pure (.int .i64 ((i : Int) + 1))) ?_
              refine s_nil ?_
              exact xs_round (i + 1) (by omega) (by show i + 1 ≤ (aliveR l R).length; omega) (sub_of rfl ⟨⟨rfl, rfl⟩, ⟨⟨rfl, rfl⟩, ⟨⟨rfl, rfl⟩, ⟨⟨rfl, rfl⟩, ⟨⟨rfl, rfl⟩, ⟨⟨rfl, rfl⟩, ⟨⟨rfl, rfl⟩, trivial⟩⟩⟩⟩⟩⟩⟩) (fun _ h => h.re [0, 0, 0, 0, 0] [])
            ·
              have p25 := of_decide_eq_false c19
              refine k_exit ?_
              refine xs_exit ?_
              refine xs_exit ?_
              refine xs_here ?_
              refine xs_then ?_
              refine k_seq ?_
              refine k_seq ?_
              refine k_reg ?_
              refine s_lt (t_pure (.int .i64 0)) ?_
              refine s_nil ?_
              refine xs_then ?_
              refine k_block ?_
              refine k_loop (ι := Nat) (fun j => j ≤ N.length) (fun j => [(1, mv), (2, .pointer (some ⟨g1, 0, none⟩)), (4, .bool false), (7, .int .i64 (errI (chk 0 l))), (8, v16), (11, .int .i64 (j : Int))]) (fun j => [own iTy v16 (aliveR l (R ++ N)), own iTy v14 (aliveR l R), blkA g13 #[ov, v11] 25, own iTy v11 (R ++ N), blkA g1 #[ov, rv] 25]) (fun j => N.length - j) 0 (Nat.zero_le _) (sub_of rfl ⟨⟨rfl, rfl⟩, ⟨⟨rfl, rfl⟩, ⟨⟨rfl, rfl⟩, ⟨⟨rfl, rfl⟩, ⟨⟨rfl, rfl⟩, ⟨⟨rfl, rfl⟩, trivial⟩⟩⟩⟩⟩⟩) (fun _ h => h.re [0, 0, 0, 0, 0] []) ?_
              rintro j hi26
              show SK _ _ _ _ _ [(1, mv), (2, .pointer (some ⟨g1, 0, none⟩)), (4, .bool false), (7, .int .i64 (errI (chk 0 l))), (8, v16), (11, .int .i64 (j : Int))] _ [own iTy v16 (aliveR l (R ++ N)), own iTy v14 (aliveR l R), blkA g13 #[ov, v11] 25, own iTy v11 (R ++ N), blkA g1 #[ov, rv] 25]
              refine k_seq ?_
              refine k_cut (ι := Unit) (fun _ => True) (fun _ => [(1, mv), (2, .pointer (some ⟨g1, 0, none⟩)), (4, .bool false), (7, .int .i64 (errI (chk 0 l))), (8, v16), (11, .int .i64 (j : Int)), (55, .int .i64 (j : Int)), (56, mv), (57, .int .i64 (N.length : Int)), (58, .bool (decide ((j : Int) < (N.length : Int)))), (59, .bool (decide ((j : Int) < (N.length : Int)))), (62, .bool ((decide ((j : Int) < (N.length : Int))) && (decide ((errI (chk 0 l)) = 0))))]) (fun _ => [own iTy v16 (aliveR l (R ++ N)), own iTy v14 (aliveR l R), blkA g13 #[ov, v11] 25, own iTy v11 (R ++ N), blkA g1 #[ov, rv] 25]) ?_ (fun _ _ => ?_)
              ·
                refine k_reg ?_
                refine s_lt (t_pure (.int .i64 (j : Int))) ?_
                refine s_lt (t_pure mv) ?_
                refine s_lt (t_len iTy_ok Try.underlying23 (.zn hN)) ?_
                refine s_lt t_cmp ?_
                refine s_lt (t_pure (.bool (decide ((j : Int) < (N.length : Int))))) ?_
                refine s_fork 59 (decide ((j : Int) < (N.length : Int))) (fun c27 => ?_) (fun c27 => ?_)
                ·
                  have p28 := of_decide_eq_true c27
                  refine s_lt (t_pure (.int .i64 (errI (chk 0 l)))) ?_
                  refine s_lt t_cmp ?_
                  refine s_lt (t_pure (.bool (decide ((errI (chk 0 l)) = 0)))) ?_
                  refine s_nil ?_
                  exact xs_cut () trivial (sub_of rfl ⟨⟨rfl, rfl⟩, ⟨⟨rfl, rfl⟩, ⟨⟨rfl, rfl⟩, ⟨⟨rfl, rfl⟩, ⟨⟨rfl, rfl⟩, ⟨⟨rfl, rfl⟩, ⟨⟨rfl, rfl⟩, ⟨⟨rfl, rfl⟩, ⟨⟨rfl, rfl⟩, ⟨⟨rfl, rfl⟩, ⟨⟨rfl, show Value.bool true = Value.bool (decide ((j : Int) < (N.length : Int))) by first | (simp only [c27, Bool.true_and, Bool.false_and, Bool.and_true, Bool.and_false, Bool.true_or, Bool.or_true, Bool.false_or, Bool.or_false, Bool.not_true, Bool.not_false]; done) | simp [c27]⟩, ⟨⟨rfl, show Value.bool (decide ((errI (chk 0 l)) = 0)) = Value.bool ((decide ((j : Int) < (N.length : Int))) && (decide ((errI (chk 0 l)) = 0))) by first | (simp only [c27, Bool.true_and, Bool.false_and, Bool.and_true, Bool.and_false, Bool.true_or, Bool.or_true, Bool.false_or, Bool.or_false, Bool.not_true, Bool.not_false]; done) | simp [c27]⟩, trivial⟩⟩⟩⟩⟩⟩⟩⟩⟩⟩⟩⟩) (fun _ h => h.re [0, 0, 0, 0, 0] [])
                ·
                  have p29 := of_decide_eq_false c27
                  refine s_skip ?_
                  refine s_skip ?_
                  refine s_lt (t_pure (.bool false)) ?_
                  refine s_nil ?_
                  exact xs_cut () trivial (sub_of rfl ⟨⟨rfl, rfl⟩, ⟨⟨rfl, rfl⟩, ⟨⟨rfl, rfl⟩, ⟨⟨rfl, rfl⟩, ⟨⟨rfl, rfl⟩, ⟨⟨rfl, rfl⟩, ⟨⟨rfl, rfl⟩, ⟨⟨rfl, rfl⟩, ⟨⟨rfl, rfl⟩, ⟨⟨rfl, rfl⟩, ⟨⟨rfl, show Value.bool false = Value.bool (decide ((j : Int) < (N.length : Int))) by first | (simp only [c27, Bool.true_and, Bool.false_and, Bool.and_true, Bool.and_false, Bool.true_or, Bool.or_true, Bool.false_or, Bool.or_false, Bool.not_true, Bool.not_false]; done) | simp [c27]⟩, ⟨⟨rfl, show Value.bool false = Value.bool ((decide ((j : Int) < (N.length : Int))) && (decide ((errI (chk 0 l)) = 0))) by first | (simp only [c27, Bool.true_and, Bool.false_and, Bool.and_true, Bool.and_false, Bool.true_or, Bool.or_true, Bool.false_or, Bool.or_false, Bool.not_true, Bool.not_false]; done) | simp [c27]⟩, trivial⟩⟩⟩⟩⟩⟩⟩⟩⟩⟩⟩⟩) (fun _ h => h.re [0, 0, 0, 0, 0] [])
              ·
                refine k_cond ((decide ((j : Int) < (N.length : Int))) && (decide ((errI (chk 0 l)) = 0))) (fun c30 => ?_) (fun c30 => ?_)
                ·
                  obtain ⟨c31, c32⟩ := and_t c30
                  have p33 := of_decide_eq_true c31
                  have p34 := of_decide_eq_true c32
                  have hc := errI_ok p34; have hs := chk_asc hc
                  refine k_skip ?_
                  refine xs_then ?_
                  refine k_seq ?_
                  refine k_block ?_
                  refine k_seq ?_
                  refine k_draw ?_
                  refine s_lt (t_loadA 4 #[ov, rv]) ?_
                  refine s_lt (t_pure mv) ?_
                  refine s_lt (t_pure (.int .i64 (j : Int))) ?_
                  refine s_lt (t_index iTy_ok Try.underlying23 (.zn hN) (j : Int) j (by omega) (by (try simp only [List.length_nil, List.length_cons, List.length_append, List.length_take, List.length_drop, List.length_set, List.length_replicate, List.length_reverse, bits_len]); omega) (by omega)) ?_
                  obtain ⟨y35, hy36⟩ : ∃ y, N[j]? = some y := ⟨_, List.getElem?_eq_getElem (by (try simp only [List.length_nil, List.length_cons, List.length_append, List.length_take, List.length_drop, List.length_set, List.length_replicate, List.length_reverse, bits_len]); omega)⟩
                  refine s_lt (t_loadE iTy_ok (.zn hN) hy36) ?_
                  refine s_vcall (fun _ h => find2_s (hg.up h) hs (by omega) y35) ?_
                  rintro _ rfl
                  rcases find_cases hs y35 with ⟨hf39, he43⟩ | ⟨ix37, ob38, hx40, hid41, hf42, he43⟩
                  ·
                    rw [he43]
                    refine s_lt (t_cmp (c := false)) ?_
                    refine s_lt (t_pure (.bool false)) ?_
                    refine s_skip ?_
                    refine s_skip ?_
                    refine s_skip ?_
                    refine s_skip ?_
                    refine s_skip ?_
                    refine s_skip ?_
                    refine s_skip ?_
                    refine s_lt (t_pure (.bool false)) ?_
                    refine s_nil ?_
                    refine x_dynS (fun _ h => by kernel_rfl) ?_
                    refine xs_then ?_
                    refine k_false ?_
                    refine k_skip ?_
                    refine xs_block ?_
                    refine xs_then ?_
                    refine k_reg ?_
                    refine s_lt (t_pure (.int .i64 (j : Int))) ?_
                    refine s_lt (t_add (j : Int) 1 (by (try simp only [List.length_nil, List.length_cons, List.length_append, List.length_take, List.length_drop, List.length_set, List.length_replicate, List.length_reverse, bits_len]); omega)) ?_
                    refine s_lt (t_pure (.int .i64 ((j : Int) + 1))) ?_
                    refine s_nil ?_
                    exact xs_round (j + 1) (by omega) (by show j + 1 ≤ N.length; omega) (sub_of rfl ⟨⟨rfl, rfl⟩, ⟨⟨rfl, rfl⟩, ⟨⟨rfl, rfl⟩, ⟨⟨rfl, rfl⟩, ⟨⟨rfl, rfl⟩, ⟨⟨rfl, rfl⟩, trivial⟩⟩⟩⟩⟩⟩) (fun _ h => h.re [0, 0, 0, 0, 0] [])
                  ·
                    rw [he43]
                    have hk44 := hg.each ob38 (List.mem_of_getElem? hx40)
                    have hlt45 : ix37 < l.length := (List.getElem?_eq_some_iff.1 hx40).1
                    refine s_lt (Lt.to t_cmp (congrArg Value.bool (decide_eq_true (by omega) : (decide ((0 : Int) ≤ (ix37 : Int))) = true))) ?_
                    refine s_lt (t_pure (.bool true)) ?_
                    refine s_lt (t_pure v16) ?_
                    refine s_lt (t_pure mv) ?_
                    refine s_lt (t_pure (.int .i64 (j : Int))) ?_
                    refine s_lt (t_index iTy_ok Try.underlying23 (.zn hN) (j : Int) j (by omega) (by (try simp only [List.length_nil, List.length_cons, List.length_append, List.length_take, List.length_drop, List.length_set, List.length_replicate, List.length_reverse, bits_len]); omega) (by omega)) ?_
                    refine s_lt (t_loadE iTy_ok (.zn hN) hy36) ?_
                    refine s_vcall (fun _ h => in_s y35 (Acc.kn (.own 0) h) (alive_asc _ _) (by have := alive_len l (R ++ N); omega)) ?_
                    rintro u47 e46
                    obtain rfl : u47 = .bool true := e46.trans (congrArg Value.bool (decide_eq_true (grows_root hc (List.mem_of_getElem? hy36) hf42)))
                    refine s_lt (t_pure (.bool false)) ?_
                    refine s_lt (t_pure (.bool false)) ?_
                    refine s_nil ?_
                    refine x_dynS (fun _ h => by kernel_rfl) ?_
                    refine xs_then ?_
                    refine k_false ?_
                    refine k_skip ?_
                    refine xs_block ?_
                    refine xs_then ?_
                    refine k_reg ?_
                    refine s_lt (t_pure (.int .i64 (j : Int))) ?_
                    refine s_lt (t_add (j : Int) 1 (by (try simp only [List.length_nil, List.length_cons, List.length_append, List.length_take, List.length_drop, List.length_set, List.length_replicate, List.length_reverse, bits_len]); omega)) ?_
                    refine s_lt (t_pure (.int .i64 ((j : Int) + 1))) ?_
                    refine s_nil ?_
                    exact xs_round (j + 1) (by omega) (by show j + 1 ≤ N.length; omega) (sub_of rfl ⟨⟨rfl, rfl⟩, ⟨⟨rfl, rfl⟩, ⟨⟨rfl, rfl⟩, ⟨⟨rfl, rfl⟩, ⟨⟨rfl, rfl⟩, ⟨⟨rfl, rfl⟩, trivial⟩⟩⟩⟩⟩⟩) (fun _ h => h.re [0, 0, 0, 0, 0] [])
                ·
                  have p48 := c30
                  simp only [Bool.and_eq_true, Bool.or_eq_true, Bool.and_eq_false_iff, Bool.or_eq_false_iff, Bool.not_eq_true', Bool.not_eq_false', decide_eq_true_eq, decide_eq_false_iff_not] at p48
                  refine k_exit ?_
                  refine xs_exit ?_
                  refine xs_exit ?_
                  refine xs_here ?_
                  refine xs_then ?_
                  refine k_seq ?_
                  refine k_reg ?_
                  refine s_vcall (fun _ h => awake_s) ?_
                  rintro _ rfl
                  refine s_lt (t_pure (.bool true)) ?_
                  refine s_nil ?_
                  refine xs_then ?_
                  refine k_ret ?_
                  exact xs_fin [.bool true] [] (SI.tmp 4 SI.nil) (fun _ h => h.re [] [0, 0, 0, 0, 0]) ⟨rfl, rfl⟩
          ·
            refine s_alloc (.agg #[(.slice none 0 0), (.slice none 0 0)]) #[(.slice none 0 0), (.slice none 0 0)] (fun g49 => ?_)
            refine s_nil (xs_held [2] ?_)
            refine h_stepS 7 ?_
            refine s_append (L := R) 1 iTy_ok Try.underlying23 (.zn hN) (by show _ * 8 ≤ _; (try simp only [List.length_nil, List.length_cons, List.length_append, List.length_take, List.length_drop, List.length_set, List.length_replicate, List.length_reverse, bits_len]); omega) (by (try simp only [List.length_nil, List.length_cons, List.length_append, List.length_take, List.length_drop, List.length_set, List.length_replicate, List.length_reverse, bits_len]); omega) (fun v50 => ?_)
            refine s_fact (fun H h => ((Acc.own (T := iTy) (L := (R ++ N)) 1 rfl) H h).form) (fun hf51 => ?_)
            refine s_nil (xs_held [2] ?_)
            refine h_lt 8 rfl (np_then np_finS) [2] (fun _ => (show Lt _ _ _ _ _ (.agg #[ov, v50]) from by obtain ⟨_, _, e⟩ := hfo; rw [e]; clear e; obtain ⟨_, _, e⟩ := hf51; rw [e]; clear e; exact t_kern _)) ?_
            refine h_stepS 10 ?_
            refine s_store (u := .agg #[ov, v50]) (m := 2) 0 #[ov, v50] ?_ (hm := by (obtain ⟨_, _, e0⟩ := hfo; obtain ⟨_, _, e1⟩ := hf51; rw [e0, e1]; rfl)) (h1 := by (obtain ⟨_, _, e0⟩ := hfo; obtain ⟨_, _, e1⟩ := hf51; rw [e0, e1]; rfl)) (ha' := by (obtain ⟨_, _, e0⟩ := hfo; obtain ⟨_, _, e1⟩ := hf51; rw [e0, e1]; rfl))
            refine s_nil (xs_held [2] ?_)
            refine h_doneS ?_
            refine xs_then ?_
            refine k_seq ?_
            refine k_reg ?_
            refine s_lt (t_loadA 2 #[ov, rv]) ?_
            refine s_pcall (fun _ h => Alive_s (hg.up h) hl hp) ?_
            rintro _ _ ⟨v52, rfl, rfl⟩
            rw [alive_eq]
            refine s_fact (fun H h => ((Acc.own (T := iTy) (L := (aliveR l R)) 0 rfl) H h).form) (fun hf53 => ?_)
            refine s_lt (t_pure (.tuple #[v52, .int .i64 (errI (chk 0 l))])) ?_
            refine s_lt (t_pure v52) ?_
            refine s_lt (t_pure (.int .i64 (errI (chk 0 l)))) ?_
            refine s_lt (t_pure v52) ?_
            refine s_lt (t_pure (.int .i64 (errI (chk 0 l)))) ?_
            refine s_nil ?_
            refine xs_then ?_
            refine k_seq ?_
            refine k_reg ?_
            refine s_lt (t_loadA 1 #[ov, v50]) ?_
            refine s_pcall (fun _ h => Alive_s (show KnG _ _ _ l (R ++ N) from ⟨(hg.up h).obs, h.knS 2, (hg.up h).each⟩) hl hp) ?_
            rintro _ _ ⟨v54, rfl, rfl⟩
            rw [alive_eq]
            refine s_fact (fun H h => ((Acc.own (T := iTy) (L := (aliveR l (R ++ N))) 0 rfl) H h).form) (fun hf55 => ?_)
            refine s_lt (t_pure (.tuple #[v54, .int .i64 (errI (chk 0 l))])) ?_
            refine s_lt (t_pure v54) ?_
            refine s_lt (t_pure (.int .i64 (errI (chk 0 l)))) ?_
            refine s_lt (t_pure v54) ?_
            refine s_lt (t_pure (.int .i64 (errI (chk 0 l)))) ?_
            refine s_nil ?_
            refine xs_then ?_
            refine k_seq ?_
            refine k_seq ?_
            refine k_reg ?_
            refine s_lt (t_pure (.int .i64 (errI (chk 0 l)))) ?_
            refine s_lt (t_pure (.int .i64 (errI (chk 0 l)))) ?_
            refine s_lt (Lt.to t_cmp (congrArg Value.bool (decide_eq_false (fun h => h rfl) : (decide ((errI (chk 0 l)) ≠ (errI (chk 0 l)))) = false))) ?_
            refine s_nil ?_
            refine xs_then ?_
            refine k_false ?_
            refine k_skip ?_
            refine xs_then ?_
            refine k_seq ?_
            refine k_seq ?_
            refine k_reg ?_
            refine s_lt (t_pure (.int .i64 0)) ?_
            refine s_nil ?_
            refine xs_then ?_
            refine k_block ?_
            refine k_loop (ι := Nat) (fun i => i ≤ (aliveR l R).length) (fun i => [(1, mv), (2, .pointer (some ⟨g1, 0, none⟩)), (4, .bool false), (6, v52), (7, .int .i64 (errI (chk 0 l))), (8, v54), (10, .int .i64 (i : Int))]) (fun i => [own iTy v54 (aliveR l (R ++ N)), own iTy v52 (aliveR l R), blkA g49 #[ov, v50] 25, own iTy v50 (R ++ N), blkA g1 #[ov, rv] 25]) (fun i => (aliveR l R).length - i) 0 (Nat.zero_le _) (sub_of rfl ⟨⟨rfl, rfl⟩, ⟨⟨rfl, rfl⟩, ⟨⟨rfl, rfl⟩, ⟨⟨rfl, rfl⟩, ⟨⟨rfl, rfl⟩, ⟨⟨rfl, rfl⟩, ⟨⟨rfl, rfl⟩, trivial⟩⟩⟩⟩⟩⟩⟩) (fun _ h => h.re [0, 0, 0, 0, 0] []) ?_
            rintro i hi56
            show SK _ _ _ _ _ [(1, mv), (2, .pointer (some ⟨g1, 0, none⟩)), (4, .bool false), (6, v52), (7, .int .i64 (errI (chk 0 l))), (8, v54), (10, .int .i64 (i : Int))] _ [own iTy v54 (aliveR l (R ++ N)), own iTy v52 (aliveR l R), blkA g49 #[ov, v50] 25, own iTy v50 (R ++ N), blkA g1 #[ov, rv] 25]
            have hal := alive_len l R
            refine k_seq ?_
            refine k_seq ?_
            refine k_reg ?_
            refine s_lt (t_pure (.int .i64 (i : Int))) ?_
            refine s_lt (t_pure v52) ?_
            refine s_lt (t_len iTy_ok Try.underlying23 (.own 1)) ?_
            refine s_lt t_cmp ?_
            refine s_nil ?_
            refine xs_then ?_
            refine k_cond (decide ((i : Int) < ((aliveR l R).length : Int))) (fun c57 => ?_) (fun c57 => ?_)
            ·
              have p58 := of_decide_eq_true c57
              refine k_skip ?_
              refine xs_then ?_
              refine k_seq ?_
              refine k_block ?_
              refine k_seq ?_
              refine k_reg ?_
              refine s_lt (t_pure v54) ?_
              refine s_lt (t_pure v52) ?_
              refine s_lt (t_pure (.int .i64 (i : Int))) ?_
              refine s_lt (t_index iTy_ok Try.underlying23 (.own 1) (i : Int) i (by omega) (by (try simp only [List.length_nil, List.length_cons, List.length_append, List.length_take, List.length_drop, List.length_set, List.length_replicate, List.length_reverse, bits_len]); omega) (by omega)) ?_
              obtain ⟨y59, hy60⟩ : ∃ y, (aliveR l R)[i]? = some y := ⟨_, List.getElem?_eq_getElem (by (try simp only [List.length_nil, List.length_cons, List.length_append, List.length_take, List.length_drop, List.length_set, List.length_replicate, List.length_reverse, bits_len]); omega)⟩
              refine s_lt (t_loadE iTy_ok (.own 1) hy60) ?_
              refine s_vcall (fun _ h => in_s y59 (Acc.kn (.own 0) h) (alive_asc _ _) (by have := alive_len l (R ++ N); omega)) ?_
              rintro u62 e61
              obtain rfl : u62 = .bool true := e61.trans (congrArg Value.bool (decide_eq_true (grows (List.mem_of_getElem? hy60))))
              refine s_lt (t_pure (.bool false)) ?_
              refine s_nil ?_
              refine xs_then ?_
              refine k_false ?_
              refine k_skip ?_
              refine xs_block ?_
              refine xs_then ?_
              refine k_reg ?_
              refine s_lt (t_pure (.int .i64 (i : Int))) ?_
              refine s_lt (t_add (i : Int) 1 (by (try simp only [List.length_nil, List.length_cons, List.length_append, List.length_take, List.length_drop, List.length_set, List.length_replicate, List.length_reverse, bits_len]); omega)) ?_
              refine s_lt (t_pure (.int .i64 ((i : Int) + 1))) ?_
              refine s_nil ?_
              exact xs_round (i + 1) (by omega) (by show i + 1 ≤ (aliveR l R).length; omega) (sub_of rfl ⟨⟨rfl, rfl⟩, ⟨⟨rfl, rfl⟩, ⟨⟨rfl, rfl⟩, ⟨⟨rfl, rfl⟩, ⟨⟨rfl, rfl⟩, ⟨⟨rfl, rfl⟩, ⟨⟨rfl, rfl⟩, trivial⟩⟩⟩⟩⟩⟩⟩) (fun _ h => h.re [0, 0, 0, 0, 0] [])
            ·
              have p63 := of_decide_eq_false c57
              refine k_exit ?_
              refine xs_exit ?_
              refine xs_exit ?_
              refine xs_here ?_
              refine xs_then ?_
              refine k_seq ?_
              refine k_seq ?_
              refine k_reg ?_
              refine s_lt (t_pure (.int .i64 0)) ?_
              refine s_nil ?_
              refine xs_then ?_
              refine k_block ?_
              refine k_loop (ι := Nat) (fun j => j ≤ N.length) (fun j => [(1, mv), (2, .pointer (some ⟨g1, 0, none⟩)), (4, .bool false), (7, .int .i64 (errI (chk 0 l))), (8, v54), (11, .int .i64 (j : Int))]) (fun j => [own iTy v54 (aliveR l (R ++ N)), own iTy v52 (aliveR l R), blkA g49 #[ov, v50] 25, own iTy v50 (R ++ N), blkA g1 #[ov, rv] 25]) (fun j => N.length - j) 0 (Nat.zero_le _) (sub_of rfl ⟨⟨rfl, rfl⟩, ⟨⟨rfl, rfl⟩, ⟨⟨rfl, rfl⟩, ⟨⟨rfl, rfl⟩, ⟨⟨rfl, rfl⟩, ⟨⟨rfl, rfl⟩, trivial⟩⟩⟩⟩⟩⟩) (fun _ h => h.re [0, 0, 0, 0, 0] []) ?_
              rintro j hi64
              show SK _ _ _ _ _ [(1, mv), (2, .pointer (some ⟨g1, 0, none⟩)), (4, .bool false), (7, .int .i64 (errI (chk 0 l))), (8, v54), (11, .int .i64 (j : Int))] _ [own iTy v54 (aliveR l (R ++ N)), own iTy v52 (aliveR l R), blkA g49 #[ov, v50] 25, own iTy v50 (R ++ N), blkA g1 #[ov, rv] 25]
              refine k_seq ?_
              refine k_cut (ι := Unit) (fun _ => True) (fun _ => [(1, mv), (2, .pointer (some ⟨g1, 0, none⟩)), (4, .bool false), (7, .int .i64 (errI (chk 0 l))), (8, v54), (11, .int .i64 (j : Int)), (55, .int .i64 (j : Int)), (56, mv), (57, .int .i64 (N.length : Int)), (58, .bool (decide ((j : Int) < (N.length : Int)))), (59, .bool (decide ((j : Int) < (N.length : Int)))), (62, .bool ((decide ((j : Int) < (N.length : Int))) && (decide ((errI (chk 0 l)) = 0))))]) (fun _ => [own iTy v54 (aliveR l (R ++ N)), own iTy v52 (aliveR l R), blkA g49 #[ov, v50] 25, own iTy v50 (R ++ N), blkA g1 #[ov, rv] 25]) ?_ (fun _ _ => ?_)
              ·
                refine k_reg ?_
                refine s_lt (t_pure (.int .i64 (j : Int))) ?_
                refine s_lt (t_pure mv) ?_
                refine s_lt (t_len iTy_ok Try.underlying23 (.zn hN)) ?_
                refine s_lt t_cmp ?_
                refine s_lt (t_pure (.bool (decide ((j : Int) < (N.length : Int))))) ?_
                refine s_fork 59 (decide ((j : Int) < (N.length : Int))) (fun c65 => ?_) (fun c65 => ?_)
                ·
                  have p66 := of_decide_eq_true c65
                  refine s_lt (t_pure (.int .i64 (errI (chk 0 l)))) ?_
                  refine s_lt t_cmp ?_
                  refine s_lt (t_pure (.bool (decide ((errI (chk 0 l)) = 0)))) ?_
                  refine s_nil ?_
                  exact xs_cut () trivial (sub_of rfl ⟨⟨rfl, rfl⟩, ⟨⟨rfl, rfl⟩, ⟨⟨rfl, rfl⟩, ⟨⟨rfl, rfl⟩, ⟨⟨rfl, rfl⟩, ⟨⟨rfl, rfl⟩, ⟨⟨rfl, rfl⟩, ⟨⟨rfl, rfl⟩, ⟨⟨rfl, rfl⟩, ⟨⟨rfl, rfl⟩, ⟨⟨rfl, show Value.bool true = Value.bool (decide ((j : Int) < (N.length : Int))) by first | (simp only [c65, Bool.true_and, Bool.false_and, Bool.and_true, Bool.and_false, Bool.true_or, Bool.or_true, Bool.false_or, Bool.or_false, Bool.not_true, Bool.not_false]; done) | simp [c65]⟩, ⟨⟨rfl, show Value.bool (decide ((errI (chk 0 l)) = 0)) = Value.bool ((decide ((j : Int) < (N.length : Int))) && (decide ((errI (chk 0 l)) = 0))) by first | (simp only [c65, Bool.true_and, Bool.false_and, Bool.and_true, Bool.and_false, Bool.true_or, Bool.or_true, Bool.false_or, Bool.or_false, Bool.not_true, Bool.not_false]; done) | simp [c65]⟩, trivial⟩⟩⟩⟩⟩⟩⟩⟩⟩⟩⟩⟩) (fun _ h => h.re [0, 0, 0, 0, 0] [])
                ·
                  have p67 := of_decide_eq_false c65
                  refine s_skip ?_
                  refine s_skip ?_
                  refine s_lt (t_pure (.bool false)) ?_
                  refine s_nil ?_
                  exact xs_cut () trivial (sub_of rfl ⟨⟨rfl, rfl⟩, ⟨⟨rfl, rfl⟩, ⟨⟨rfl, rfl⟩, ⟨⟨rfl, rfl⟩, ⟨⟨rfl, rfl⟩, ⟨⟨rfl, rfl⟩, ⟨⟨rfl, rfl⟩, ⟨⟨rfl, rfl⟩, ⟨⟨rfl, rfl⟩, ⟨⟨rfl, rfl⟩, ⟨⟨rfl, show Value.bool false = Value.bool (decide ((j : Int) < (N.length : Int))) by first | (simp only [c65, Bool.true_and, Bool.false_and, Bool.and_true, Bool.and_false, Bool.true_or, Bool.or_true, Bool.false_or, Bool.or_false, Bool.not_true, Bool.not_false]; done) | simp [c65]⟩, ⟨⟨rfl, show Value.bool false = Value.bool ((decide ((j : Int) < (N.length : Int))) && (decide ((errI (chk 0 l)) = 0))) by first | (simp only [c65, Bool.true_and, Bool.false_and, Bool.and_true, Bool.and_false, Bool.true_or, Bool.or_true, Bool.false_or, Bool.or_false, Bool.not_true, Bool.not_false]; done) | simp [c65]⟩, trivial⟩⟩⟩⟩⟩⟩⟩⟩⟩⟩⟩⟩) (fun _ h => h.re [0, 0, 0, 0, 0] [])
              ·
                refine k_cond ((decide ((j : Int) < (N.length : Int))) && (decide ((errI (chk 0 l)) = 0))) (fun c68 => ?_) (fun c68 => ?_)
                ·
                  obtain ⟨c69, c70⟩ := and_t c68
                  have p71 := of_decide_eq_true c69
                  have p72 := of_decide_eq_true c70
                  have hc := errI_ok p72; have hs := chk_asc hc
                  refine k_skip ?_
                  refine xs_then ?_
                  refine k_seq ?_
                  refine k_block ?_
                  refine k_seq ?_
                  refine k_draw ?_
                  refine s_lt (t_loadA 4 #[ov, rv]) ?_
                  refine s_lt (t_pure mv) ?_
                  refine s_lt (t_pure (.int .i64 (j : Int))) ?_
                  refine s_lt (t_index iTy_ok Try.underlying23 (.zn hN) (j : Int) j (by omega) (by (try simp only [List.length_nil, List.length_cons, List.length_append, List.length_take, List.length_drop, List.length_set, List.length_replicate, List.length_reverse, bits_len]); omega) (by omega)) ?_
                  obtain ⟨y73, hy74⟩ : ∃ y, N[j]? = some y := ⟨_, List.getElem?_eq_getElem (by (try simp only [List.length_nil, List.length_cons, List.length_append, List.length_take, List.length_drop, List.length_set, List.length_replicate, List.length_reverse, bits_len]); omega)⟩
                  refine s_lt (t_loadE iTy_ok (.zn hN) hy74) ?_
                  refine s_vcall (fun _ h => find2_s (hg.up h) hs (by omega) y73) ?_
                  rintro _ rfl
                  rcases find_cases hs y73 with ⟨hf77, he81⟩ | ⟨ix75, ob76, hx78, hid79, hf80, he81⟩
                  ·
                    rw [he81]
                    refine s_lt (t_cmp (c := false)) ?_
                    refine s_lt (t_pure (.bool false)) ?_
                    refine s_skip ?_
                    refine s_skip ?_
                    refine s_skip ?_
                    refine s_skip ?_
                    refine s_skip ?_
                    refine s_skip ?_
                    refine s_skip ?_
                    refine s_lt (t_pure (.bool false)) ?_
                    refine s_nil ?_
                    refine x_dynS (fun _ h => by kernel_rfl) ?_
                    refine xs_then ?_
                    refine k_false ?_
                    refine k_skip ?_
                    refine xs_block ?_
                    refine xs_then ?_
                    refine k_reg ?_
                    refine s_lt (t_pure (.int .i64 (j : Int))) ?_
                    refine s_lt (t_add (j : Int) 1 (by (try simp only [List.length_nil, List.length_cons, List.length_append, List.length_take, List.length_drop, List.length_set, List.length_replicate, List.length_reverse, bits_len]); omega)) ?_
                    refine s_lt (t_pure (.int .i64 ((j : Int) + 1))) ?_
                    refine s_nil ?_
                    exact xs_round (j + 1) (by omega) (by show j + 1 ≤ N.length; omega) (sub_of rfl ⟨⟨rfl, rfl⟩, ⟨⟨rfl, rfl⟩, ⟨⟨rfl, rfl⟩, ⟨⟨rfl, rfl⟩, ⟨⟨rfl, rfl⟩, ⟨⟨rfl, rfl⟩, trivial⟩⟩⟩⟩⟩⟩) (fun _ h => h.re [0, 0, 0, 0, 0] [])
                  ·
                    rw [he81]
                    have hk82 := hg.each ob76 (List.mem_of_getElem? hx78)
                    have hlt83 : ix75 < l.length := (List.getElem?_eq_some_iff.1 hx78).1
                    refine s_lt (Lt.to t_cmp (congrArg Value.bool (decide_eq_true (by omega) : (decide ((0 : Int) ≤ (ix75 : Int))) = true))) ?_
                    refine s_lt (t_pure (.bool true)) ?_
                    refine s_lt (t_pure v54) ?_
                    refine s_lt (t_pure mv) ?_
                    refine s_lt (t_pure (.int .i64 (j : Int))) ?_
                    refine s_lt (t_index iTy_ok Try.underlying23 (.zn hN) (j : Int) j (by omega) (by (try simp only [List.length_nil, List.length_cons, List.length_append, List.length_take, List.length_drop, List.length_set, List.length_replicate, List.length_reverse, bits_len]); omega) (by omega)) ?_
                    refine s_lt (t_loadE iTy_ok (.zn hN) hy74) ?_
                    refine s_vcall (fun _ h => in_s y73 (Acc.kn (.own 0) h) (alive_asc _ _) (by have := alive_len l (R ++ N); omega)) ?_
                    rintro u85 e84
                    obtain rfl : u85 = .bool true := e84.trans (congrArg Value.bool (decide_eq_true (grows_root hc (List.mem_of_getElem? hy74) hf80)))
                    refine s_lt (t_pure (.bool false)) ?_
                    refine s_lt (t_pure (.bool false)) ?_
                    refine s_nil ?_
                    refine x_dynS (fun _ h => by kernel_rfl) ?_
                    refine xs_then ?_
                    refine k_false ?_
                    refine k_skip ?_
                    refine xs_block ?_
                    refine xs_then ?_
                    refine k_reg ?_
                    refine s_lt (t_pure (.int .i64 (j : Int))) ?_
                    refine s_lt (t_add (j : Int) 1 (by (try simp only [List.length_nil, List.length_cons, List.length_append, List.length_take, List.length_drop, List.length_set, List.length_replicate, List.length_reverse, bits_len]); omega)) ?_
                    refine s_lt (t_pure (.int .i64 ((j : Int) + 1))) ?_
                    refine s_nil ?_
                    exact xs_round (j + 1) (by omega) (by show j + 1 ≤ N.length; omega) (sub_of rfl ⟨⟨rfl, rfl⟩, ⟨⟨rfl, rfl⟩, ⟨⟨rfl, rfl⟩, ⟨⟨rfl, rfl⟩, ⟨⟨rfl, rfl⟩, ⟨⟨rfl, rfl⟩, trivial⟩⟩⟩⟩⟩⟩) (fun _ h => h.re [0, 0, 0, 0, 0] [])
                ·
                  have p86 := c68
                  simp only [Bool.and_eq_true, Bool.or_eq_true, Bool.and_eq_false_iff, Bool.or_eq_false_iff, Bool.not_eq_true', Bool.not_eq_false', decide_eq_true_eq, decide_eq_false_iff_not] at p86
                  refine k_exit ?_
                  refine xs_exit ?_
                  refine xs_exit ?_
                  refine xs_here ?_
                  refine xs_then ?_
                  refine k_seq ?_
                  refine k_reg ?_
                  refine s_vcall (fun _ h => awake_s) ?_
                  rintro _ rfl
                  refine s_lt (t_pure (.bool true)) ?_
                  refine s_nil ?_
                  refine xs_then ?_
                  refine k_ret ?_
                  exact xs_fin [.bool true] [] (SI.tmp 4 SI.nil) (fun _ h => h.re [] [0, 0, 0, 0, 0]) ⟨rfl, rfl⟩
        ·
          refine s_alloc (.agg #[(.slice none 0 0), (.slice none 0 0)]) #[(.slice none 0 0), (.slice none 0 0)] (fun g87 => ?_)
          refine s_nil (xs_held [2] ?_)
          refine h_stepS 5 ?_
          refine s_mem (fun _ h => Holds.slice 1 h iTy_ok []) ?_
          refine s_append (L := []) 1 iTy_ok Try.underlying23 (.zn hg.roots) (by show _ * 8 ≤ _; (try simp only [List.length_nil, List.length_cons, List.length_append, List.length_take, List.length_drop, List.length_set, List.length_replicate, List.length_reverse, bits_len]); omega) (by (try simp only [List.length_nil, List.length_cons, List.length_append, List.length_take, List.length_drop, List.length_set, List.length_replicate, List.length_reverse, bits_len]); omega) (fun v88 => ?_)
          rw [List.nil_append]
          refine s_fact (fun H h => ((Acc.own (T := iTy) (L := R) 1 rfl) H h).form) (fun hf89 => ?_)
          refine s_nil (xs_held [2] ?_)
          refine h_stepS 7 ?_
          refine s_append (L := R) 1 iTy_ok Try.underlying23 (.zn hN) (by show _ * 8 ≤ _; (try simp only [List.length_nil, List.length_cons, List.length_append, List.length_take, List.length_drop, List.length_set, List.length_replicate, List.length_reverse, bits_len]); omega) (by (try simp only [List.length_nil, List.length_cons, List.length_append, List.length_take, List.length_drop, List.length_set, List.length_replicate, List.length_reverse, bits_len]); omega) (fun v90 => ?_)
          refine s_fact (fun H h => ((Acc.own (T := iTy) (L := (R ++ N)) 1 rfl) H h).form) (fun hf91 => ?_)
          refine s_nil (xs_held [2] ?_)
          refine h_lt 8 rfl (np_then np_finS) [2] (fun _ => (show Lt _ _ _ _ _ (.agg #[ov, v90]) from by obtain ⟨_, _, e⟩ := hfo; rw [e]; clear e; obtain ⟨_, _, e⟩ := hf91; rw [e]; clear e; exact t_kern _)) ?_
          refine h_stepS 10 ?_
          refine s_store (u := .agg #[ov, v90]) (m := 2) 0 #[ov, v90] ?_ (hm := by (obtain ⟨_, _, e0⟩ := hfo; obtain ⟨_, _, e1⟩ := hf91; rw [e0, e1]; rfl)) (h1 := by (obtain ⟨_, _, e0⟩ := hfo; obtain ⟨_, _, e1⟩ := hf91; rw [e0, e1]; rfl)) (ha' := by (obtain ⟨_, _, e0⟩ := hfo; obtain ⟨_, _, e1⟩ := hf91; rw [e0, e1]; rfl))
          refine s_nil (xs_held [2] ?_)
          refine h_doneS ?_
          refine xs_then ?_
          refine k_seq ?_
          refine k_reg ?_
          refine s_lt (t_loadA 2 #[ov, rv]) ?_
          refine s_pcall (fun _ h => Alive_s (hg.up h) hl hp) ?_
          rintro _ _ ⟨v92, rfl, rfl⟩
          rw [alive_eq]
          refine s_fact (fun H h => ((Acc.own (T := iTy) (L := (aliveR l R)) 0 rfl) H h).form) (fun hf93 => ?_)
          refine s_lt (t_pure (.tuple #[v92, .int .i64 (errI (chk 0 l))])) ?_
          refine s_lt (t_pure v92) ?_
          refine s_lt (t_pure (.int .i64 (errI (chk 0 l)))) ?_
          refine s_lt (t_pure v92) ?_
          refine s_lt (t_pure (.int .i64 (errI (chk 0 l)))) ?_
          refine s_nil ?_
          refine xs_then ?_
          refine k_seq ?_
          refine k_reg ?_
          refine s_lt (t_loadA 1 #[ov, v90]) ?_
          refine s_pcall (fun _ h => Alive_s (show KnG _ _ _ l (R ++ N) from ⟨(hg.up h).obs, h.knS 2, (hg.up h).each⟩) hl hp) ?_
          rintro _ _ ⟨v94, rfl, rfl⟩
          rw [alive_eq]
          refine s_fact (fun H h => ((Acc.own (T := iTy) (L := (aliveR l (R ++ N))) 0 rfl) H h).form) (fun hf95 => ?_)
          refine s_lt (t_pure (.tuple #[v94, .int .i64 (errI (chk 0 l))])) ?_
          refine s_lt (t_pure v94) ?_
          refine s_lt (t_pure (.int .i64 (errI (chk 0 l)))) ?_
          refine s_lt (t_pure v94) ?_
          refine s_lt (t_pure (.int .i64 (errI (chk 0 l)))) ?_
          refine s_nil ?_
          refine xs_then ?_
          refine k_seq ?_
          refine k_seq ?_
          refine k_reg ?_
          refine s_lt (t_pure (.int .i64 (errI (chk 0 l)))) ?_
          refine s_lt (t_pure (.int .i64 (errI (chk 0 l)))) ?_
          refine s_lt (Lt.to t_cmp (congrArg Value.bool (decide_eq_false (fun h => h rfl) : (decide ((errI (chk 0 l)) ≠ (errI (chk 0 l)))) = false))) ?_
          refine s_nil ?_
          refine xs_then ?_
          refine k_false ?_
          refine k_skip ?_
          refine xs_then ?_
          refine k_seq ?_
          refine k_seq ?_
          refine k_reg ?_
          refine s_lt (t_pure (.int .i64 0)) ?_
          refine s_nil ?_
          refine xs_then ?_
          refine k_block ?_
          refine k_loop (ι := Nat) (fun i => i ≤ (aliveR l R).length) (fun i => [(1, mv), (2, .pointer (some ⟨g1, 0, none⟩)), (4, .bool false), (6, v92), (7, .int .i64 (errI (chk 0 l))), (8, v94), (10, .int .i64 (i : Int))]) (fun i => [own iTy v94 (aliveR l (R ++ N)), own iTy v92 (aliveR l R), blkA g87 #[ov, v90] 25, own iTy v90 (R ++ N), blkA g1 #[ov, rv] 25]) (fun i => (aliveR l R).length - i) 0 (Nat.zero_le _) (sub_of rfl ⟨⟨rfl, rfl⟩, ⟨⟨rfl, rfl⟩, ⟨⟨rfl, rfl⟩, ⟨⟨rfl, rfl⟩, ⟨⟨rfl, rfl⟩, ⟨⟨rfl, rfl⟩, ⟨⟨rfl, rfl⟩, trivial⟩⟩⟩⟩⟩⟩⟩) (fun _ h => h.re [0, 0, 0, 0, 0] []) ?_
          rintro i hi96
          show SK _ _ _ _ _ [(1, mv), (2, .pointer (some ⟨g1, 0, none⟩)), (4, .bool false), (6, v92), (7, .int .i64 (errI (chk 0 l))), (8, v94), (10, .int .i64 (i : Int))] _ [own iTy v94 (aliveR l (R ++ N)), own iTy v92 (aliveR l R), blkA g87 #[ov, v90] 25, own iTy v90 (R ++ N), blkA g1 #[ov, rv] 25]
          have hal := alive_len l R
          refine k_seq ?_
          refine k_seq ?_
          refine k_reg ?_
          refine s_lt (t_pure (.int .i64 (i : Int))) ?_
          refine s_lt (t_pure v92) ?_
          refine s_lt (t_len iTy_ok Try.underlying23 (.own 1)) ?_
          refine s_lt t_cmp ?_
          refine s_nil ?_
          refine xs_then ?_
          refine k_cond (decide ((i : Int) < ((aliveR l R).length : Int))) (fun c97 => ?_) (fun c97 => ?_)
          ·
            have p98 := of_decide_eq_true c97
            refine k_skip ?_
            refine xs_then ?_
            refine k_seq ?_
            refine k_block ?_
            refine k_seq ?_
            refine k_reg ?_
            refine s_lt (t_pure v94) ?_
            refine s_lt (t_pure v92) ?_
            refine s_lt (t_pure (.int .i64 (i : Int))) ?_
            refine s_lt (t_index iTy_ok Try.underlying23 (.own 1) (i : Int) i (by omega) (by (try simp only [List.length_nil, List.length_cons, List.length_append, List.length_take, List.length_drop, List.length_set, List.length_replicate, List.length_reverse, bits_len]); omega) (by omega)) ?_
            obtain ⟨y99, hy100⟩ : ∃ y, (aliveR l R)[i]? = some y := ⟨_, List.getElem?_eq_getElem (by (try simp only [List.length_nil, List.length_cons, List.length_append, List.length_take, List.length_drop, List.length_set, List.length_replicate, List.length_reverse, bits_len]); omega)⟩
            refine s_lt (t_loadE iTy_ok (.own 1) hy100) ?_
            refine s_vcall (fun _ h => in_s y99 (Acc.kn (.own 0) h) (alive_asc _ _) (by have := alive_len l (R ++ N); omega)) ?_
            rintro u102 e101
            obtain rfl : u102 = .bool true := e101.trans (congrArg Value.bool (decide_eq_true (grows (List.mem_of_getElem? hy100))))
            refine s_lt (t_pure (.bool false)) ?_
            refine s_nil ?_
            refine xs_then ?_
            refine k_false ?_
            refine k_skip ?_
            refine xs_block ?_
            refine xs_then ?_
            refine k_reg ?_
            refine s_lt (t_pure (.int .i64 (i : Int))) ?_
            refine s_lt (t_add (i : Int) 1 (by (try simp only [List.length_nil, List.length_cons, List.length_append, List.length_take, List.length_drop, List.length_set, List.length_replicate, List.length_reverse, bits_len]); omega)) ?_
            refine s_lt (t_pure (.int .i64 ((i : Int) + 1))) ?_
            refine s_nil ?_
            exact xs_round (i + 1) (by omega) (by show i + 1 ≤ (aliveR l R).length; omega) (sub_of rfl ⟨⟨rfl, rfl⟩, ⟨⟨rfl, rfl⟩, ⟨⟨rfl, rfl⟩, ⟨⟨rfl, rfl⟩, ⟨⟨rfl, rfl⟩, ⟨⟨rfl, rfl⟩, ⟨⟨rfl, rfl⟩, trivial⟩⟩⟩⟩⟩⟩⟩) (fun _ h => h.re [0, 0, 0, 0, 0] [])
          ·
            have p103 := of_decide_eq_false c97
            refine k_exit ?_
            refine xs_exit ?_
            refine xs_exit ?_
            refine xs_here ?_
            refine xs_then ?_
            refine k_seq ?_
            refine k_seq ?_
            refine k_reg ?_
            refine s_lt (t_pure (.int .i64 0)) ?_
            refine s_nil ?_
            refine xs_then ?_
            refine k_block ?_
            refine k_loop (ι := Nat) (fun j => j ≤ N.length) (fun j => [(1, mv), (2, .pointer (some ⟨g1, 0, none⟩)), (4, .bool false), (7, .int .i64 (errI (chk 0 l))), (8, v94), (11, .int .i64 (j : Int))]) (fun j => [own iTy v94 (aliveR l (R ++ N)), own iTy v92 (aliveR l R), blkA g87 #[ov, v90] 25, own iTy v90 (R ++ N), blkA g1 #[ov, rv] 25]) (fun j => N.length - j) 0 (Nat.zero_le _) (sub_of rfl ⟨⟨rfl, rfl⟩, ⟨⟨rfl, rfl⟩, ⟨⟨rfl, rfl⟩, ⟨⟨rfl, rfl⟩, ⟨⟨rfl, rfl⟩, ⟨⟨rfl, rfl⟩, trivial⟩⟩⟩⟩⟩⟩) (fun _ h => h.re [0, 0, 0, 0, 0] []) ?_
            rintro j hi104
            show SK _ _ _ _ _ [(1, mv), (2, .pointer (some ⟨g1, 0, none⟩)), (4, .bool false), (7, .int .i64 (errI (chk 0 l))), (8, v94), (11, .int .i64 (j : Int))] _ [own iTy v94 (aliveR l (R ++ N)), own iTy v92 (aliveR l R), blkA g87 #[ov, v90] 25, own iTy v90 (R ++ N), blkA g1 #[ov, rv] 25]
            refine k_seq ?_
            refine k_cut (ι := Unit) (fun _ => True) (fun _ => [(1, mv), (2, .pointer (some ⟨g1, 0, none⟩)), (4, .bool false), (7, .int .i64 (errI (chk 0 l))), (8, v94), (11, .int .i64 (j : Int)), (55, .int .i64 (j : Int)), (56, mv), (57, .int .i64 (N.length : Int)), (58, .bool (decide ((j : Int) < (N.length : Int)))), (59, .bool (decide ((j : Int) < (N.length : Int)))), (62, .bool ((decide ((j : Int) < (N.length : Int))) && (decide ((errI (chk 0 l)) = 0))))]) (fun _ => [own iTy v94 (aliveR l (R ++ N)), own iTy v92 (aliveR l R), blkA g87 #[ov, v90] 25, own iTy v90 (R ++ N), blkA g1 #[ov, rv] 25]) ?_ (fun _ _ => ?_)
            ·
              refine k_reg ?_
              refine s_lt (t_pure (.int .i64 (j : Int))) ?_
              refine s_lt (t_pure mv) ?_
              refine s_lt (t_len iTy_ok Try.underlying23 (.zn hN)) ?_
              refine s_lt t_cmp ?_
              refine s_lt (t_pure (.bool (decide ((j : Int) < (N.length : Int))))) ?_
              refine s_fork 59 (decide ((j : Int) < (N.length : Int))) (fun c105 => ?_) (fun c105 => ?_)
              ·
                have p106 := of_decide_eq_true c105
                refine s_lt (t_pure (.int .i64 (errI (chk 0 l)))) ?_
                refine s_lt t_cmp ?_
                refine s_lt (t_pure (.bool (decide ((errI (chk 0 l)) = 0)))) ?_
                refine s_nil ?_
                exact xs_cut () trivial (sub_of rfl ⟨⟨rfl, rfl⟩, ⟨⟨rfl, rfl⟩, ⟨⟨rfl, rfl⟩, ⟨⟨rfl, rfl⟩, ⟨⟨rfl, rfl⟩, ⟨⟨rfl, rfl⟩, ⟨⟨rfl, rfl⟩, ⟨⟨rfl, rfl⟩, ⟨⟨rfl, rfl⟩, ⟨⟨rfl, rfl⟩, ⟨⟨rfl, show Value.bool true = Value.bool (decide ((j : Int) < (N.length : Int))) by first | (simp only [c105, Bool.true_and, Bool.false_and, Bool.and_true, Bool.and_false, Bool.true_or, Bool.or_true, Bool.false_or, Bool.or_false, Bool.not_true, Bool.not_false]; done) | simp [c105]⟩, ⟨⟨rfl, show Value.bool (decide ((errI (chk 0 l)) = 0)) = Value.bool ((decide ((j : Int) < (N.length : Int))) && (decide ((errI (chk 0 l)) = 0))) by first | (simp only [c105, Bool.true_and, Bool.false_and, Bool.and_true, Bool.and_false, Bool.true_or, Bool.or_true, Bool.false_or, Bool.or_false, Bool.not_true, Bool.not_false]; done) | simp [c105]⟩, trivial⟩⟩⟩⟩⟩⟩⟩⟩⟩⟩⟩⟩) (fun _ h => h.re [0, 0, 0, 0, 0] [])
              ·
                have p107 := of_decide_eq_false c105
                refine s_skip ?_
                refine s_skip ?_
                refine s_lt (t_pure (.bool false)) ?_
                refine s_nil ?_
                exact xs_cut () trivial (sub_of rfl ⟨⟨rfl, rfl⟩, ⟨⟨rfl, rfl⟩, ⟨⟨rfl, rfl⟩, ⟨⟨rfl, rfl⟩, ⟨⟨rfl, rfl⟩, ⟨⟨rfl, rfl⟩, ⟨⟨rfl, rfl⟩, ⟨⟨rfl, rfl⟩, ⟨⟨rfl, rfl⟩, ⟨⟨rfl, rfl⟩, ⟨⟨rfl, show Value.bool false = Value.bool (decide ((j : Int) < (N.length : Int))) by first | (simp only [c105, Bool.true_and, Bool.false_and, Bool.and_true, Bool.and_false, Bool.true_or, Bool.or_true, Bool.false_or, Bool.or_false, Bool.not_true, Bool.not_false]; done) | simp [c105]⟩, ⟨⟨rfl, show Value.bool false = Value.bool ((decide ((j : Int) < (N.length : Int))) && (decide ((errI (chk 0 l)) = 0))) by first | (simp only [c105, Bool.true_and, Bool.false_and, Bool.and_true, Bool.and_false, Bool.true_or, Bool.or_true, Bool.false_or, Bool.or_false, Bool.not_true, Bool.not_false]; done) | simp [c105]⟩, trivial⟩⟩⟩⟩⟩⟩⟩⟩⟩⟩⟩⟩) (fun _ h => h.re [0, 0, 0, 0, 0] [])
            ·
              refine k_cond ((decide ((j : Int) < (N.length : Int))) && (decide ((errI (chk 0 l)) = 0))) (fun c108 => ?_) (fun c108 => ?_)
              ·
                obtain ⟨c109, c110⟩ := and_t c108
                have p111 := of_decide_eq_true c109
                have p112 := of_decide_eq_true c110
                have hc := errI_ok p112; have hs := chk_asc hc
                refine k_skip ?_
                refine xs_then ?_
                refine k_seq ?_
                refine k_block ?_
                refine k_seq ?_
                refine k_draw ?_
                refine s_lt (t_loadA 4 #[ov, rv]) ?_
                refine s_lt (t_pure mv) ?_
                refine s_lt (t_pure (.int .i64 (j : Int))) ?_
                refine s_lt (t_index iTy_ok Try.underlying23 (.zn hN) (j : Int) j (by omega) (by (try simp only [List.length_nil, List.length_cons, List.length_append, List.length_take, List.length_drop, List.length_set, List.length_replicate, List.length_reverse, bits_len]); omega) (by omega)) ?_
                obtain ⟨y113, hy114⟩ : ∃ y, N[j]? = some y := ⟨_, List.getElem?_eq_getElem (by (try simp only [List.length_nil, List.length_cons, List.length_append, List.length_take, List.length_drop, List.length_set, List.length_replicate, List.length_reverse, bits_len]); omega)⟩
                refine s_lt (t_loadE iTy_ok (.zn hN) hy114) ?_
                refine s_vcall (fun _ h => find2_s (hg.up h) hs (by omega) y113) ?_
                rintro _ rfl
                rcases find_cases hs y113 with ⟨hf117, he121⟩ | ⟨ix115, ob116, hx118, hid119, hf120, he121⟩
                ·
                  rw [he121]
                  refine s_lt (t_cmp (c := false)) ?_
                  refine s_lt (t_pure (.bool false)) ?_
                  refine s_skip ?_
                  refine s_skip ?_
                  refine s_skip ?_
                  refine s_skip ?_
                  refine s_skip ?_
                  refine s_skip ?_
                  refine s_skip ?_
                  refine s_lt (t_pure (.bool false)) ?_
                  refine s_nil ?_
                  refine x_dynS (fun _ h => by kernel_rfl) ?_
                  refine xs_then ?_
                  refine k_false ?_
                  refine k_skip ?_
                  refine xs_block ?_
                  refine xs_then ?_
                  refine k_reg ?_
                  refine s_lt (t_pure (.int .i64 (j : Int))) ?_
                  refine s_lt (t_add (j : Int) 1 (by (try simp only [List.length_nil, List.length_cons, List.length_append, List.length_take, List.length_drop, List.length_set, List.length_replicate, List.length_reverse, bits_len]); omega)) ?_
                  refine s_lt (t_pure (.int .i64 ((j : Int) + 1))) ?_
                  refine s_nil ?_
                  exact xs_round (j + 1) (by omega) (by show j + 1 ≤ N.length; omega) (sub_of rfl ⟨⟨rfl, rfl⟩, ⟨⟨rfl, rfl⟩, ⟨⟨rfl, rfl⟩, ⟨⟨rfl, rfl⟩, ⟨⟨rfl, rfl⟩, ⟨⟨rfl, rfl⟩, trivial⟩⟩⟩⟩⟩⟩) (fun _ h => h.re [0, 0, 0, 0, 0] [])
                ·
                  rw [he121]
                  have hk122 := hg.each ob116 (List.mem_of_getElem? hx118)
                  have hlt123 : ix115 < l.length := (List.getElem?_eq_some_iff.1 hx118).1
                  refine s_lt (Lt.to t_cmp (congrArg Value.bool (decide_eq_true (by omega) : (decide ((0 : Int) ≤ (ix115 : Int))) = true))) ?_
                  refine s_lt (t_pure (.bool true)) ?_
                  refine s_lt (t_pure v94) ?_
                  refine s_lt (t_pure mv) ?_
                  refine s_lt (t_pure (.int .i64 (j : Int))) ?_
                  refine s_lt (t_index iTy_ok Try.underlying23 (.zn hN) (j : Int) j (by omega) (by (try simp only [List.length_nil, List.length_cons, List.length_append, List.length_take, List.length_drop, List.length_set, List.length_replicate, List.length_reverse, bits_len]); omega) (by omega)) ?_
                  refine s_lt (t_loadE iTy_ok (.zn hN) hy114) ?_
                  refine s_vcall (fun _ h => in_s y113 (Acc.kn (.own 0) h) (alive_asc _ _) (by have := alive_len l (R ++ N); omega)) ?_
                  rintro u125 e124
                  obtain rfl : u125 = .bool true := e124.trans (congrArg Value.bool (decide_eq_true (grows_root hc (List.mem_of_getElem? hy114) hf120)))
                  refine s_lt (t_pure (.bool false)) ?_
                  refine s_lt (t_pure (.bool false)) ?_
                  refine s_nil ?_
                  refine x_dynS (fun _ h => by kernel_rfl) ?_
                  refine xs_then ?_
                  refine k_false ?_
                  refine k_skip ?_
                  refine xs_block ?_
                  refine xs_then ?_
                  refine k_reg ?_
                  refine s_lt (t_pure (.int .i64 (j : Int))) ?_
                  refine s_lt (t_add (j : Int) 1 (by (try simp only [List.length_nil, List.length_cons, List.length_append, List.length_take, List.length_drop, List.length_set, List.length_replicate, List.length_reverse, bits_len]); omega)) ?_
                  refine s_lt (t_pure (.int .i64 ((j : Int) + 1))) ?_
                  refine s_nil ?_
                  exact xs_round (j + 1) (by omega) (by show j + 1 ≤ N.length; omega) (sub_of rfl ⟨⟨rfl, rfl⟩, ⟨⟨rfl, rfl⟩, ⟨⟨rfl, rfl⟩, ⟨⟨rfl, rfl⟩, ⟨⟨rfl, rfl⟩, ⟨⟨rfl, rfl⟩, trivial⟩⟩⟩⟩⟩⟩) (fun _ h => h.re [0, 0, 0, 0, 0] [])
              ·
                have p126 := c108
                simp only [Bool.and_eq_true, Bool.or_eq_true, Bool.and_eq_false_iff, Bool.or_eq_false_iff, Bool.not_eq_true', Bool.not_eq_false', decide_eq_true_eq, decide_eq_false_iff_not] at p126
                refine k_exit ?_
                refine xs_exit ?_
                refine xs_exit ?_
                refine xs_here ?_
                refine xs_then ?_
                refine k_seq ?_
                refine k_reg ?_
                refine s_vcall (fun _ h => awake_s) ?_
                rintro _ rfl
                refine s_lt (t_pure (.bool true)) ?_
                refine s_nil ?_
                refine xs_then ?_
                refine k_ret ?_
                exact xs_fin [.bool true] [] (SI.tmp 4 SI.nil) (fun _ h => h.re [] [0, 0, 0, 0, 0]) ⟨rfl, rfl⟩
      ·
        refine s_alloc (.agg #[(.slice none 0 0), (.slice none 0 0)]) #[(.slice none 0 0), (.slice none 0 0)] (fun g127 => ?_)
        refine s_nil (xs_held [1] ?_)
        refine h_stepS 2 ?_
        refine s_buildSlice (e := 3) [] #[] (fun g128 => ?_) (hb := by kernel_rfl)
        refine s_nil (xs_held [2] ?_)
        refine h_stepS 5 ?_
        refine s_mem (fun _ h => Holds.slice 0 h iTy_ok []) ?_
        refine s_append (L := []) 0 iTy_ok Try.underlying23 (.zn hg.roots) (by show _ * 8 ≤ _; (try simp only [List.length_nil, List.length_cons, List.length_append, List.length_take, List.length_drop, List.length_set, List.length_replicate, List.length_reverse, bits_len]); omega) (by (try simp only [List.length_nil, List.length_cons, List.length_append, List.length_take, List.length_drop, List.length_set, List.length_replicate, List.length_reverse, bits_len]); omega) (fun v129 => ?_)
        rw [List.nil_append]
        refine s_fact (fun H h => ((Acc.own (T := iTy) (L := R) 0 rfl) H h).form) (fun hf130 => ?_)
        refine s_nil (xs_held [2] ?_)
        refine h_stepS 7 ?_
        refine s_append (L := R) 0 iTy_ok Try.underlying23 (.zn hN) (by show _ * 8 ≤ _; (try simp only [List.length_nil, List.length_cons, List.length_append, List.length_take, List.length_drop, List.length_set, List.length_replicate, List.length_reverse, bits_len]); omega) (by (try simp only [List.length_nil, List.length_cons, List.length_append, List.length_take, List.length_drop, List.length_set, List.length_replicate, List.length_reverse, bits_len]); omega) (fun v131 => ?_)
        refine s_fact (fun H h => ((Acc.own (T := iTy) (L := (R ++ N)) 0 rfl) H h).form) (fun hf132 => ?_)
        refine s_nil (xs_held [2] ?_)
        refine h_lt 8 rfl (np_then np_finS) [2] (fun _ => (show Lt _ _ _ _ _ (.agg #[ov, v131]) from by obtain ⟨_, _, e⟩ := hfo; rw [e]; clear e; obtain ⟨_, _, e⟩ := hf132; rw [e]; clear e; exact t_kern _)) ?_
        refine h_stepS 10 ?_
        refine s_store (u := .agg #[ov, v131]) (m := 2) 1 #[ov, v131] ?_ (hm := by (obtain ⟨_, _, e0⟩ := hfo; obtain ⟨_, _, e1⟩ := hf132; rw [e0, e1]; rfl)) (h1 := by (obtain ⟨_, _, e0⟩ := hfo; obtain ⟨_, _, e1⟩ := hf132; rw [e0, e1]; rfl)) (ha' := by (obtain ⟨_, _, e0⟩ := hfo; obtain ⟨_, _, e1⟩ := hf132; rw [e0, e1]; rfl))
        refine s_nil (xs_held [2] ?_)
        refine h_doneS ?_
        refine xs_then ?_
        refine k_seq ?_
        refine k_reg ?_
        refine s_lt (t_loadA 2 #[ov, rv]) ?_
        refine s_pcall (fun _ h => Alive_s (hg.up h) hl hp) ?_
        rintro _ _ ⟨v133, rfl, rfl⟩
        rw [alive_eq]
        refine s_fact (fun H h => ((Acc.own (T := iTy) (L := (aliveR l R)) 0 rfl) H h).form) (fun hf134 => ?_)
        refine s_lt (t_pure (.tuple #[v133, .int .i64 (errI (chk 0 l))])) ?_
        refine s_lt (t_pure v133) ?_
        refine s_lt (t_pure (.int .i64 (errI (chk 0 l)))) ?_
        refine s_lt (t_pure v133) ?_
        refine s_lt (t_pure (.int .i64 (errI (chk 0 l)))) ?_
        refine s_nil ?_
        refine xs_then ?_
        refine k_seq ?_
        refine k_reg ?_
        refine s_lt (t_loadA 2 #[ov, v131]) ?_
        refine s_pcall (fun _ h => Alive_s (show KnG _ _ _ l (R ++ N) from ⟨(hg.up h).obs, h.knS 1, (hg.up h).each⟩) hl hp) ?_
        rintro _ _ ⟨v135, rfl, rfl⟩
        rw [alive_eq]
        refine s_fact (fun H h => ((Acc.own (T := iTy) (L := (aliveR l (R ++ N))) 0 rfl) H h).form) (fun hf136 => ?_)
        refine s_lt (t_pure (.tuple #[v135, .int .i64 (errI (chk 0 l))])) ?_
        refine s_lt (t_pure v135) ?_
        refine s_lt (t_pure (.int .i64 (errI (chk 0 l)))) ?_
        refine s_lt (t_pure v135) ?_
        refine s_lt (t_pure (.int .i64 (errI (chk 0 l)))) ?_
        refine s_nil ?_
        refine xs_then ?_
        refine k_seq ?_
        refine k_seq ?_
        refine k_reg ?_
        refine s_lt (t_pure (.int .i64 (errI (chk 0 l)))) ?_
        refine s_lt (t_pure (.int .i64 (errI (chk 0 l)))) ?_
        refine s_lt (Lt.to t_cmp (congrArg Value.bool (decide_eq_false (fun h => h rfl) : (decide ((errI (chk 0 l)) ≠ (errI (chk 0 l)))) = false))) ?_
        refine s_nil ?_
        refine xs_then ?_
        refine k_false ?_
        refine k_skip ?_
        refine xs_then ?_
        refine k_seq ?_
        refine k_seq ?_
        refine k_reg ?_
        refine s_lt (t_pure (.int .i64 0)) ?_
        refine s_nil ?_
        refine xs_then ?_
        refine k_block ?_
        refine k_loop (ι := Nat) (fun i => i ≤ (aliveR l R).length) (fun i => [(1, mv), (2, .pointer (some ⟨g1, 0, none⟩)), (4, .bool false), (6, v133), (7, .int .i64 (errI (chk 0 l))), (8, v135), (10, .int .i64 (i : Int))]) (fun i => [own iTy v135 (aliveR l (R ++ N)), own iTy v133 (aliveR l R), own iTy v131 (R ++ N), blkA g127 #[ov, v131] 25, blkA g1 #[ov, rv] 25]) (fun i => (aliveR l R).length - i) 0 (Nat.zero_le _) (sub_of rfl ⟨⟨rfl, rfl⟩, ⟨⟨rfl, rfl⟩, ⟨⟨rfl, rfl⟩, ⟨⟨rfl, rfl⟩, ⟨⟨rfl, rfl⟩, ⟨⟨rfl, rfl⟩, ⟨⟨rfl, rfl⟩, trivial⟩⟩⟩⟩⟩⟩⟩) (fun _ h => h.re [0, 0, 0, 0, 0] []) ?_
        rintro i hi137
        show SK _ _ _ _ _ [(1, mv), (2, .pointer (some ⟨g1, 0, none⟩)), (4, .bool false), (6, v133), (7, .int .i64 (errI (chk 0 l))), (8, v135), (10, .int .i64 (i : Int))] _ [own iTy v135 (aliveR l (R ++ N)), own iTy v133 (aliveR l R), own iTy v131 (R ++ N), blkA g127 #[ov, v131] 25, blkA g1 #[ov, rv] 25]
        have hal := alive_len l R
        refine k_seq ?_
        refine k_seq ?_
        refine k_reg ?_
        refine s_lt (t_pure (.int .i64 (i : Int))) ?_
        refine s_lt (t_pure v133) ?_
        refine s_lt (t_len iTy_ok Try.underlying23 (.own 1)) ?_
        refine s_lt t_cmp ?_
        refine s_nil ?_
        refine xs_then ?_
        refine k_cond (decide ((i : Int) < ((aliveR l R).length : Int))) (fun c138 => ?_) (fun c138 => ?_)
        ·
          have p139 := of_decide_eq_true c138
          refine k_skip ?_
          refine xs_then ?_
          refine k_seq ?_
          refine k_block ?_
          refine k_seq ?_
          refine k_reg ?_
          refine s_lt (t_pure v135) ?_
          refine s_lt (t_pure v133) ?_
          refine s_lt (t_pure (.int .i64 (i : Int))) ?_
          refine s_lt (t_index iTy_ok Try.underlying23 (.own 1) (i : Int) i (by omega) (by (try simp only [List.length_nil, List.length_cons, List.length_append, List.length_take, List.length_drop, List.length_set, List.length_replicate, List.length_reverse, bits_len]); omega) (by omega)) ?_
          obtain ⟨y140, hy141⟩ : ∃ y, (aliveR l R)[i]? = some y := ⟨_, List.getElem?_eq_getElem (by (try simp only [List.length_nil, List.length_cons, List.length_append, List.length_take, List.length_drop, List.length_set, List.length_replicate, List.length_reverse, bits_len]); omega)⟩
          refine s_lt (t_loadE iTy_ok (.own 1) hy141) ?_
          refine s_vcall (fun _ h => in_s y140 (Acc.kn (.own 0) h) (alive_asc _ _) (by have := alive_len l (R ++ N); omega)) ?_
          rintro u143 e142
          obtain rfl : u143 = .bool true := e142.trans (congrArg Value.bool (decide_eq_true (grows (List.mem_of_getElem? hy141))))
          refine s_lt (t_pure (.bool false)) ?_
          refine s_nil ?_
          refine xs_then ?_
          refine k_false ?_
          refine k_skip ?_
          refine xs_block ?_
          refine xs_then ?_
          refine k_reg ?_
          refine s_lt (t_pure (.int .i64 (i : Int))) ?_
          refine s_lt (t_add (i : Int) 1 (by (try simp only [List.length_nil, List.length_cons, List.length_append, List.length_take, List.length_drop, List.length_set, List.length_replicate, List.length_reverse, bits_len]); omega)) ?_
          refine s_lt (t_pure (.int .i64 ((i : Int) + 1))) ?_
          refine s_nil ?_
          exact xs_round (i + 1) (by omega) (by show i + 1 ≤ (aliveR l R).length; omega) (sub_of rfl ⟨⟨rfl, rfl⟩, ⟨⟨rfl, rfl⟩, ⟨⟨rfl, rfl⟩, ⟨⟨rfl, rfl⟩, ⟨⟨rfl, rfl⟩, ⟨⟨rfl, rfl⟩, ⟨⟨rfl, rfl⟩, trivial⟩⟩⟩⟩⟩⟩⟩) (fun _ h => h.re [0, 0, 0, 0, 0] [])
        ·
          have p144 := of_decide_eq_false c138
          refine k_exit ?_
          refine xs_exit ?_
          refine xs_exit ?_
          refine xs_here ?_
          refine xs_then ?_
          refine k_seq ?_
          refine k_seq ?_
          refine k_reg ?_
          refine s_lt (t_pure (.int .i64 0)) ?_
          refine s_nil ?_
          refine xs_then ?_
          refine k_block ?_
          refine k_loop (ι := Nat) (fun j => j ≤ N.length) (fun j => [(1, mv), (2, .pointer (some ⟨g1, 0, none⟩)), (4, .bool false), (7, .int .i64 (errI (chk 0 l))), (8, v135), (11, .int .i64 (j : Int))]) (fun j => [own iTy v135 (aliveR l (R ++ N)), own iTy v133 (aliveR l R), own iTy v131 (R ++ N), blkA g127 #[ov, v131] 25, blkA g1 #[ov, rv] 25]) (fun j => N.length - j) 0 (Nat.zero_le _) (sub_of rfl ⟨⟨rfl, rfl⟩, ⟨⟨rfl, rfl⟩, ⟨⟨rfl, rfl⟩, ⟨⟨rfl, rfl⟩, ⟨⟨rfl, rfl⟩, ⟨⟨rfl, rfl⟩, trivial⟩⟩⟩⟩⟩⟩) (fun _ h => h.re [0, 0, 0, 0, 0] []) ?_
          rintro j hi145
          show SK _ _ _ _ _ [(1, mv), (2, .pointer (some ⟨g1, 0, none⟩)), (4, .bool false), (7, .int .i64 (errI (chk 0 l))), (8, v135), (11, .int .i64 (j : Int))] _ [own iTy v135 (aliveR l (R ++ N)), own iTy v133 (aliveR l R), own iTy v131 (R ++ N), blkA g127 #[ov, v131] 25, blkA g1 #[ov, rv] 25]
          refine k_seq ?_
          refine k_cut (ι := Unit) (fun _ => True) (fun _ => [(1, mv), (2, .pointer (some ⟨g1, 0, none⟩)), (4, .bool false), (7, .int .i64 (errI (chk 0 l))), (8, v135), (11, .int .i64 (j : Int)), (55, .int .i64 (j : Int)), (56, mv), (57, .int .i64 (N.length : Int)), (58, .bool (decide ((j : Int) < (N.length : Int)))), (59, .bool (decide ((j : Int) < (N.length : Int)))), (62, .bool ((decide ((j : Int) < (N.length : Int))) && (decide ((errI (chk 0 l)) = 0))))]) (fun _ => [own iTy v135 (aliveR l (R ++ N)), own iTy v133 (aliveR l R), own iTy v131 (R ++ N), blkA g127 #[ov, v131] 25, blkA g1 #[ov, rv] 25]) ?_ (fun _ _ => ?_)
          ·
            refine k_reg ?_
            refine s_lt (t_pure (.int .i64 (j : Int))) ?_
            refine s_lt (t_pure mv) ?_
            refine s_lt (t_len iTy_ok Try.underlying23 (.zn hN)) ?_
            refine s_lt t_cmp ?_
            refine s_lt (t_pure (.bool (decide ((j : Int) < (N.length : Int))))) ?_
            refine s_fork 59 (decide ((j : Int) < (N.length : Int))) (fun c146 => ?_) (fun c146 => ?_)
            ·
              have p147 := of_decide_eq_true c146
              refine s_lt (t_pure (.int .i64 (errI (chk 0 l)))) ?_
              refine s_lt t_cmp ?_
              refine s_lt (t_pure (.bool (decide ((errI (chk 0 l)) = 0)))) ?_
              refine s_nil ?_
              exact xs_cut () trivial (sub_of rfl ⟨⟨rfl, rfl⟩, ⟨⟨rfl, rfl⟩, ⟨⟨rfl, rfl⟩, ⟨⟨rfl, rfl⟩, ⟨⟨rfl, rfl⟩, ⟨⟨rfl, rfl⟩, ⟨⟨rfl, rfl⟩, ⟨⟨rfl, rfl⟩, ⟨⟨rfl, rfl⟩, ⟨⟨rfl, rfl⟩, ⟨⟨rfl, show Value.bool true = Value.bool (decide ((j : Int) < (N.length : Int))) by first | (simp only [c146, Bool.true_and, Bool.false_and, Bool.and_true, Bool.and_false, Bool.true_or, Bool.or_true, Bool.false_or, Bool.or_false, Bool.not_true, Bool.not_false]; done) | simp [c146]⟩, ⟨⟨rfl, show Value.bool (decide ((errI (chk 0 l)) = 0)) = Value.bool ((decide ((j : Int) < (N.length : Int))) && (decide ((errI (chk 0 l)) = 0))) by first | (simp only [c146, Bool.true_and, Bool.false_and, Bool.and_true, Bool.and_false, Bool.true_or, Bool.or_true, Bool.false_or, Bool.or_false, Bool.not_true, Bool.not_false]; done) | simp [c146]⟩, trivial⟩⟩⟩⟩⟩⟩⟩⟩⟩⟩⟩⟩) (fun _ h => h.re [0, 0, 0, 0, 0] [])
            ·
              have p148 := of_decide_eq_false c146
              refine s_skip ?_
              refine s_skip ?_
              refine s_lt (t_pure (.bool false)) ?_
              refine s_nil ?_
              exact xs_cut () trivial (sub_of rfl ⟨⟨rfl, rfl⟩, ⟨⟨rfl, rfl⟩, ⟨⟨rfl, rfl⟩, ⟨⟨rfl, rfl⟩, ⟨⟨rfl, rfl⟩, ⟨⟨rfl, rfl⟩, ⟨⟨rfl, rfl⟩, ⟨⟨rfl, rfl⟩, ⟨⟨rfl, rfl⟩, ⟨⟨rfl, rfl⟩, ⟨⟨rfl, show Value.bool false = Value.bool (decide ((j : Int) < (N.length : Int))) by first | (simp only [c146, Bool.true_and, Bool.false_and, Bool.and_true, Bool.and_false, Bool.true_or, Bool.or_true, Bool.false_or, Bool.or_false, Bool.not_true, Bool.not_false]; done) | simp [c146]⟩, ⟨⟨rfl, show Value.bool false = Value.bool ((decide ((j : Int) < (N.length : Int))) && (decide ((errI (chk 0 l)) = 0))) by first | (simp only [c146, Bool.true_and, Bool.false_and, Bool.and_true, Bool.and_false, Bool.true_or, Bool.or_true, Bool.false_or, Bool.or_false, Bool.not_true, Bool.not_false]; done) | simp [c146]⟩, trivial⟩⟩⟩⟩⟩⟩⟩⟩⟩⟩⟩⟩) (fun _ h => h.re [0, 0, 0, 0, 0] [])
          ·
            refine k_cond ((decide ((j : Int) < (N.length : Int))) && (decide ((errI (chk 0 l)) = 0))) (fun c149 => ?_) (fun c149 => ?_)
            ·
              obtain ⟨c150, c151⟩ := and_t c149
              have p152 := of_decide_eq_true c150
              have p153 := of_decide_eq_true c151
              have hc := errI_ok p153; have hs := chk_asc hc
              refine k_skip ?_
              refine xs_then ?_
              refine k_seq ?_
              refine k_block ?_
              refine k_seq ?_
              refine k_draw ?_
              refine s_lt (t_loadA 4 #[ov, rv]) ?_
              refine s_lt (t_pure mv) ?_
              refine s_lt (t_pure (.int .i64 (j : Int))) ?_
              refine s_lt (t_index iTy_ok Try.underlying23 (.zn hN) (j : Int) j (by omega) (by (try simp only [List.length_nil, List.length_cons, List.length_append, List.length_take, List.length_drop, List.length_set, List.length_replicate, List.length_reverse, bits_len]); omega) (by omega)) ?_
              obtain ⟨y154, hy155⟩ : ∃ y, N[j]? = some y := ⟨_, List.getElem?_eq_getElem (by (try simp only [List.length_nil, List.length_cons, List.length_append, List.length_take, List.length_drop, List.length_set, List.length_replicate, List.length_reverse, bits_len]); omega)⟩
              refine s_lt (t_loadE iTy_ok (.zn hN) hy155) ?_
              refine s_vcall (fun _ h => find2_s (hg.up h) hs (by omega) y154) ?_
              rintro _ rfl
              rcases find_cases hs y154 with ⟨hf158, he162⟩ | ⟨ix156, ob157, hx159, hid160, hf161, he162⟩
              ·
                rw [he162]
                refine s_lt (t_cmp (c := false)) ?_
                refine s_lt (t_pure (.bool false)) ?_
                refine s_skip ?_
                refine s_skip ?_
                refine s_skip ?_
                refine s_skip ?_
                refine s_skip ?_
                refine s_skip ?_
                refine s_skip ?_
                refine s_lt (t_pure (.bool false)) ?_
                refine s_nil ?_
                refine x_dynS (fun _ h => by kernel_rfl) ?_
                refine xs_then ?_
                refine k_false ?_
                refine k_skip ?_
                refine xs_block ?_
                refine xs_then ?_
                refine k_reg ?_
                refine s_lt (t_pure (.int .i64 (j : Int))) ?_
                refine s_lt (t_add (j : Int) 1 (by (try simp only [List.length_nil, List.length_cons, List.length_append, List.length_take, List.length_drop, List.length_set, List.length_replicate, List.length_reverse, bits_len]); omega)) ?_
                refine s_lt (t_pure (.int .i64 ((j : Int) + 1))) ?_
                refine s_nil ?_
                exact xs_round (j + 1) (by omega) (by show j + 1 ≤ N.length; omega) (sub_of rfl ⟨⟨rfl, rfl⟩, ⟨⟨rfl, rfl⟩, ⟨⟨rfl, rfl⟩, ⟨⟨rfl, rfl⟩, ⟨⟨rfl, rfl⟩, ⟨⟨rfl, rfl⟩, trivial⟩⟩⟩⟩⟩⟩) (fun _ h => h.re [0, 0, 0, 0, 0] [])
              ·
                rw [he162]
                have hk163 := hg.each ob157 (List.mem_of_getElem? hx159)
                have hlt164 : ix156 < l.length := (List.getElem?_eq_some_iff.1 hx159).1
                refine s_lt (Lt.to t_cmp (congrArg Value.bool (decide_eq_true (by omega) : (decide ((0 : Int) ≤ (ix156 : Int))) = true))) ?_
                refine s_lt (t_pure (.bool true)) ?_
                refine s_lt (t_pure v135) ?_
                refine s_lt (t_pure mv) ?_
                refine s_lt (t_pure (.int .i64 (j : Int))) ?_
                refine s_lt (t_index iTy_ok Try.underlying23 (.zn hN) (j : Int) j (by omega) (by (try simp only [List.length_nil, List.length_cons, List.length_append, List.length_take, List.length_drop, List.length_set, List.length_replicate, List.length_reverse, bits_len]); omega) (by omega)) ?_
                refine s_lt (t_loadE iTy_ok (.zn hN) hy155) ?_
                refine s_vcall (fun _ h => in_s y154 (Acc.kn (.own 0) h) (alive_asc _ _) (by have := alive_len l (R ++ N); omega)) ?_
                rintro u166 e165
                obtain rfl : u166 = .bool true := e165.trans (congrArg Value.bool (decide_eq_true (grows_root hc (List.mem_of_getElem? hy155) hf161)))
                refine s_lt (t_pure (.bool false)) ?_
                refine s_lt (t_pure (.bool false)) ?_
                refine s_nil ?_
                refine x_dynS (fun _ h => by kernel_rfl) ?_
                refine xs_then ?_
                refine k_false ?_
                refine k_skip ?_
                refine xs_block ?_
                refine xs_then ?_
                refine k_reg ?_
                refine s_lt (t_pure (.int .i64 (j : Int))) ?_
                refine s_lt (t_add (j : Int) 1 (by (try simp only [List.length_nil, List.length_cons, List.length_append, List.length_take, List.length_drop, List.length_set, List.length_replicate, List.length_reverse, bits_len]); omega)) ?_
                refine s_lt (t_pure (.int .i64 ((j : Int) + 1))) ?_
                refine s_nil ?_
                exact xs_round (j + 1) (by omega) (by show j + 1 ≤ N.length; omega) (sub_of rfl ⟨⟨rfl, rfl⟩, ⟨⟨rfl, rfl⟩, ⟨⟨rfl, rfl⟩, ⟨⟨rfl, rfl⟩, ⟨⟨rfl, rfl⟩, ⟨⟨rfl, rfl⟩, trivial⟩⟩⟩⟩⟩⟩) (fun _ h => h.re [0, 0, 0, 0, 0] [])
            ·
              have p167 := c149
              simp only [Bool.and_eq_true, Bool.or_eq_true, Bool.and_eq_false_iff, Bool.or_eq_false_iff, Bool.not_eq_true', Bool.not_eq_false', decide_eq_true_eq, decide_eq_false_iff_not] at p167
              refine k_exit ?_
              refine xs_exit ?_
              refine xs_exit ?_
              refine xs_here ?_
              refine xs_then ?_
              refine k_seq ?_
              refine k_reg ?_
              refine s_vcall (fun _ h => awake_s) ?_
              rintro _ rfl
              refine s_lt (t_pure (.bool true)) ?_
              refine s_nil ?_
              refine xs_then ?_
              refine k_ret ?_
              exact xs_fin [.bool true] [] (SI.tmp 4 SI.nil) (fun _ h => h.re [] [0, 0, 0, 0, 0]) ⟨rfl, rfl⟩
theorem again_w {Z : Zone} {ov rv : Value} {l : List Ob} {R : List Int} (hg : KnG Z ov rv l R) : SF Try.prog 8 #[.agg #[ov, rv]] Z [] fun r Bs => r = .bool true ∧ Bs = [] := by
  refine sf_enter Try.func8 64 [(0, .agg #[ov, rv])] (fun w0 => ?_)
  refine k_seq ?_
  refine k_reg ?_
  refine s_box #[ov, rv] (fun g1 => ?_)
  refine s_lt (t_pure (.bool false)) ?_
  refine s_nil ?_
  refine xs_then ?_
  refine k_seq ?_
  refine k_seq ?_
  refine k_reg ?_
  refine s_lt (t_loadA 0 #[ov, rv]) ?_
  refine s_vcall (fun _ h => large_s (hg.up h)) ?_
  rintro _ rfl
  refine s_nil ?_
  refine xs_then ?_
  refine k_cond (largeB l R) (fun c2 => ?_) (fun c2 => ?_)
  ·
    refine k_seq ?_
    refine k_reg ?_
    refine s_vcall (fun _ h => awake_s) ?_
    rintro _ rfl
    refine s_lt (t_pure (.bool true)) ?_
    refine s_nil ?_
    refine xs_then ?_
    refine k_ret ?_
    refine xs_ret ?_
    exact xs_fin [.bool true] [] (SI.tmp 2 SI.nil) (fun _ h => h.re [] [0]) ⟨rfl, rfl⟩
  ·
    obtain ⟨hl0, hr0, hsm⟩ := small_of c2
    have hp0 := pot_le l hsm []
    have hp : pot l [] ≤ 1000000 := by omega
    have hl : l.length ≤ 100000 := by omega
    have hr : R.length ≤ 100000 := by omega
    refine k_skip ?_
    refine xs_then ?_
    refine k_seq ?_
    refine k_seq ?_
    refine k_reg ?_
    refine s_lt (t_pure (.int .i64 0)) ?_
    refine s_nil ?_
    refine xs_then ?_
    refine k_block ?_
    refine k_loop (ι := Nat) (fun i => i ≤ l.length ∧ ∀ o ∈ l.take i, o.weak ≠ 2) (fun i => [(1, .pointer (some ⟨g1, 0, none⟩)), (2, .bool false), (3, .int .i64 (i : Int))]) (fun i => [blkA g1 #[ov, rv] 25]) (fun i => l.length - i) 0 ⟨Nat.zero_le _, by simp⟩ (sub_of rfl ⟨⟨rfl, rfl⟩, ⟨⟨rfl, rfl⟩, ⟨⟨rfl, rfl⟩, trivial⟩⟩⟩) (fun _ h => h.re [0] []) ?_
    rintro i hi3
    show SK _ _ _ _ _ [(1, .pointer (some ⟨g1, 0, none⟩)), (2, .bool false), (3, .int .i64 (i : Int))] _ [blkA g1 #[ov, rv] 25]
    refine k_seq ?_
    refine k_seq ?_
    refine k_reg ?_
    refine s_lt (t_pure (.int .i64 (i : Int))) ?_
    refine s_lt (t_pure (.pointer (some ⟨g1, 0, none⟩))) ?_
    refine s_lt (t_load 0 ov) ?_
    refine s_lt (t_len ObT_ok Try.underlying22 (.zn hg.obs)) ?_
    refine s_lt t_cmp ?_
    refine s_nil ?_
    refine xs_then ?_
    refine k_cond (decide ((i : Int) < (l.length : Int))) (fun c4 => ?_) (fun c4 => ?_)
    ·
      have p5 := of_decide_eq_true c4
      refine k_skip ?_
      refine xs_then ?_
      refine k_seq ?_
      refine k_block ?_
      refine k_seq ?_
      refine k_reg ?_
      refine s_lt (t_pure (.pointer (some ⟨g1, 0, none⟩))) ?_
      refine s_lt (t_load 0 ov) ?_
      refine s_lt (t_pure (.int .i64 (i : Int))) ?_
      refine s_lt (t_index ObT_ok Try.underlying22 (.zn hg.obs) (i : Int) i (by omega) (by (try simp only [List.length_nil, List.length_cons, List.length_append, List.length_take, List.length_drop, List.length_set, List.length_replicate, List.length_reverse, bits_len]); omega) (by omega)) ?_
      refine s_lt (t_pure (.pointer (some ((elemAt ObT.size ov i).add 2)))) ?_
      obtain ⟨y6, hy7⟩ : ∃ y, l[i]? = some y := ⟨_, List.getElem?_eq_getElem (by (try simp only [List.length_nil, List.length_cons, List.length_append, List.length_take, List.length_drop, List.length_set, List.length_replicate, List.length_reverse, bits_len]); omega)⟩
      have hk8 := hg.each y6 (List.mem_of_getElem? hy7)
      refine s_lt (t_loadF 2 ObT_ok (.zn hg.obs) hy7) ?_
      refine s_lt t_cmp ?_
      refine s_nil ?_
      refine xs_then ?_
      refine k_cond (decide (y6.weak = 2)) (fun c9 => ?_) (fun c9 => ?_)
      ·
        have p10 := of_decide_eq_true c9
        refine k_seq ?_
        refine k_reg ?_
        refine s_vcall (fun _ h => awake_s) ?_
        rintro _ rfl
        refine s_lt (t_pure (.bool true)) ?_
        refine s_nil ?_
        refine xs_then ?_
        refine k_ret ?_
        refine xs_retBlock ?_
        refine xs_ret ?_
        refine xs_ret ?_
        refine xs_retBlock ?_
        refine xs_ret ?_
        exact xs_fin [.bool true] [] (SI.tmp 2 SI.nil) (fun _ h => h.re [] [0]) ⟨rfl, rfl⟩
      ·
        have p11 := of_decide_eq_false c9
        refine k_skip ?_
        refine xs_block ?_
        refine xs_then ?_
        refine k_reg ?_
        refine s_lt (t_pure (.int .i64 (i : Int))) ?_
        refine s_lt (t_add (i : Int) 1 (by (try simp only [List.length_nil, List.length_cons, List.length_append, List.length_take, List.length_drop, List.length_set, List.length_replicate, List.length_reverse, bits_len]); omega)) ?_
        refine s_lt (t_pure (.int .i64 ((i : Int) + 1))) ?_
        refine s_nil ?_
        exact xs_round (i + 1) (by omega) (by obtain ⟨hi1, hi2⟩ := hi3; refine ⟨by omega, fun o ho => ?_⟩; rw [List.take_add_one, hy7] at ho; rcases List.mem_append.1 ho with ho | ho; exact hi2 o ho; simp at ho; subst ho; exact p11) (sub_of rfl ⟨⟨rfl, rfl⟩, ⟨⟨rfl, rfl⟩, ⟨⟨rfl, rfl⟩, trivial⟩⟩⟩) (fun _ h => h.re [0] [])
    ·
      have p12 := of_decide_eq_false c4
      refine k_exit ?_
      have hw : ∀ o ∈ l, o.weak ≠ 2 := fun o ho => hi3.2 o (by rw [List.take_of_length_le (by omega)]; exact ho)
      refine xs_exit ?_
      refine xs_exit ?_
      refine xs_here ?_
      refine xs_then ?_
      refine k_seq ?_
      refine k_reg ?_
      refine s_lt (t_loadA 0 #[ov, rv]) ?_
      refine s_pcall (fun _ h => Collect_s (hg.up h) hl hp hsm hr) ?_
      rintro _ _ ⟨ov13, rv14, fv15, l16, R17, rfl, hl18, hR19, rfl⟩
      refine s_fact (fun H h => ((Acc.own (T := iTy) (L := (collF l R)) 1 rfl) H h).form) (fun hf20 => ?_)
      refine s_lt (t_pure (.tuple #[.agg #[ov13, rv14], fv15, .int .i64 (errI (chk 0 l))])) ?_
      refine s_lt (t_pure (.agg #[ov13, rv14])) ?_
      refine s_lt (t_pure fv15) ?_
      refine s_lt (t_pure (.int .i64 (errI (chk 0 l)))) ?_
      refine s_alloc (.agg #[(.slice none 0 0), (.slice none 0 0)]) #[(.slice none 0 0), (.slice none 0 0)] (fun g21 => ?_)
      refine s_fact (fun H h => ((show Acc _ _ ObT _ _ from (accF 1)) H h).form) (fun hf22 => ?_)
      refine s_fact (fun H h => ((show Acc _ _ iTy _ _ from (accR 1)) H h).form) (fun hf23 => ?_)
      refine s_store (u := .agg #[ov13, rv14]) (m := 2) 0 #[ov13, rv14] ?_ (hm := by (obtain ⟨_, _, e0⟩ := hf22; obtain ⟨_, _, e1⟩ := hf23; rw [e0, e1]; rfl)) (h1 := by (obtain ⟨_, _, e0⟩ := hf22; obtain ⟨_, _, e1⟩ := hf23; rw [e0, e1]; rfl)) (ha' := by (obtain ⟨_, _, e0⟩ := hf22; obtain ⟨_, _, e1⟩ := hf23; rw [e0, e1]; rfl))
      refine s_lt (t_pure fv15) ?_
      refine s_lt (t_pure (.int .i64 (errI (chk 0 l)))) ?_
      refine s_nil ?_
      refine xs_then ?_
      refine k_seq ?_
      refine k_reg ?_
      refine s_lt (t_loadA 0 #[ov13, rv14]) ?_
      obtain ⟨hl2, hsm2⟩ := coll_small hl18 hsm
      have hp2 := pot_le l16 hsm2 []
      have hr2 : R17.length ≤ 100000 := by rw [hR19]; split; omega; simp
      refine s_pcall (fun _ h => Collect_s (GrA.kn (h.frzF 1)) (by omega) (by omega) hsm2 hr2) ?_
      rintro _ _ ⟨ov24, rv25, fv26, l27, R28, rfl, hl29, hR30, rfl⟩
      refine s_fact (fun H h => ((Acc.own (T := iTy) (L := (collF l16 R17)) 1 rfl) H h).form) (fun hf31 => ?_)
      refine s_lt (t_pure (.tuple #[.agg #[ov24, rv25], fv26, .int .i64 (errI (chk 0 l16))])) ?_
      refine s_lt (t_pure (.agg #[ov24, rv25])) ?_
      refine s_lt (t_pure fv26) ?_
      refine s_lt (t_pure (.int .i64 (errI (chk 0 l16)))) ?_
      refine s_alloc (.agg #[(.slice none 0 0), (.slice none 0 0)]) #[(.slice none 0 0), (.slice none 0 0)] (fun g32 => ?_)
      refine s_fact (fun H h => ((show Acc _ _ ObT _ _ from (accF 1)) H h).form) (fun hf33 => ?_)
      refine s_fact (fun H h => ((show Acc _ _ iTy _ _ from (accR 1)) H h).form) (fun hf34 => ?_)
      refine s_store (u := .agg #[ov24, rv25]) (m := 2) 0 #[ov24, rv25] ?_ (hm := by (obtain ⟨_, _, e0⟩ := hf33; obtain ⟨_, _, e1⟩ := hf34; rw [e0, e1]; rfl)) (h1 := by (obtain ⟨_, _, e0⟩ := hf33; obtain ⟨_, _, e1⟩ := hf34; rw [e0, e1]; rfl)) (ha' := by (obtain ⟨_, _, e0⟩ := hf33; obtain ⟨_, _, e1⟩ := hf34; rw [e0, e1]; rfl))
      refine s_lt (t_pure fv26) ?_
      refine s_lt (t_pure (.int .i64 (errI (chk 0 l16)))) ?_
      refine s_nil ?_
      refine xs_then ?_
      refine k_seq ?_
      refine k_seq ?_
      refine k_reg ?_
      refine s_lt (t_pure (.int .i64 (errI (chk 0 l)))) ?_
      refine s_lt t_cmp ?_
      refine s_nil ?_
      refine xs_then ?_
      refine k_cond (decide ((errI (chk 0 l)) ≠ 0)) (fun c35 => ?_) (fun c35 => ?_)
      ·
        have p36 := of_decide_eq_true c35
        have hc := errI_bad p36
        have hc := errI_bad p36
        have hz : l16.length = 0 := by rw [collL_bad hc] at hl18; rw [List.map_eq_nil_iff.1 hl18]; rfl
        refine k_seq ?_
        refine k_reg ?_
        refine s_lt (t_pure (.pointer (some ⟨g21, 0, none⟩))) ?_
        refine s_lt (t_load 3 ov13) ?_
        refine s_lt (t_len ObT_ok Try.underlying22 (accF 4)) ?_
        refine s_lt (Lt.to t_cmp (congrArg Value.bool (decide_eq_true (by omega) : (decide ((l16.length : Int) = 0)) = true))) ?_
        refine s_lt (t_pure (.bool true)) ?_
        refine s_vcall (fun _ h => awake_s) ?_
        rintro _ rfl
        refine s_lt (t_pure (.bool true)) ?_
        refine s_lt (t_pure (.bool true)) ?_
        refine s_nil ?_
        refine xs_then ?_
        refine k_ret ?_
        refine xs_ret ?_
        exact xs_fin [.bool true] [] (SI.tmp 2 SI.nil) (fun _ h => h.re [] [0, 0, 0, 0, 0, 0, 0]) ⟨rfl, rfl⟩
      ·
        have p37 := Decidable.not_not.1 (of_decide_eq_false c35)
        have hc := errI_ok p37; have hs := chk_asc hc
        have hc := errI_ok p37
        rw [hc, if_pos rfl] at hR19
        subst hR19
        have hag := again hc hw hl18
        rw [hag.1, if_pos rfl] at hR30
        have hsame : l16.map Ob.c = l27.map Ob.c := (hl29.trans hag.2.1).symm
        refine k_skip ?_
        refine xs_then ?_
        refine k_seq ?_
        refine k_reg ?_
        refine s_lt (t_pure (.int .i64 (errI (chk 0 l16)))) ?_
        refine s_lt (Lt.to t_cmp (congrArg Value.bool (decide_eq_true (by rw [hag.1]; rfl) : (decide ((errI (chk 0 l16)) = 0)) = true))) ?_
        refine s_lt (t_pure (.bool true)) ?_
        refine s_lt (t_loadA 3 #[ov13, rv14]) ?_
        refine s_lt (t_loadA 0 #[ov24, rv25]) ?_
        refine s_vcall (fun _ h => same_s (GrA.kn (h.frzF 4)) (GrA.kn (h.frzF 1))) ?_
        rintro u39 e38
        obtain rfl : u39 = .bool true := e38.trans (congrArg Value.bool (decide_eq_true ⟨hsame, hR30.symm⟩))
        refine s_lt (t_pure (.bool true)) ?_
        refine s_lt (t_pure (.bool true)) ?_
        refine s_lt (t_pure fv26) ?_
        refine s_lt (t_len iTy_ok Try.underlying23 (.own 2)) ?_
        refine s_lt (Lt.to t_cmp (congrArg Value.bool (decide_eq_true (by rw [hag.2.2]; rfl) : (decide (((collF l16 R17).length : Int) = 0)) = true))) ?_
        refine s_lt (t_pure (.bool true)) ?_
        refine s_lt (t_pure (.bool true)) ?_
        refine s_vcall (fun _ h => awake_s) ?_
        rintro _ rfl
        refine s_lt (t_pure (.bool true)) ?_
        refine s_lt (t_pure (.bool true)) ?_
        refine s_nil ?_
        refine xs_then ?_
        refine k_ret ?_
        exact xs_fin [.bool true] [] (SI.tmp 2 SI.nil) (fun _ h => h.re [] [0, 0, 0, 0, 0, 0, 0]) ⟨rfl, rfl⟩
end Go.Proofs.Ytjdlkemmcnncaaa
