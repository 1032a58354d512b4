/-
  WeakEntries walked. No condition but that the arguments are what the types say.
-/
import Derived.Test.YtjdlkemmcnncaaaW8
import Derived.Test.YtjdlkemmcnncaaaL5
set_option linter.unusedSimpArgs false
set_option linter.unusedVariables false
set_option maxRecDepth 100000
set_option maxHeartbeats 2000000
namespace Go.Proofs.Ytjdlkemmcnncaaa
open Go.Hp Go.J Go.S
open Go.Mem (Ty KTy blk elemAt pre suf blk_pre blk_suf aget aset strK aggDesc)
theorem entries_w {Z : Zone} {ov rv : Value} {l : List Ob} {R : List Int} (hg : KnG Z ov rv l R) : SF Try.prog 7 #[.agg #[ov, rv]] Z [] fun r Bs => r = .bool true ∧ Bs = [] := by
  refine sf_enter Try.func7 188 [(0, .agg #[ov, rv])] (fun w0 => ?_)
  refine k_seq ?_
  refine k_reg ?_
  refine s_box #[ov, rv] (fun g1 => ?_)
  refine s_lt (t_pure (.bool false)) ?_
  refine s_nil ?_
  refine xs_then ?_
  refine k_seq ?_
  refine k_seq ?_
  refine k_reg ?_
  refine s_lt (t_loadA 0 #[ov, rv]) ?_
  refine s_vcall (fun _ h => large_s (hg.up h)) ?_
  rintro _ rfl
  refine s_nil ?_
  refine xs_then ?_
  refine k_cond (largeB l R) (fun c2 => ?_) (fun c2 => ?_)
  ·
    refine k_seq ?_
    refine k_reg ?_
    refine s_vcall (fun _ h => awake_s) ?_
    rintro _ rfl
    refine s_lt (t_pure (.bool true)) ?_
    refine s_nil ?_
    refine xs_then ?_
    refine k_ret ?_
    refine xs_ret ?_
    exact xs_fin [.bool true] [] (SI.tmp 2 SI.nil) (fun _ h => h.re [] [0]) ⟨rfl, rfl⟩
  ·
    obtain ⟨hl0, hr0, hsm⟩ := small_of c2
    have hp0 := pot_le l hsm []
    have hp : pot l [] ≤ 1000000 := by omega
    have hl : l.length ≤ 100000 := by omega
    have hr : R.length ≤ 100000 := by omega
    refine k_skip ?_
    refine xs_then ?_
    refine k_seq ?_
    refine k_reg ?_
    refine s_lt (t_loadA 0 #[ov, rv]) ?_
    refine s_pcall (fun _ h => Alive_s (hg.up h) hl hp) ?_
    rintro _ _ ⟨v3, rfl, rfl⟩
    rw [alive_eq]
    refine s_fact (fun H h => ((Acc.own (T := iTy) (L := (aliveR l R)) 0 rfl) H h).form) (fun hf4 => ?_)
    refine s_lt (t_pure (.tuple #[v3, .int .i64 (errI (chk 0 l))])) ?_
    refine s_lt (t_pure v3) ?_
    refine s_lt (t_pure (.int .i64 (errI (chk 0 l)))) ?_
    refine s_lt (t_pure v3) ?_
    refine s_lt (t_pure (.int .i64 (errI (chk 0 l)))) ?_
    refine s_nil ?_
    refine xs_then ?_
    refine k_seq ?_
    refine k_reg ?_
    refine s_lt (t_loadA 1 #[ov, rv]) ?_
    refine s_pcall (fun _ h => Collect_s (hg.up h) hl hp hsm hr) ?_
    rintro _ _ ⟨ov5, rv6, fv7, l8, R9, rfl, hl10, hR11, rfl⟩
    refine s_fact (fun H h => ((Acc.own (T := iTy) (L := (collF l R)) 1 rfl) H h).form) (fun hf12 => ?_)
    refine s_lt (t_pure (.tuple #[.agg #[ov5, rv6], fv7, .int .i64 (errI (chk 0 l))])) ?_
    refine s_lt (t_pure (.agg #[ov5, rv6])) ?_
    refine s_lt (t_pure fv7) ?_
    refine s_lt (t_pure (.int .i64 (errI (chk 0 l)))) ?_
    refine s_alloc (.agg #[(.slice none 0 0), (.slice none 0 0)]) #[(.slice none 0 0), (.slice none 0 0)] (fun g13 => ?_)
    refine s_fact (fun H h => ((show Acc _ _ ObT _ _ from (accF 1)) H h).form) (fun hf14 => ?_)
    refine s_fact (fun H h => ((show Acc _ _ iTy _ _ from (accR 1)) H h).form) (fun hf15 => ?_)
    refine s_store (u := .agg #[ov5, rv6]) (m := 2) 0 #[ov5, rv6] ?_ (hm := by (obtain ⟨_, _, e0⟩ := hf14; obtain ⟨_, _, e1⟩ := hf15; rw [e0, e1]; rfl)) (h1 := by (obtain ⟨_, _, e0⟩ := hf14; obtain ⟨_, _, e1⟩ := hf15; rw [e0, e1]; rfl)) (ha' := by (obtain ⟨_, _, e0⟩ := hf14; obtain ⟨_, _, e1⟩ := hf15; rw [e0, e1]; rfl))
    refine s_lt (t_pure fv7) ?_
    refine s_lt (t_pure (.int .i64 (errI (chk 0 l)))) ?_
    refine s_nil ?_
    refine xs_then ?_
    refine k_seq ?_
    refine k_cut (ι := Unit) (fun _ => True) (fun _ => [(1, .pointer (some ⟨g1, 0, none⟩)), (2, .bool false), (3, v3), (4, .int .i64 (errI (chk 0 l))), (5, .pointer (some ⟨g13, 0, none⟩)), (6, fv7), (7, .int .i64 (errI (chk 0 l))), (35, .bool (decide ((errI (chk 0 l)) ≠ 0)))]) (fun _ => [blkA g13 #[ov5, rv6] 25, frz (GrA ov5 rv6 l8 R9), own iTy fv7 (collF l R), own iTy v3 (aliveR l R), blkA g1 #[ov, rv] 25]) ?_ (fun _ _ => ?_)
    ·
      refine k_reg ?_
      refine s_lt (t_pure (.int .i64 (errI (chk 0 l)))) ?_
      refine s_lt t_cmp ?_
      refine s_lt (t_pure (.bool (decide ((errI (chk 0 l)) ≠ 0)))) ?_
      refine s_fork 32 (decide ((errI (chk 0 l)) ≠ 0)) (fun c16 => ?_) (fun c16 => ?_)
      ·
        have p17 := of_decide_eq_true c16
        have hc := errI_bad p17
        have hc := errI_bad p17; have hz : l8.length = 0 := by rw [collL_bad hc] at hl10; rw [List.map_eq_nil_iff.1 hl10]; rfl
        have hzf := collF_bad (R := R) hc
        refine s_skip ?_
        refine s_skip ?_
        refine s_lt (t_pure (.bool true)) ?_
        refine s_nil ?_
        exact xs_cut () trivial (sub_of rfl ⟨⟨rfl, rfl⟩, ⟨⟨rfl, rfl⟩, ⟨⟨rfl, rfl⟩, ⟨⟨rfl, rfl⟩, ⟨⟨rfl, rfl⟩, ⟨⟨rfl, rfl⟩, ⟨⟨rfl, rfl⟩, ⟨⟨rfl, show Value.bool true = Value.bool (decide ((errI (chk 0 l)) ≠ 0)) by first | (simp only [c16, Bool.true_and, Bool.false_and, Bool.and_true, Bool.and_false, Bool.true_or, Bool.or_true, Bool.false_or, Bool.or_false, Bool.not_true, Bool.not_false]; done) | simp [c16]⟩, trivial⟩⟩⟩⟩⟩⟩⟩⟩) (fun _ h => h.re [0, 0, 0, 0, 0] [])
      ·
        have p18 := Decidable.not_not.1 (of_decide_eq_false c16)
        have hc := errI_ok p18; have hs := chk_asc hc
        have hc := errI_ok p18
        have hcn := coll_cnt hc hl10; rw [collL_ok hc] at hl10; have hal := alive_len l R; have hfl := collF_len l R
        refine s_lt (t_pure (.int .i64 (errI (chk 0 l)))) ?_
        refine s_lt (Lt.to t_cmp (congrArg Value.bool (c16 : (decide ((errI (chk 0 l)) ≠ 0)) = false))) ?_
        refine s_lt (t_pure (.bool false)) ?_
        refine s_nil ?_
        exact xs_cut () trivial (sub_of rfl ⟨⟨rfl, rfl⟩, ⟨⟨rfl, rfl⟩, ⟨⟨rfl, rfl⟩, ⟨⟨rfl, rfl⟩, ⟨⟨rfl, rfl⟩, ⟨⟨rfl, rfl⟩, ⟨⟨rfl, rfl⟩, ⟨⟨rfl, show Value.bool false = Value.bool (decide ((errI (chk 0 l)) ≠ 0)) by first | (simp only [c16, Bool.true_and, Bool.false_and, Bool.and_true, Bool.and_false, Bool.true_or, Bool.or_true, Bool.false_or, Bool.or_false, Bool.not_true, Bool.not_false]; done) | simp [c16]⟩, trivial⟩⟩⟩⟩⟩⟩⟩⟩) (fun _ h => h.re [0, 0, 0, 0, 0] [])
    ·
      refine k_cond (decide ((errI (chk 0 l)) ≠ 0)) (fun c19 => ?_) (fun c19 => ?_)
      ·
        have p20 := of_decide_eq_true c19
        have hc := errI_bad p20
        have hc := errI_bad p20; have hz : l8.length = 0 := by rw [collL_bad hc] at hl10; rw [List.map_eq_nil_iff.1 hl10]; rfl
        have hzf := collF_bad (R := R) hc
        refine k_seq ?_
        refine k_reg ?_
        refine s_lt (t_pure (.int .i64 (errI (chk 0 l)))) ?_
        refine s_lt (t_pure (.int .i64 (errI (chk 0 l)))) ?_
        refine s_lt (Lt.to t_cmp (congrArg Value.bool (decide_eq_true rfl : (decide ((errI (chk 0 l)) = (errI (chk 0 l)))) = true))) ?_
        refine s_lt (t_pure (.bool true)) ?_
        refine s_lt (t_pure (.pointer (some ⟨g13, 0, none⟩))) ?_
        refine s_lt (t_load 0 ov5) ?_
        refine s_lt (t_len ObT_ok Try.underlying22 (accF 1)) ?_
        refine s_lt (Lt.to t_cmp (congrArg Value.bool (decide_eq_true (by omega) : (decide ((l8.length : Int) = 0)) = true))) ?_
        refine s_lt (t_pure (.bool true)) ?_
        refine s_lt (t_pure (.bool true)) ?_
        refine s_lt (t_pure fv7) ?_
        refine s_lt (t_len iTy_ok Try.underlying23 (.own 2)) ?_
        refine s_lt (Lt.to t_cmp (congrArg Value.bool (decide_eq_true (by rw [hzf]; rfl) : (decide (((collF l R).length : Int) = 0)) = true))) ?_
        refine s_lt (t_pure (.bool true)) ?_
        refine s_lt (t_pure (.bool true)) ?_
        refine s_vcall (fun _ h => awake_s) ?_
        rintro _ rfl
        refine s_lt (t_pure (.bool true)) ?_
        refine s_lt (t_pure (.bool true)) ?_
        refine s_nil ?_
        refine xs_then ?_
        refine k_ret ?_
        refine xs_ret ?_
        exact xs_fin [.bool true] [] (SI.tmp 2 SI.nil) (fun _ h => h.re [] [0, 0, 0, 0, 0]) ⟨rfl, rfl⟩
      ·
        have p21 := Decidable.not_not.1 (of_decide_eq_false c19)
        have hc := errI_ok p21; have hs := chk_asc hc
        have hc := errI_ok p21
        have hcn := coll_cnt hc hl10; rw [collL_ok hc] at hl10; have hal := alive_len l R; have hfl := collF_len l R
        refine k_skip ?_
        refine xs_then ?_
        refine k_seq ?_
        refine k_seq ?_
        refine k_reg ?_
        refine s_lt (t_pure (.pointer (some ⟨g13, 0, none⟩))) ?_
        refine s_lt (t_load 0 ov5) ?_
        refine s_lt (t_len ObT_ok Try.underlying22 (accF 1)) ?_
        refine s_lt (t_pure v3) ?_
        refine s_lt (t_len iTy_ok Try.underlying23 (.own 3)) ?_
        refine s_lt (Lt.to t_cmp (congrArg Value.bool (decide_eq_false (by omega) : (decide ((l8.length : Int) ≠ ((aliveR l R).length : Int))) = false))) ?_
        refine s_lt (t_pure (.bool false)) ?_
        refine s_lt (t_pure fv7) ?_
        refine s_lt (t_len iTy_ok Try.underlying23 (.own 2)) ?_
        refine s_lt (t_pure (.pointer (some ⟨g1, 0, none⟩))) ?_
        refine s_lt (t_load 4 ov) ?_
        refine s_lt (t_len ObT_ok Try.underlying22 (.zn hg.obs)) ?_
        refine s_lt (t_pure v3) ?_
        refine s_lt (t_len iTy_ok Try.underlying23 (.own 3)) ?_
        refine s_lt (t_sub (l.length : Int) ((aliveR l R).length : Int) (by (try simp only [List.length_nil, List.length_cons, List.length_append, List.length_take, List.length_drop, List.length_set, List.length_replicate, List.length_reverse, bits_len]); omega)) ?_
        refine s_lt (Lt.to t_cmp (congrArg Value.bool (decide_eq_false (by omega) : (decide (((collF l R).length : Int) ≠ ((l.length : Int) - ((aliveR l R).length : Int)))) = false))) ?_
        refine s_lt (t_pure (.bool false)) ?_
        refine s_nil ?_
        refine xs_then ?_
        refine k_false ?_
        refine k_skip ?_
        refine xs_then ?_
        refine k_seq ?_
        refine k_reg ?_
        refine s_lt (t_pure (.int .i64 0)) ?_
        refine s_nil ?_
        refine xs_then ?_
        refine k_seq ?_
        refine k_seq ?_
        refine k_reg ?_
        refine s_lt (t_pure (.int .i64 0)) ?_
        refine s_nil ?_
        refine xs_then ?_
        refine k_block ?_
        refine k_loop (ι := Nat × Nat) (fun (a, i) => i ≤ l.length ∧ a = cntA (aliveR l R) (l.take i)) (fun (a, i) => [(1, .pointer (some ⟨g1, 0, none⟩)), (2, .bool false), (3, v3), (5, .pointer (some ⟨g13, 0, none⟩)), (6, fv7), (8, .int .i64 (a : Int)), (9, .int .i64 (i : Int))]) (fun (a, i) => [blkA g13 #[ov5, rv6] 25, frz (GrA ov5 rv6 l8 R9), own iTy fv7 (collF l R), own iTy v3 (aliveR l R), blkA g1 #[ov, rv] 25]) (fun (a, i) => l.length - i) (0, 0) ⟨Nat.zero_le _, rfl⟩ (sub_of rfl ⟨⟨rfl, rfl⟩, ⟨⟨rfl, rfl⟩, ⟨⟨rfl, rfl⟩, ⟨⟨rfl, rfl⟩, ⟨⟨rfl, rfl⟩, ⟨⟨rfl, rfl⟩, ⟨⟨rfl, rfl⟩, trivial⟩⟩⟩⟩⟩⟩⟩) (fun _ h => h.re [0, 0, 0, 0, 0] []) ?_
        rintro ⟨a, i⟩ hi22
        replace hi22 : i ≤ l.length ∧ a = cntA (aliveR l R) (l.take i) := hi22
        show SK _ _ _ _ _ [(1, .pointer (some ⟨g1, 0, none⟩)), (2, .bool false), (3, v3), (5, .pointer (some ⟨g13, 0, none⟩)), (6, fv7), (8, .int .i64 (a : Int)), (9, .int .i64 (i : Int))] _ [blkA g13 #[ov5, rv6] 25, frz (GrA ov5 rv6 l8 R9), own iTy fv7 (collF l R), own iTy v3 (aliveR l R), blkA g1 #[ov, rv] 25]
        refine k_seq ?_
        refine k_seq ?_
        refine k_reg ?_
        refine s_lt (t_pure (.int .i64 (i : Int))) ?_
        refine s_lt (t_pure (.pointer (some ⟨g1, 0, none⟩))) ?_
        refine s_lt (t_load 4 ov) ?_
        refine s_lt (t_len ObT_ok Try.underlying22 (.zn hg.obs)) ?_
        refine s_lt t_cmp ?_
        refine s_nil ?_
        refine xs_then ?_
        refine k_cond (decide ((i : Int) < (l.length : Int))) (fun c23 => ?_) (fun c23 => ?_)
        ·
          have p24 := of_decide_eq_true c23
          refine k_skip ?_
          refine xs_then ?_
          refine k_seq ?_
          refine k_block ?_
          refine k_seq ?_
          refine k_reg ?_
          refine s_lt (t_pure (.pointer (some ⟨g1, 0, none⟩))) ?_
          refine s_lt (t_load 4 ov) ?_
          refine s_lt (t_pure (.int .i64 (i : Int))) ?_
          refine s_lt (t_index ObT_ok Try.underlying22 (.zn hg.obs) (i : Int) i (by omega) (by (try simp only [List.length_nil, List.length_cons, List.length_append, List.length_take, List.length_drop, List.length_set, List.length_replicate, List.length_reverse, bits_len]); omega) (by omega)) ?_
          obtain ⟨y25, hy26⟩ : ∃ y, l[i]? = some y := ⟨_, List.getElem?_eq_getElem (by (try simp only [List.length_nil, List.length_cons, List.length_append, List.length_take, List.length_drop, List.length_set, List.length_replicate, List.length_reverse, bits_len]); omega)⟩
          have hk27 := hg.each y25 (List.mem_of_getElem? hy26)
          have hsy := hsm y25 (List.mem_of_getElem? hy26)
          refine s_lt (t_loadE ObT_ok (.zn hg.obs) hy26) ?_
          refine s_alloc (.agg #[.int .i64 0, .int .i64 0, .int .i64 0, (.slice none 0 0), (.slice none 0 0)]) #[.int .i64 0, .int .i64 0, .int .i64 0, (.slice none 0 0), (.slice none 0 0)] (fun g28 => ?_)
          refine s_store 0 #[.int .i64 y25.id, .int .i64 y25.size, .int .i64 y25.weak, y25.rv.v, y25.ev.v] ?_
          refine s_nil ?_
          refine xs_then ?_
          refine k_seq ?_
          refine k_seq ?_
          refine k_reg ?_
          refine s_lt (t_pure v3) ?_
          refine s_lt (t_pure (.pointer (some ⟨g28, 0, none⟩))) ?_
          refine s_lt (t_load 0 (.int .i64 y25.id)) ?_
          refine s_vcall (fun _ h => in_s y25.id (Acc.kn (.own 4) h) (alive_asc l R) (by omega)) ?_
          rintro _ rfl
          refine s_lt (t_pure (.bool (!(decide (y25.id ∈ (aliveR l R)))))) ?_
          refine s_nil ?_
          refine xs_then ?_
          refine k_cond (!(decide (y25.id ∈ (aliveR l R)))) (fun c29 => ?_) (fun c29 => ?_)
          ·
            have c30 := not_t c29
            have p31 := of_decide_eq_false c30
            refine k_seq ?_
            refine k_seq ?_
            refine k_reg ?_
            refine s_lt (t_pure fv7) ?_
            refine s_lt (t_pure (.pointer (some ⟨g28, 0, none⟩))) ?_
            refine s_lt (t_load 0 (.int .i64 y25.id)) ?_
            refine s_vcall (fun _ h => in_s y25.id (Acc.kn (.own 3) h) (collF_asc l R) (by omega)) ?_
            rintro u33 e32
            obtain rfl : u33 = .bool true := e32.trans (congrArg Value.bool (decide_eq_true (mem_collF hc (List.mem_of_getElem? hy26) p31)))
            refine s_lt (t_pure (.bool false)) ?_
            refine s_nil ?_
            refine xs_then ?_
            refine k_false ?_
            refine k_skip ?_
            refine xs_then ?_
            refine k_exit ?_
            refine xs_exit ?_
            refine xs_here ?_
            refine xs_then ?_
            refine k_reg ?_
            refine s_lt (t_pure (.int .i64 (i : Int))) ?_
            refine s_lt (t_add (i : Int) 1 (by (try simp only [List.length_nil, List.length_cons, List.length_append, List.length_take, List.length_drop, List.length_set, List.length_replicate, List.length_reverse, bits_len]); omega)) ?_
            refine s_lt (t_pure (.int .i64 ((i : Int) + 1))) ?_
            refine s_nil ?_
            exact xs_round (a, i + 1) (by show l.length - (i + 1) < l.length - i; omega) (by obtain ⟨hi1, hi2⟩ := hi22; refine ⟨by omega, ?_⟩; rw [cntA_no hy26 p31]; exact hi2) (sub_of rfl ⟨⟨rfl, rfl⟩, ⟨⟨rfl, rfl⟩, ⟨⟨rfl, rfl⟩, ⟨⟨rfl, rfl⟩, ⟨⟨rfl, rfl⟩, ⟨⟨rfl, rfl⟩, ⟨⟨rfl, rfl⟩, trivial⟩⟩⟩⟩⟩⟩⟩) (fun _ h => h.re [1, 1, 1, 1, 1] [5])
          ·
            have c34 := not_f c29
            have p35 := of_decide_eq_true c34
            obtain ⟨xx36, hx37, hxc38⟩ := coll_at hl10 hy26 p35
            rw [← hi22.2] at hx37
            have hxl := (List.getElem?_eq_some_iff.1 hx37).1
            have hxid : xx36.id = y25.id := congrArg (fun q : Core => q.1) hxc38
            have hxweak : xx36.weak = y25.weak := congrArg (fun q : Core => q.2.2.1) hxc38
            have hxrefs : xx36.refs = y25.refs := congrArg (fun q : Core => q.2.2.2.1) hxc38
            have hxents : xx36.ents = y25.ents.filter (keepB (aliveR l R) y25.weak) := congrArg (fun q : Core => q.2.2.2.2) hxc38
            have hwk := chk_weak hc y25 (List.mem_of_getElem? hy26)
            refine k_skip ?_
            refine xs_then ?_
            refine k_seq ?_
            refine k_reg ?_
            refine s_lt (t_pure (.pointer (some ⟨g13, 0, none⟩))) ?_
            refine s_lt (t_load 1 ov5) ?_
            refine s_lt (t_pure (.int .i64 (a : Int))) ?_
            refine s_lt (t_index ObT_ok Try.underlying22 (accF 2) (a : Int) a (by omega) (by (try simp only [List.length_nil, List.length_cons, List.length_append, List.length_take, List.length_drop, List.length_set, List.length_replicate, List.length_reverse, bits_len]); omega) (by omega)) ?_
            refine s_lt (t_loadE ObT_ok (accF 2) hx37) ?_
            refine s_alloc (.agg #[.int .i64 0, .int .i64 0, .int .i64 0, (.slice none 0 0), (.slice none 0 0)]) #[.int .i64 0, .int .i64 0, .int .i64 0, (.slice none 0 0), (.slice none 0 0)] (fun g39 => ?_)
            refine s_store 0 #[.int .i64 xx36.id, .int .i64 xx36.size, .int .i64 xx36.weak, xx36.rv.v, xx36.ev.v] ?_
            refine s_nil ?_
            refine xs_then ?_
            refine k_seq ?_
            refine k_reg ?_
            refine s_lt (t_pure (.int .i64 (a : Int))) ?_
            refine s_lt (t_add (a : Int) 1 (by (try simp only [List.length_nil, List.length_cons, List.length_append, List.length_take, List.length_drop, List.length_set, List.length_replicate, List.length_reverse, bits_len]); omega)) ?_
            refine s_lt (t_pure (.int .i64 ((a : Int) + 1))) ?_
            refine s_nil ?_
            refine xs_then ?_
            refine k_seq ?_
            refine k_seq ?_
            refine k_reg ?_
            refine s_lt (t_pure (.pointer (some ⟨g39, 0, none⟩))) ?_
            refine s_lt (t_load 0 (.int .i64 xx36.id)) ?_
            refine s_lt (t_pure (.pointer (some ⟨g28, 0, none⟩))) ?_
            refine s_lt (t_load 1 (.int .i64 y25.id)) ?_
            refine s_lt (Lt.to t_cmp (congrArg Value.bool (decide_eq_false (fun h => h hxid) : (decide (xx36.id ≠ y25.id)) = false))) ?_
            refine s_lt (t_pure (.bool false)) ?_
            refine s_lt (t_pure (.pointer (some ⟨g39, 2, none⟩))) ?_
            refine s_lt (t_load 0 (.int .i64 xx36.weak)) ?_
            refine s_lt (t_pure (.pointer (some ⟨g28, 2, none⟩))) ?_
            refine s_lt (t_load 1 (.int .i64 y25.weak)) ?_
            refine s_lt (Lt.to t_cmp (congrArg Value.bool (decide_eq_false (fun h => h hxweak) : (decide (xx36.weak ≠ y25.weak)) = false))) ?_
            refine s_lt (t_pure (.bool false)) ?_
            refine s_lt (t_pure (.bool false)) ?_
            refine s_lt (t_pure (.pointer (some ⟨g39, 3, none⟩))) ?_
            refine s_lt (t_load 0 xx36.rv.v) ?_
            refine s_lt (t_pure (.pointer (some ⟨g28, 3, none⟩))) ?_
            refine s_lt (t_load 1 y25.rv.v) ?_
            refine s_vcall (fun _ h => ints_s (Acc.kn (accE1 3 (List.mem_of_getElem? hx37)) h) (Acc.kn (.zn hk27.1) h)) ?_
            rintro u41 e40
            obtain rfl : u41 = .bool true := e40.trans (congrArg Value.bool (decide_eq_true hxrefs))
            refine s_lt (t_pure (.bool false)) ?_
            refine s_lt (t_pure (.bool false)) ?_
            refine s_nil ?_
            refine xs_then ?_
            refine k_false ?_
            refine k_skip ?_
            refine xs_then ?_
            refine k_seq ?_
            refine k_reg ?_
            refine s_lt (t_pure (.int .i64 0)) ?_
            refine s_nil ?_
            refine xs_then ?_
            refine k_seq ?_
            refine k_seq ?_
            refine k_reg ?_
            refine s_lt (t_pure (.int .i64 0)) ?_
            refine s_nil ?_
            refine xs_then ?_
            refine k_block ?_
            refine k_loop (ι := Nat × Nat) (fun (n, k) => k ≤ y25.ents.length ∧ n = ((y25.ents.take k).filter (keepB (aliveR l R) y25.weak)).length) (fun (n, k) => [(1, .pointer (some ⟨g1, 0, none⟩)), (2, .bool false), (3, v3), (5, .pointer (some ⟨g13, 0, none⟩)), (6, fv7), (8, .int .i64 ((a : Int) + 1)), (9, .int .i64 (i : Int)), (10, .pointer (some ⟨g28, 0, none⟩)), (11, .pointer (some ⟨g39, 0, none⟩)), (12, .int .i64 (n : Int)), (13, .int .i64 (k : Int)), (70, .int .i64 (i : Int)), (71, .pointer (some ⟨g1, 0, none⟩)), (72, ov), (73, .int .i64 (l.length : Int)), (74, .bool (decide ((i : Int) < (l.length : Int)))), (77, .pointer (some ⟨g1, 0, none⟩)), (78, ov), (79, .int .i64 (i : Int)), (80, .pointer (some (elemAt ObT.size ov i))), (81, .agg #[.int .i64 y25.id, .int .i64 y25.size, .int .i64 y25.weak, y25.rv.v, y25.ev.v]), (82, v3), (83, .pointer (some ⟨g28, 0, none⟩)), (84, .int .i64 y25.id), (85, .bool (decide (y25.id ∈ (aliveR l R)))), (86, .bool (!(decide (y25.id ∈ (aliveR l R))))), (92, .pointer (some ⟨g13, 0, none⟩)), (93, ov5), (94, .int .i64 (a : Int)), (95, .pointer (some (elemAt ObT.size ov5 a))), (96, .agg #[.int .i64 xx36.id, .int .i64 xx36.size, .int .i64 xx36.weak, xx36.rv.v, xx36.ev.v]), (97, .int .i64 (a : Int)), (98, .int .i64 ((a : Int) + 1)), (99, .pointer (some ⟨g39, 0, none⟩)), (100, .int .i64 xx36.id), (101, .pointer (some ⟨g28, 0, none⟩)), (102, .int .i64 y25.id), (103, .bool false), (104, .bool false), (105, .pointer (some ⟨g39, 2, none⟩)), (106, .int .i64 xx36.weak), (107, .pointer (some ⟨g28, 2, none⟩)), (108, .int .i64 y25.weak), (109, .bool false), (110, .bool false), (111, .bool false), (112, .pointer (some ⟨g39, 3, none⟩)), (113, xx36.rv.v), (114, .pointer (some ⟨g28, 3, none⟩)), (115, y25.rv.v), (116, .bool true), (117, .bool false), (118, .bool false)]) (fun (n, k) => [blkA g39 #[.int .i64 xx36.id, .int .i64 xx36.size, .int .i64 xx36.weak, xx36.rv.v, xx36.ev.v] 42, blkA g28 #[.int .i64 y25.id, .int .i64 y25.size, .int .i64 y25.weak, y25.rv.v, y25.ev.v] 42, blkA g13 #[ov5, rv6] 25, frz (GrA ov5 rv6 l8 R9), own iTy fv7 (collF l R), own iTy v3 (aliveR l R), blkA g1 #[ov, rv] 25]) (fun (n, k) => y25.ents.length - k) (0, 0) ⟨Nat.zero_le _, rfl⟩ (sub_of rfl ⟨⟨rfl, rfl⟩, ⟨⟨rfl, rfl⟩, ⟨⟨rfl, rfl⟩, ⟨⟨rfl, rfl⟩, ⟨⟨rfl, rfl⟩, ⟨⟨rfl, rfl⟩, ⟨⟨rfl, rfl⟩, ⟨⟨rfl, rfl⟩, ⟨⟨rfl, rfl⟩, ⟨⟨rfl, rfl⟩, ⟨⟨rfl, rfl⟩, ⟨⟨rfl, rfl⟩, ⟨⟨rfl, rfl⟩, ⟨⟨rfl, rfl⟩, ⟨⟨rfl, rfl⟩, ⟨⟨rfl, rfl⟩, ⟨⟨rfl, rfl⟩, ⟨⟨rfl, rfl⟩, ⟨⟨rfl, rfl⟩, ⟨⟨rfl, rfl⟩, ⟨⟨rfl, rfl⟩, ⟨⟨rfl, rfl⟩, ⟨⟨rfl, rfl⟩, ⟨⟨rfl, rfl⟩, ⟨⟨rfl, rfl⟩, ⟨⟨rfl, rfl⟩, ⟨⟨rfl, rfl⟩, ⟨⟨rfl, rfl⟩, ⟨⟨rfl, rfl⟩, ⟨⟨rfl, rfl⟩, ⟨⟨rfl, rfl⟩, ⟨⟨rfl, rfl⟩, ⟨⟨rfl, rfl⟩, ⟨⟨rfl, rfl⟩, ⟨⟨rfl, rfl⟩, ⟨⟨rfl, rfl⟩, ⟨⟨rfl, rfl⟩, ⟨⟨rfl, rfl⟩, ⟨⟨rfl, rfl⟩, ⟨⟨rfl, rfl⟩, ⟨⟨rfl, rfl⟩, ⟨⟨rfl, rfl⟩, ⟨⟨rfl, rfl⟩, ⟨⟨rfl, rfl⟩, ⟨⟨rfl, rfl⟩, ⟨⟨rfl, rfl⟩, ⟨⟨rfl, rfl⟩, ⟨⟨rfl, rfl⟩, ⟨⟨rfl, rfl⟩, ⟨⟨rfl, rfl⟩, ⟨⟨rfl, rfl⟩, ⟨⟨rfl, rfl⟩, ⟨⟨rfl, rfl⟩, trivial⟩⟩⟩⟩⟩⟩⟩⟩⟩⟩⟩⟩⟩⟩⟩⟩⟩⟩⟩⟩⟩⟩⟩⟩⟩⟩⟩⟩⟩⟩⟩⟩⟩⟩⟩⟩⟩⟩⟩⟩⟩⟩⟩⟩⟩⟩⟩⟩⟩⟩⟩⟩⟩) (fun _ h => h.re [0, 0, 0, 0, 0, 0, 0] []) ?_
            rintro ⟨n, k⟩ hi42
            replace hi42 : k ≤ y25.ents.length ∧ n = ((y25.ents.take k).filter (keepB (aliveR l R) y25.weak)).length := hi42
            show SK _ _ _ _ _ [(1, .pointer (some ⟨g1, 0, none⟩)), (2, .bool false), (3, v3), (5, .pointer (some ⟨g13, 0, none⟩)), (6, fv7), (8, .int .i64 ((a : Int) + 1)), (9, .int .i64 (i : Int)), (10, .pointer (some ⟨g28, 0, none⟩)), (11, .pointer (some ⟨g39, 0, none⟩)), (12, .int .i64 (n : Int)), (13, .int .i64 (k : Int)), (70, .int .i64 (i : Int)), (71, .pointer (some ⟨g1, 0, none⟩)), (72, ov), (73, .int .i64 (l.length : Int)), (74, .bool (decide ((i : Int) < (l.length : Int)))), (77, .pointer (some ⟨g1, 0, none⟩)), (78, ov), (79, .int .i64 (i : Int)), (80, .pointer (some (elemAt ObT.size ov i))), (81, .agg #[.int .i64 y25.id, .int .i64 y25.size, .int .i64 y25.weak, y25.rv.v, y25.ev.v]), (82, v3), (83, .pointer (some ⟨g28, 0, none⟩)), (84, .int .i64 y25.id), (85, .bool (decide (y25.id ∈ (aliveR l R)))), (86, .bool (!(decide (y25.id ∈ (aliveR l R))))), (92, .pointer (some ⟨g13, 0, none⟩)), (93, ov5), (94, .int .i64 (a : Int)), (95, .pointer (some (elemAt ObT.size ov5 a))), (96, .agg #[.int .i64 xx36.id, .int .i64 xx36.size, .int .i64 xx36.weak, xx36.rv.v, xx36.ev.v]), (97, .int .i64 (a : Int)), (98, .int .i64 ((a : Int) + 1)), (99, .pointer (some ⟨g39, 0, none⟩)), (100, .int .i64 xx36.id), (101, .pointer (some ⟨g28, 0, none⟩)), (102, .int .i64 y25.id), (103, .bool false), (104, .bool false), (105, .pointer (some ⟨g39, 2, none⟩)), (106, .int .i64 xx36.weak), (107, .pointer (some ⟨g28, 2, none⟩)), (108, .int .i64 y25.weak), (109, .bool false), (110, .bool false), (111, .bool false), (112, .pointer (some ⟨g39, 3, none⟩)), (113, xx36.rv.v), (114, .pointer (some ⟨g28, 3, none⟩)), (115, y25.rv.v), (116, .bool true), (117, .bool false), (118, .bool false)] _ [blkA g39 #[.int .i64 xx36.id, .int .i64 xx36.size, .int .i64 xx36.weak, xx36.rv.v, xx36.ev.v] 42, blkA g28 #[.int .i64 y25.id, .int .i64 y25.size, .int .i64 y25.weak, y25.rv.v, y25.ev.v] 42, blkA g13 #[ov5, rv6] 25, frz (GrA ov5 rv6 l8 R9), own iTy fv7 (collF l R), own iTy v3 (aliveR l R), blkA g1 #[ov, rv] 25]
            have hfk := List.length_filter_le (keepB (aliveR l R) y25.weak) (y25.ents.take k); rw [List.length_take] at hfk
            refine k_seq ?_
            refine k_seq ?_
            refine k_reg ?_
            refine s_lt (t_pure (.int .i64 (k : Int))) ?_
            refine s_lt (t_pure (.pointer (some ⟨g28, 4, none⟩))) ?_
            refine s_lt (t_load 1 y25.ev.v) ?_
            refine s_lt (t_len EntT_ok Try.underlying40 (.zn hk27.2)) ?_
            refine s_lt t_cmp ?_
            refine s_nil ?_
            refine xs_then ?_
            refine k_cond (decide ((k : Int) < (y25.ents.length : Int))) (fun c43 => ?_) (fun c43 => ?_)
            ·
              have p44 := of_decide_eq_true c43
              refine k_skip ?_
              refine xs_then ?_
              refine k_seq ?_
              refine k_block ?_
              refine k_seq ?_
              refine k_reg ?_
              refine s_lt (t_pure (.pointer (some ⟨g28, 4, none⟩))) ?_
              refine s_lt (t_load 1 y25.ev.v) ?_
              refine s_lt (t_pure (.int .i64 (k : Int))) ?_
              refine s_lt (t_index EntT_ok Try.underlying40 (.zn hk27.2) (k : Int) k (by omega) (by (try simp only [List.length_nil, List.length_cons, List.length_append, List.length_take, List.length_drop, List.length_set, List.length_replicate, List.length_reverse, bits_len]); omega) (by omega)) ?_
              obtain ⟨y45, hy46⟩ : ∃ y, y25.ents[k]? = some y := ⟨_, List.getElem?_eq_getElem (by (try simp only [List.length_nil, List.length_cons, List.length_append, List.length_take, List.length_drop, List.length_set, List.length_replicate, List.length_reverse, bits_len]); omega)⟩
              refine s_lt (t_loadE EntT_ok (.zn hk27.2) hy46) ?_
              refine s_alloc (.agg #[.int .i64 0, .int .i64 0]) #[.int .i64 0, .int .i64 0] (fun g47 => ?_)
              refine s_store 0 #[.int .i64 y45.key, .int .i64 y45.val] ?_
              refine s_nil ?_
              refine xs_then ?_
              refine k_cut (ι := Unit) (fun _ => True) (fun _ => [(1, .pointer (some ⟨g1, 0, none⟩)), (2, .bool false), (3, v3), (5, .pointer (some ⟨g13, 0, none⟩)), (6, fv7), (8, .int .i64 ((a : Int) + 1)), (9, .int .i64 (i : Int)), (10, .pointer (some ⟨g28, 0, none⟩)), (11, .pointer (some ⟨g39, 0, none⟩)), (12, .int .i64 (n : Int)), (13, .int .i64 (k : Int)), (14, .pointer (some ⟨g47, 0, none⟩)), (15, .bool (bif (decide ((andI .i64 y25.weak 1) ≠ 0)) then (bif (decide (y45.key ≠ 0)) then ((!(decide (y45.key ∈ (aliveR l R)))) || ((decide ((andI .i64 y25.weak 2) ≠ 0)) && ((decide (y45.val ≠ 0)) && (!(decide (y45.val ∈ (aliveR l R))))))) else ((decide ((andI .i64 y25.weak 2) ≠ 0)) && ((decide (y45.val ≠ 0)) && (!(decide (y45.val ∈ (aliveR l R))))))) else ((decide ((andI .i64 y25.weak 2) ≠ 0)) && ((decide (y45.val ≠ 0)) && (!(decide (y45.val ∈ (aliveR l R)))))))), (70, .int .i64 (i : Int)), (71, .pointer (some ⟨g1, 0, none⟩)), (72, ov), (73, .int .i64 (l.length : Int)), (74, .bool (decide ((i : Int) < (l.length : Int)))), (77, .pointer (some ⟨g1, 0, none⟩)), (78, ov), (79, .int .i64 (i : Int)), (80, .pointer (some (elemAt ObT.size ov i))), (81, .agg #[.int .i64 y25.id, .int .i64 y25.size, .int .i64 y25.weak, y25.rv.v, y25.ev.v]), (82, v3), (83, .pointer (some ⟨g28, 0, none⟩)), (84, .int .i64 y25.id), (85, .bool (decide (y25.id ∈ (aliveR l R)))), (86, .bool (!(decide (y25.id ∈ (aliveR l R))))), (92, .pointer (some ⟨g13, 0, none⟩)), (93, ov5), (94, .int .i64 (a : Int)), (95, .pointer (some (elemAt ObT.size ov5 a))), (96, .agg #[.int .i64 xx36.id, .int .i64 xx36.size, .int .i64 xx36.weak, xx36.rv.v, xx36.ev.v]), (97, .int .i64 (a : Int)), (98, .int .i64 ((a : Int) + 1)), (99, .pointer (some ⟨g39, 0, none⟩)), (100, .int .i64 xx36.id), (101, .pointer (some ⟨g28, 0, none⟩)), (102, .int .i64 y25.id), (103, .bool false), (104, .bool false), (105, .pointer (some ⟨g39, 2, none⟩)), (106, .int .i64 xx36.weak), (107, .pointer (some ⟨g28, 2, none⟩)), (108, .int .i64 y25.weak), (109, .bool false), (110, .bool false), (111, .bool false), (112, .pointer (some ⟨g39, 3, none⟩)), (113, xx36.rv.v), (114, .pointer (some ⟨g28, 3, none⟩)), (115, y25.rv.v), (116, .bool true), (117, .bool false), (118, .bool false), (119, .int .i64 (k : Int)), (120, .pointer (some ⟨g28, 4, none⟩)), (121, y25.ev.v), (122, .int .i64 (y25.ents.length : Int)), (123, .bool (decide ((k : Int) < (y25.ents.length : Int)))), (126, .pointer (some ⟨g28, 4, none⟩)), (127, y25.ev.v), (128, .int .i64 (k : Int)), (129, .pointer (some (elemAt EntT.size y25.ev.v k))), (130, .agg #[.int .i64 y45.key, .int .i64 y45.val]), (131, .pointer (some ⟨g28, 2, none⟩)), (132, .int .i64 y25.weak), (133, .int .i64 (andI .i64 y25.weak 1)), (134, .bool (decide ((andI .i64 y25.weak 1) ≠ 0))), (135, .bool (decide ((andI .i64 y25.weak 1) ≠ 0))), (139, .bool ((decide ((andI .i64 y25.weak 1) ≠ 0)) && (decide (y45.key ≠ 0)))), (140, .bool ((decide ((andI .i64 y25.weak 1) ≠ 0)) && (decide (y45.key ≠ 0)))), (146, .bool ((decide ((andI .i64 y25.weak 1) ≠ 0)) && ((decide (y45.key ≠ 0)) && (!(decide (y45.key ∈ (aliveR l R))))))), (147, .bool ((decide ((andI .i64 y25.weak 1) ≠ 0)) && ((decide (y45.key ≠ 0)) && (!(decide (y45.key ∈ (aliveR l R))))))), (164, .bool (bif (decide ((andI .i64 y25.weak 1) ≠ 0)) then (bif (decide (y45.key ≠ 0)) then ((!(decide (y45.key ∈ (aliveR l R)))) || ((decide ((andI .i64 y25.weak 2) ≠ 0)) && ((decide (y45.val ≠ 0)) && (!(decide (y45.val ∈ (aliveR l R))))))) else ((decide ((andI .i64 y25.weak 2) ≠ 0)) && ((decide (y45.val ≠ 0)) && (!(decide (y45.val ∈ (aliveR l R))))))) else ((decide ((andI .i64 y25.weak 2) ≠ 0)) && ((decide (y45.val ≠ 0)) && (!(decide (y45.val ∈ (aliveR l R))))))))]) (fun _ => [blkA g47 #[.int .i64 y45.key, .int .i64 y45.val] 45, blkA g39 #[.int .i64 xx36.id, .int .i64 xx36.size, .int .i64 xx36.weak, xx36.rv.v, xx36.ev.v] 42, blkA g28 #[.int .i64 y25.id, .int .i64 y25.size, .int .i64 y25.weak, y25.rv.v, y25.ev.v] 42, blkA g13 #[ov5, rv6] 25, frz (GrA ov5 rv6 l8 R9), own iTy fv7 (collF l R), own iTy v3 (aliveR l R), blkA g1 #[ov, rv] 25]) ?_ (fun _ _ => ?_)
              ·
                refine k_reg ?_
                refine s_lt (t_pure (.pointer (some ⟨g28, 2, none⟩))) ?_
                refine s_lt (t_load 2 (.int .i64 y25.weak)) ?_
                refine s_lt (t_and y25.weak 1) ?_
                refine s_lt t_cmp ?_
                refine s_lt (t_pure (.bool (decide ((andI .i64 y25.weak 1) ≠ 0)))) ?_
                refine s_fork 135 (decide ((andI .i64 y25.weak 1) ≠ 0)) (fun c48 => ?_) (fun c48 => ?_)
                ·
                  have p49 := of_decide_eq_true c48
                  refine s_lt (t_pure (.pointer (some ⟨g47, 0, none⟩))) ?_
                  refine s_lt (t_load 0 (.int .i64 y45.key)) ?_
                  refine s_lt t_cmp ?_
                  refine s_lt (t_pure (.bool (decide (y45.key ≠ 0)))) ?_
                  refine s_lt (t_pure (.bool (decide (y45.key ≠ 0)))) ?_
                  refine s_fork 140 (decide (y45.key ≠ 0)) (fun c50 => ?_) (fun c50 => ?_)
                  ·
                    have p51 := of_decide_eq_true c50
                    refine s_lt (t_pure v3) ?_
                    refine s_lt (t_pure (.pointer (some ⟨g47, 0, none⟩))) ?_
                    refine s_lt (t_load 0 (.int .i64 y45.key)) ?_
                    refine s_vcall (fun _ h => in_s y45.key (Acc.kn (.own 6) h) (alive_asc l R) (by omega)) ?_
                    rintro _ rfl
                    refine s_lt (t_pure (.bool (!(decide (y45.key ∈ (aliveR l R)))))) ?_
                    refine s_lt (t_pure (.bool (!(decide (y45.key ∈ (aliveR l R)))))) ?_
                    refine s_lt (t_pure (.bool (!(decide (y45.key ∈ (aliveR l R)))))) ?_
                    refine s_fork 147 (!(decide (y45.key ∈ (aliveR l R)))) (fun c52 => ?_) (fun c52 => ?_)
                    ·
                      have c53 := not_t c52
                      have p54 := of_decide_eq_false c53
                      refine s_skip ?_
                      refine s_skip ?_
                      refine s_skip ?_
                      refine s_skip ?_
                      refine s_skip ?_
                      refine s_skip ?_
                      refine s_skip ?_
                      refine s_skip ?_
                      refine s_skip ?_
                      refine s_skip ?_
                      refine s_skip ?_
                      refine s_skip ?_
                      refine s_skip ?_
                      refine s_skip ?_
                      refine s_skip ?_
                      refine s_skip ?_
                      refine s_lt (t_pure (.bool true)) ?_
                      refine s_lt (t_pure (.bool true)) ?_
                      refine s_nil ?_
                      exact xs_cut () trivial (sub_of rfl ⟨⟨rfl, rfl⟩, ⟨⟨rfl, rfl⟩, ⟨⟨rfl, rfl⟩, ⟨⟨rfl, rfl⟩, ⟨⟨rfl, rfl⟩, ⟨⟨rfl, rfl⟩, ⟨⟨rfl, rfl⟩, ⟨⟨rfl, rfl⟩, ⟨⟨rfl, rfl⟩, ⟨⟨rfl, rfl⟩, ⟨⟨rfl, rfl⟩, ⟨⟨rfl, rfl⟩, ⟨⟨rfl, show Value.bool true = Value.bool (bif (decide ((andI .i64 y25.weak 1) ≠ 0)) then (bif (decide (y45.key ≠ 0)) then ((!(decide (y45.key ∈ (aliveR l R)))) || ((decide ((andI .i64 y25.weak 2) ≠ 0)) && ((decide (y45.val ≠ 0)) && (!(decide (y45.val ∈ (aliveR l R))))))) else ((decide ((andI .i64 y25.weak 2) ≠ 0)) && ((decide (y45.val ≠ 0)) && (!(decide (y45.val ∈ (aliveR l R))))))) else ((decide ((andI .i64 y25.weak 2) ≠ 0)) && ((decide (y45.val ≠ 0)) && (!(decide (y45.val ∈ (aliveR l R))))))) by first | (simp only [c48, c50, c52, Bool.true_and, Bool.false_and, Bool.and_true, Bool.and_false, Bool.true_or, Bool.or_true, Bool.false_or, Bool.or_false, Bool.not_true, Bool.not_false]; done) | simp [c48, c50, c52]⟩, ⟨⟨rfl, rfl⟩, ⟨⟨rfl, rfl⟩, ⟨⟨rfl, rfl⟩, ⟨⟨rfl, rfl⟩, ⟨⟨rfl, rfl⟩, ⟨⟨rfl, rfl⟩, ⟨⟨rfl, rfl⟩, ⟨⟨rfl, rfl⟩, ⟨⟨rfl, rfl⟩, ⟨⟨rfl, rfl⟩, ⟨⟨rfl, rfl⟩, ⟨⟨rfl, rfl⟩, ⟨⟨rfl, rfl⟩, ⟨⟨rfl, rfl⟩, ⟨⟨rfl, rfl⟩, ⟨⟨rfl, rfl⟩, ⟨⟨rfl, rfl⟩, ⟨⟨rfl, rfl⟩, ⟨⟨rfl, rfl⟩, ⟨⟨rfl, rfl⟩, ⟨⟨rfl, rfl⟩, ⟨⟨rfl, rfl⟩, ⟨⟨rfl, rfl⟩, ⟨⟨rfl, rfl⟩, ⟨⟨rfl, rfl⟩, ⟨⟨rfl, rfl⟩, ⟨⟨rfl, rfl⟩, ⟨⟨rfl, rfl⟩, ⟨⟨rfl, rfl⟩, ⟨⟨rfl, rfl⟩, ⟨⟨rfl, rfl⟩, ⟨⟨rfl, rfl⟩, ⟨⟨rfl, rfl⟩, ⟨⟨rfl, rfl⟩, ⟨⟨rfl, rfl⟩, ⟨⟨rfl, rfl⟩, ⟨⟨rfl, rfl⟩, ⟨⟨rfl, rfl⟩, ⟨⟨rfl, rfl⟩, ⟨⟨rfl, rfl⟩, ⟨⟨rfl, rfl⟩, ⟨⟨rfl, rfl⟩, ⟨⟨rfl, rfl⟩, ⟨⟨rfl, rfl⟩, ⟨⟨rfl, rfl⟩, ⟨⟨rfl, rfl⟩, ⟨⟨rfl, rfl⟩, ⟨⟨rfl, rfl⟩, ⟨⟨rfl, rfl⟩, ⟨⟨rfl, rfl⟩, ⟨⟨rfl, rfl⟩, ⟨⟨rfl, rfl⟩, ⟨⟨rfl, rfl⟩, ⟨⟨rfl, rfl⟩, ⟨⟨rfl, rfl⟩, ⟨⟨rfl, rfl⟩, ⟨⟨rfl, show Value.bool true = Value.bool (decide ((andI .i64 y25.weak 1) ≠ 0)) by first | (simp only [c48, c50, c52, Bool.true_and, Bool.false_and, Bool.and_true, Bool.and_false, Bool.true_or, Bool.or_true, Bool.false_or, Bool.or_false, Bool.not_true, Bool.not_false]; done) | simp [c48, c50, c52]⟩, ⟨⟨rfl, show Value.bool (decide (y45.key ≠ 0)) = Value.bool ((decide ((andI .i64 y25.weak 1) ≠ 0)) && (decide (y45.key ≠ 0))) by first | (simp only [c48, c50, c52, Bool.true_and, Bool.false_and, Bool.and_true, Bool.and_false, Bool.true_or, Bool.or_true, Bool.false_or, Bool.or_false, Bool.not_true, Bool.not_false]; done) | simp [c48, c50, c52]⟩, ⟨⟨rfl, show Value.bool true = Value.bool ((decide ((andI .i64 y25.weak 1) ≠ 0)) && (decide (y45.key ≠ 0))) by first | (simp only [c48, c50, c52, Bool.true_and, Bool.false_and, Bool.and_true, Bool.and_false, Bool.true_or, Bool.or_true, Bool.false_or, Bool.or_false, Bool.not_true, Bool.not_false]; done) | simp [c48, c50, c52]⟩, ⟨⟨rfl, show Value.bool (!(decide (y45.key ∈ (aliveR l R)))) = Value.bool ((decide ((andI .i64 y25.weak 1) ≠ 0)) && ((decide (y45.key ≠ 0)) && (!(decide (y45.key ∈ (aliveR l R)))))) by first | (simp only [c48, c50, c52, Bool.true_and, Bool.false_and, Bool.and_true, Bool.and_false, Bool.true_or, Bool.or_true, Bool.false_or, Bool.or_false, Bool.not_true, Bool.not_false]; done) | simp [c48, c50, c52]⟩, ⟨⟨rfl, show Value.bool true = Value.bool ((decide ((andI .i64 y25.weak 1) ≠ 0)) && ((decide (y45.key ≠ 0)) && (!(decide (y45.key ∈ (aliveR l R)))))) by first | (simp only [c48, c50, c52, Bool.true_and, Bool.false_and, Bool.and_true, Bool.and_false, Bool.true_or, Bool.or_true, Bool.false_or, Bool.or_false, Bool.not_true, Bool.not_false]; done) | simp [c48, c50, c52]⟩, ⟨⟨rfl, show Value.bool true = Value.bool (bif (decide ((andI .i64 y25.weak 1) ≠ 0)) then (bif (decide (y45.key ≠ 0)) then ((!(decide (y45.key ∈ (aliveR l R)))) || ((decide ((andI .i64 y25.weak 2) ≠ 0)) && ((decide (y45.val ≠ 0)) && (!(decide (y45.val ∈ (aliveR l R))))))) else ((decide ((andI .i64 y25.weak 2) ≠ 0)) && ((decide (y45.val ≠ 0)) && (!(decide (y45.val ∈ (aliveR l R))))))) else ((decide ((andI .i64 y25.weak 2) ≠ 0)) && ((decide (y45.val ≠ 0)) && (!(decide (y45.val ∈ (aliveR l R))))))) by first | (simp only [c48, c50, c52, Bool.true_and, Bool.false_and, Bool.and_true, Bool.and_false, Bool.true_or, Bool.or_true, Bool.false_or, Bool.or_false, Bool.not_true, Bool.not_false]; done) | simp [c48, c50, c52]⟩, trivial⟩⟩⟩⟩⟩⟩⟩⟩⟩⟩⟩⟩⟩⟩⟩⟩⟩⟩⟩⟩⟩⟩⟩⟩⟩⟩⟩⟩⟩⟩⟩⟩⟩⟩⟩⟩⟩⟩⟩⟩⟩⟩⟩⟩⟩⟩⟩⟩⟩⟩⟩⟩⟩⟩⟩⟩⟩⟩⟩⟩⟩⟩⟩⟩⟩⟩⟩⟩⟩⟩⟩⟩⟩⟩⟩) (fun _ h => h.re [0, 0, 0, 0, 0, 0, 0, 0] [])
                    ·
                      have c55 := not_f c52
                      have p56 := of_decide_eq_true c55
                      refine s_lt (t_pure (.pointer (some ⟨g28, 2, none⟩))) ?_
                      refine s_lt (t_load 2 (.int .i64 y25.weak)) ?_
                      refine s_lt (t_and y25.weak 2) ?_
                      refine s_lt t_cmp ?_
                      refine s_lt (t_pure (.bool (decide ((andI .i64 y25.weak 2) ≠ 0)))) ?_
                      refine s_fork 152 (decide ((andI .i64 y25.weak 2) ≠ 0)) (fun c57 => ?_) (fun c57 => ?_)
                      ·
                        have p58 := of_decide_eq_true c57
                        refine s_lt (t_pure (.pointer (some ⟨g47, 1, none⟩))) ?_
                        refine s_lt (t_load 0 (.int .i64 y45.val)) ?_
                        refine s_lt t_cmp ?_
                        refine s_lt (t_pure (.bool (decide (y45.val ≠ 0)))) ?_
                        refine s_lt (t_pure (.bool (decide (y45.val ≠ 0)))) ?_
                        refine s_fork 157 (decide (y45.val ≠ 0)) (fun c59 => ?_) (fun c59 => ?_)
                        ·
                          have p60 := of_decide_eq_true c59
                          refine s_lt (t_pure v3) ?_
                          refine s_lt (t_pure (.pointer (some ⟨g47, 1, none⟩))) ?_
                          refine s_lt (t_load 0 (.int .i64 y45.val)) ?_
                          refine s_vcall (fun _ h => in_s y45.val (Acc.kn (.own 6) h) (alive_asc l R) (by omega)) ?_
                          rintro _ rfl
                          refine s_lt (t_pure (.bool (!(decide (y45.val ∈ (aliveR l R)))))) ?_
                          refine s_lt (t_pure (.bool (!(decide (y45.val ∈ (aliveR l R)))))) ?_
                          refine s_lt (t_pure (.bool (!(decide (y45.val ∈ (aliveR l R)))))) ?_
                          refine s_lt (t_pure (.bool (!(decide (y45.val ∈ (aliveR l R)))))) ?_
                          refine s_nil ?_
                          exact xs_cut () trivial (sub_of rfl ⟨⟨rfl, rfl⟩, ⟨⟨rfl, rfl⟩, ⟨⟨rfl, rfl⟩, ⟨⟨rfl, rfl⟩, ⟨⟨rfl, rfl⟩, ⟨⟨rfl, rfl⟩, ⟨⟨rfl, rfl⟩, ⟨⟨rfl, rfl⟩, ⟨⟨rfl, rfl⟩, ⟨⟨rfl, rfl⟩, ⟨⟨rfl, rfl⟩, ⟨⟨rfl, rfl⟩, ⟨⟨rfl, show Value.bool (!(decide (y45.val ∈ (aliveR l R)))) = Value.bool (bif (decide ((andI .i64 y25.weak 1) ≠ 0)) then (bif (decide (y45.key ≠ 0)) then ((!(decide (y45.key ∈ (aliveR l R)))) || ((decide ((andI .i64 y25.weak 2) ≠ 0)) && ((decide (y45.val ≠ 0)) && (!(decide (y45.val ∈ (aliveR l R))))))) else ((decide ((andI .i64 y25.weak 2) ≠ 0)) && ((decide (y45.val ≠ 0)) && (!(decide (y45.val ∈ (aliveR l R))))))) else ((decide ((andI .i64 y25.weak 2) ≠ 0)) && ((decide (y45.val ≠ 0)) && (!(decide (y45.val ∈ (aliveR l R))))))) by first | (simp only [c48, c50, c52, c57, c59, Bool.true_and, Bool.false_and, Bool.and_true, Bool.and_false, Bool.true_or, Bool.or_true, Bool.false_or, Bool.or_false, Bool.not_true, Bool.not_false]; done) | simp [c48, c50, c52, c57, c59]⟩, ⟨⟨rfl, rfl⟩, ⟨⟨rfl, rfl⟩, ⟨⟨rfl, rfl⟩, ⟨⟨rfl, rfl⟩, ⟨⟨rfl, rfl⟩, ⟨⟨rfl, rfl⟩, ⟨⟨rfl, rfl⟩, ⟨⟨rfl, rfl⟩, ⟨⟨rfl, rfl⟩, ⟨⟨rfl, rfl⟩, ⟨⟨rfl, rfl⟩, ⟨⟨rfl, rfl⟩, ⟨⟨rfl, rfl⟩, ⟨⟨rfl, rfl⟩, ⟨⟨rfl, rfl⟩, ⟨⟨rfl, rfl⟩, ⟨⟨rfl, rfl⟩, ⟨⟨rfl, rfl⟩, ⟨⟨rfl, rfl⟩, ⟨⟨rfl, rfl⟩, ⟨⟨rfl, rfl⟩, ⟨⟨rfl, rfl⟩, ⟨⟨rfl, rfl⟩, ⟨⟨rfl, rfl⟩, ⟨⟨rfl, rfl⟩, ⟨⟨rfl, rfl⟩, ⟨⟨rfl, rfl⟩, ⟨⟨rfl, rfl⟩, ⟨⟨rfl, rfl⟩, ⟨⟨rfl, rfl⟩, ⟨⟨rfl, rfl⟩, ⟨⟨rfl, rfl⟩, ⟨⟨rfl, rfl⟩, ⟨⟨rfl, rfl⟩, ⟨⟨rfl, rfl⟩, ⟨⟨rfl, rfl⟩, ⟨⟨rfl, rfl⟩, ⟨⟨rfl, rfl⟩, ⟨⟨rfl, rfl⟩, ⟨⟨rfl, rfl⟩, ⟨⟨rfl, rfl⟩, ⟨⟨rfl, rfl⟩, ⟨⟨rfl, rfl⟩, ⟨⟨rfl, rfl⟩, ⟨⟨rfl, rfl⟩, ⟨⟨rfl, rfl⟩, ⟨⟨rfl, rfl⟩, ⟨⟨rfl, rfl⟩, ⟨⟨rfl, rfl⟩, ⟨⟨rfl, rfl⟩, ⟨⟨rfl, rfl⟩, ⟨⟨rfl, rfl⟩, ⟨⟨rfl, rfl⟩, ⟨⟨rfl, rfl⟩, ⟨⟨rfl, rfl⟩, ⟨⟨rfl, rfl⟩, ⟨⟨rfl, show Value.bool true = Value.bool (decide ((andI .i64 y25.weak 1) ≠ 0)) by first | (simp only [c48, c50, c52, c57, c59, Bool.true_and, Bool.false_and, Bool.and_true, Bool.and_false, Bool.true_or, Bool.or_true, Bool.false_or, Bool.or_false, Bool.not_true, Bool.not_false]; done) | simp [c48, c50, c52, c57, c59]⟩, ⟨⟨rfl, show Value.bool (decide (y45.key ≠ 0)) = Value.bool ((decide ((andI .i64 y25.weak 1) ≠ 0)) && (decide (y45.key ≠ 0))) by first | (simp only [c48, c50, c52, c57, c59, Bool.true_and, Bool.false_and, Bool.and_true, Bool.and_false, Bool.true_or, Bool.or_true, Bool.false_or, Bool.or_false, Bool.not_true, Bool.not_false]; done) | simp [c48, c50, c52, c57, c59]⟩, ⟨⟨rfl, show Value.bool true = Value.bool ((decide ((andI .i64 y25.weak 1) ≠ 0)) && (decide (y45.key ≠ 0))) by first | (simp only [c48, c50, c52, c57, c59, Bool.true_and, Bool.false_and, Bool.and_true, Bool.and_false, Bool.true_or, Bool.or_true, Bool.false_or, Bool.or_false, Bool.not_true, Bool.not_false]; done) | simp [c48, c50, c52, c57, c59]⟩, ⟨⟨rfl, show Value.bool (!(decide (y45.key ∈ (aliveR l R)))) = Value.bool ((decide ((andI .i64 y25.weak 1) ≠ 0)) && ((decide (y45.key ≠ 0)) && (!(decide (y45.key ∈ (aliveR l R)))))) by first | (simp only [c48, c50, c52, c57, c59, Bool.true_and, Bool.false_and, Bool.and_true, Bool.and_false, Bool.true_or, Bool.or_true, Bool.false_or, Bool.or_false, Bool.not_true, Bool.not_false]; done) | simp [c48, c50, c52, c57, c59]⟩, ⟨⟨rfl, show Value.bool false = Value.bool ((decide ((andI .i64 y25.weak 1) ≠ 0)) && ((decide (y45.key ≠ 0)) && (!(decide (y45.key ∈ (aliveR l R)))))) by first | (simp only [c48, c50, c52, c57, c59, Bool.true_and, Bool.false_and, Bool.and_true, Bool.and_false, Bool.true_or, Bool.or_true, Bool.false_or, Bool.or_false, Bool.not_true, Bool.not_false]; done) | simp [c48, c50, c52, c57, c59]⟩, ⟨⟨rfl, show Value.bool (!(decide (y45.val ∈ (aliveR l R)))) = Value.bool (bif (decide ((andI .i64 y25.weak 1) ≠ 0)) then (bif (decide (y45.key ≠ 0)) then ((!(decide (y45.key ∈ (aliveR l R)))) || ((decide ((andI .i64 y25.weak 2) ≠ 0)) && ((decide (y45.val ≠ 0)) && (!(decide (y45.val ∈ (aliveR l R))))))) else ((decide ((andI .i64 y25.weak 2) ≠ 0)) && ((decide (y45.val ≠ 0)) && (!(decide (y45.val ∈ (aliveR l R))))))) else ((decide ((andI .i64 y25.weak 2) ≠ 0)) && ((decide (y45.val ≠ 0)) && (!(decide (y45.val ∈ (aliveR l R))))))) by first | (simp only [c48, c50, c52, c57, c59, Bool.true_and, Bool.false_and, Bool.and_true, Bool.and_false, Bool.true_or, Bool.or_true, Bool.false_or, Bool.or_false, Bool.not_true, Bool.not_false]; done) | simp [c48, c50, c52, c57, c59]⟩, trivial⟩⟩⟩⟩⟩⟩⟩⟩⟩⟩⟩⟩⟩⟩⟩⟩⟩⟩⟩⟩⟩⟩⟩⟩⟩⟩⟩⟩⟩⟩⟩⟩⟩⟩⟩⟩⟩⟩⟩⟩⟩⟩⟩⟩⟩⟩⟩⟩⟩⟩⟩⟩⟩⟩⟩⟩⟩⟩⟩⟩⟩⟩⟩⟩⟩⟩⟩⟩⟩⟩⟩⟩⟩⟩⟩) (fun _ h => h.re [0, 0, 0, 0, 0, 0, 0, 0] [])
                        ·
                          have p61 := Decidable.not_not.1 (of_decide_eq_false c59)
                          refine s_skip ?_
                          refine s_skip ?_
                          refine s_skip ?_
                          refine s_skip ?_
                          refine s_skip ?_
                          refine s_lt (t_pure (.bool false)) ?_
                          refine s_lt (t_pure (.bool false)) ?_
                          refine s_lt (t_pure (.bool false)) ?_
                          refine s_nil ?_
                          exact xs_cut () trivial (sub_of rfl ⟨⟨rfl, rfl⟩, ⟨⟨rfl, rfl⟩, ⟨⟨rfl, rfl⟩, ⟨⟨rfl, rfl⟩, ⟨⟨rfl, rfl⟩, ⟨⟨rfl, rfl⟩, ⟨⟨rfl, rfl⟩, ⟨⟨rfl, rfl⟩, ⟨⟨rfl, rfl⟩, ⟨⟨rfl, rfl⟩, ⟨⟨rfl, rfl⟩, ⟨⟨rfl, rfl⟩, ⟨⟨rfl, show Value.bool false = Value.bool (bif (decide ((andI .i64 y25.weak 1) ≠ 0)) then (bif (decide (y45.key ≠ 0)) then ((!(decide (y45.key ∈ (aliveR l R)))) || ((decide ((andI .i64 y25.weak 2) ≠ 0)) && ((decide (y45.val ≠ 0)) && (!(decide (y45.val ∈ (aliveR l R))))))) else ((decide ((andI .i64 y25.weak 2) ≠ 0)) && ((decide (y45.val ≠ 0)) && (!(decide (y45.val ∈ (aliveR l R))))))) else ((decide ((andI .i64 y25.weak 2) ≠ 0)) && ((decide (y45.val ≠ 0)) && (!(decide (y45.val ∈ (aliveR l R))))))) by first | (simp only [c48, c50, c52, c57, c59, Bool.true_and, Bool.false_and, Bool.and_true, Bool.and_false, Bool.true_or, Bool.or_true, Bool.false_or, Bool.or_false, Bool.not_true, Bool.not_false]; done) | simp [c48, c50, c52, c57, c59]⟩, ⟨⟨rfl, rfl⟩, ⟨⟨rfl, rfl⟩, ⟨⟨rfl, rfl⟩, ⟨⟨rfl, rfl⟩, ⟨⟨rfl, rfl⟩, ⟨⟨rfl, rfl⟩, ⟨⟨rfl, rfl⟩, ⟨⟨rfl, rfl⟩, ⟨⟨rfl, rfl⟩, ⟨⟨rfl, rfl⟩, ⟨⟨rfl, rfl⟩, ⟨⟨rfl, rfl⟩, ⟨⟨rfl, rfl⟩, ⟨⟨rfl, rfl⟩, ⟨⟨rfl, rfl⟩, ⟨⟨rfl, rfl⟩, ⟨⟨rfl, rfl⟩, ⟨⟨rfl, rfl⟩, ⟨⟨rfl, rfl⟩, ⟨⟨rfl, rfl⟩, ⟨⟨rfl, rfl⟩, ⟨⟨rfl, rfl⟩, ⟨⟨rfl, rfl⟩, ⟨⟨rfl, rfl⟩, ⟨⟨rfl, rfl⟩, ⟨⟨rfl, rfl⟩, ⟨⟨rfl, rfl⟩, ⟨⟨rfl, rfl⟩, ⟨⟨rfl, rfl⟩, ⟨⟨rfl, rfl⟩, ⟨⟨rfl, rfl⟩, ⟨⟨rfl, rfl⟩, ⟨⟨rfl, rfl⟩, ⟨⟨rfl, rfl⟩, ⟨⟨rfl, rfl⟩, ⟨⟨rfl, rfl⟩, ⟨⟨rfl, rfl⟩, ⟨⟨rfl, rfl⟩, ⟨⟨rfl, rfl⟩, ⟨⟨rfl, rfl⟩, ⟨⟨rfl, rfl⟩, ⟨⟨rfl, rfl⟩, ⟨⟨rfl, rfl⟩, ⟨⟨rfl, rfl⟩, ⟨⟨rfl, rfl⟩, ⟨⟨rfl, rfl⟩, ⟨⟨rfl, rfl⟩, ⟨⟨rfl, rfl⟩, ⟨⟨rfl, rfl⟩, ⟨⟨rfl, rfl⟩, ⟨⟨rfl, rfl⟩, ⟨⟨rfl, rfl⟩, ⟨⟨rfl, rfl⟩, ⟨⟨rfl, rfl⟩, ⟨⟨rfl, rfl⟩, ⟨⟨rfl, rfl⟩, ⟨⟨rfl, show Value.bool true = Value.bool (decide ((andI .i64 y25.weak 1) ≠ 0)) by first | (simp only [c48, c50, c52, c57, c59, Bool.true_and, Bool.false_and, Bool.and_true, Bool.and_false, Bool.true_or, Bool.or_true, Bool.false_or, Bool.or_false, Bool.not_true, Bool.not_false]; done) | simp [c48, c50, c52, c57, c59]⟩, ⟨⟨rfl, show Value.bool (decide (y45.key ≠ 0)) = Value.bool ((decide ((andI .i64 y25.weak 1) ≠ 0)) && (decide (y45.key ≠ 0))) by first | (simp only [c48, c50, c52, c57, c59, Bool.true_and, Bool.false_and, Bool.and_true, Bool.and_false, Bool.true_or, Bool.or_true, Bool.false_or, Bool.or_false, Bool.not_true, Bool.not_false]; done) | simp [c48, c50, c52, c57, c59]⟩, ⟨⟨rfl, show Value.bool true = Value.bool ((decide ((andI .i64 y25.weak 1) ≠ 0)) && (decide (y45.key ≠ 0))) by first | (simp only [c48, c50, c52, c57, c59, Bool.true_and, Bool.false_and, Bool.and_true, Bool.and_false, Bool.true_or, Bool.or_true, Bool.false_or, Bool.or_false, Bool.not_true, Bool.not_false]; done) | simp [c48, c50, c52, c57, c59]⟩, ⟨⟨rfl, show Value.bool (!(decide (y45.key ∈ (aliveR l R)))) = Value.bool ((decide ((andI .i64 y25.weak 1) ≠ 0)) && ((decide (y45.key ≠ 0)) && (!(decide (y45.key ∈ (aliveR l R)))))) by first | (simp only [c48, c50, c52, c57, c59, Bool.true_and, Bool.false_and, Bool.and_true, Bool.and_false, Bool.true_or, Bool.or_true, Bool.false_or, Bool.or_false, Bool.not_true, Bool.not_false]; done) | simp [c48, c50, c52, c57, c59]⟩, ⟨⟨rfl, show Value.bool false = Value.bool ((decide ((andI .i64 y25.weak 1) ≠ 0)) && ((decide (y45.key ≠ 0)) && (!(decide (y45.key ∈ (aliveR l R)))))) by first | (simp only [c48, c50, c52, c57, c59, Bool.true_and, Bool.false_and, Bool.and_true, Bool.and_false, Bool.true_or, Bool.or_true, Bool.false_or, Bool.or_false, Bool.not_true, Bool.not_false]; done) | simp [c48, c50, c52, c57, c59]⟩, ⟨⟨rfl, show Value.bool false = Value.bool (bif (decide ((andI .i64 y25.weak 1) ≠ 0)) then (bif (decide (y45.key ≠ 0)) then ((!(decide (y45.key ∈ (aliveR l R)))) || ((decide ((andI .i64 y25.weak 2) ≠ 0)) && ((decide (y45.val ≠ 0)) && (!(decide (y45.val ∈ (aliveR l R))))))) else ((decide ((andI .i64 y25.weak 2) ≠ 0)) && ((decide (y45.val ≠ 0)) && (!(decide (y45.val ∈ (aliveR l R))))))) else ((decide ((andI .i64 y25.weak 2) ≠ 0)) && ((decide (y45.val ≠ 0)) && (!(decide (y45.val ∈ (aliveR l R))))))) by first | (simp only [c48, c50, c52, c57, c59, Bool.true_and, Bool.false_and, Bool.and_true, Bool.and_false, Bool.true_or, Bool.or_true, Bool.false_or, Bool.or_false, Bool.not_true, Bool.not_false]; done) | simp [c48, c50, c52, c57, c59]⟩, trivial⟩⟩⟩⟩⟩⟩⟩⟩⟩⟩⟩⟩⟩⟩⟩⟩⟩⟩⟩⟩⟩⟩⟩⟩⟩⟩⟩⟩⟩⟩⟩⟩⟩⟩⟩⟩⟩⟩⟩⟩⟩⟩⟩⟩⟩⟩⟩⟩⟩⟩⟩⟩⟩⟩⟩⟩⟩⟩⟩⟩⟩⟩⟩⟩⟩⟩⟩⟩⟩⟩⟩⟩⟩⟩⟩) (fun _ h => h.re [0, 0, 0, 0, 0, 0, 0, 0] [])
                      ·
                        have p62 := Decidable.not_not.1 (of_decide_eq_false c57)
                        refine s_skip ?_
                        refine s_skip ?_
                        refine s_skip ?_
                        refine s_lt (t_pure (.bool false)) ?_
                        refine s_lt (t_pure (.bool false)) ?_
                        refine s_skip ?_
                        refine s_skip ?_
                        refine s_skip ?_
                        refine s_skip ?_
                        refine s_skip ?_
                        refine s_lt (t_pure (.bool false)) ?_
                        refine s_lt (t_pure (.bool false)) ?_
                        refine s_lt (t_pure (.bool false)) ?_
                        refine s_nil ?_
                        exact xs_cut () trivial (sub_of rfl ⟨⟨rfl, rfl⟩, ⟨⟨rfl, rfl⟩, ⟨⟨rfl, rfl⟩, ⟨⟨rfl, rfl⟩, ⟨⟨rfl, rfl⟩, ⟨⟨rfl, rfl⟩, ⟨⟨rfl, rfl⟩, ⟨⟨rfl, rfl⟩, ⟨⟨rfl, rfl⟩, ⟨⟨rfl, rfl⟩, ⟨⟨rfl, rfl⟩, ⟨⟨rfl, rfl⟩, ⟨⟨rfl, show Value.bool false = Value.bool (bif (decide ((andI .i64 y25.weak 1) ≠ 0)) then (bif (decide (y45.key ≠ 0)) then ((!(decide (y45.key ∈ (aliveR l R)))) || ((decide ((andI .i64 y25.weak 2) ≠ 0)) && ((decide (y45.val ≠ 0)) && (!(decide (y45.val ∈ (aliveR l R))))))) else ((decide ((andI .i64 y25.weak 2) ≠ 0)) && ((decide (y45.val ≠ 0)) && (!(decide (y45.val ∈ (aliveR l R))))))) else ((decide ((andI .i64 y25.weak 2) ≠ 0)) && ((decide (y45.val ≠ 0)) && (!(decide (y45.val ∈ (aliveR l R))))))) by first | (simp only [c48, c50, c52, c57, Bool.true_and, Bool.false_and, Bool.and_true, Bool.and_false, Bool.true_or, Bool.or_true, Bool.false_or, Bool.or_false, Bool.not_true, Bool.not_false]; done) | simp [c48, c50, c52, c57]⟩, ⟨⟨rfl, rfl⟩, ⟨⟨rfl, rfl⟩, ⟨⟨rfl, rfl⟩, ⟨⟨rfl, rfl⟩, ⟨⟨rfl, rfl⟩, ⟨⟨rfl, rfl⟩, ⟨⟨rfl, rfl⟩, ⟨⟨rfl, rfl⟩, ⟨⟨rfl, rfl⟩, ⟨⟨rfl, rfl⟩, ⟨⟨rfl, rfl⟩, ⟨⟨rfl, rfl⟩, ⟨⟨rfl, rfl⟩, ⟨⟨rfl, rfl⟩, ⟨⟨rfl, rfl⟩, ⟨⟨rfl, rfl⟩, ⟨⟨rfl, rfl⟩, ⟨⟨rfl, rfl⟩, ⟨⟨rfl, rfl⟩, ⟨⟨rfl, rfl⟩, ⟨⟨rfl, rfl⟩, ⟨⟨rfl, rfl⟩, ⟨⟨rfl, rfl⟩, ⟨⟨rfl, rfl⟩, ⟨⟨rfl, rfl⟩, ⟨⟨rfl, rfl⟩, ⟨⟨rfl, rfl⟩, ⟨⟨rfl, rfl⟩, ⟨⟨rfl, rfl⟩, ⟨⟨rfl, rfl⟩, ⟨⟨rfl, rfl⟩, ⟨⟨rfl, rfl⟩, ⟨⟨rfl, rfl⟩, ⟨⟨rfl, rfl⟩, ⟨⟨rfl, rfl⟩, ⟨⟨rfl, rfl⟩, ⟨⟨rfl, rfl⟩, ⟨⟨rfl, rfl⟩, ⟨⟨rfl, rfl⟩, ⟨⟨rfl, rfl⟩, ⟨⟨rfl, rfl⟩, ⟨⟨rfl, rfl⟩, ⟨⟨rfl, rfl⟩, ⟨⟨rfl, rfl⟩, ⟨⟨rfl, rfl⟩, ⟨⟨rfl, rfl⟩, ⟨⟨rfl, rfl⟩, ⟨⟨rfl, rfl⟩, ⟨⟨rfl, rfl⟩, ⟨⟨rfl, rfl⟩, ⟨⟨rfl, rfl⟩, ⟨⟨rfl, rfl⟩, ⟨⟨rfl, rfl⟩, ⟨⟨rfl, rfl⟩, ⟨⟨rfl, rfl⟩, ⟨⟨rfl, rfl⟩, ⟨⟨rfl, show Value.bool true = Value.bool (decide ((andI .i64 y25.weak 1) ≠ 0)) by first | (simp only [c48, c50, c52, c57, Bool.true_and, Bool.false_and, Bool.and_true, Bool.and_false, Bool.true_or, Bool.or_true, Bool.false_or, Bool.or_false, Bool.not_true, Bool.not_false]; done) | simp [c48, c50, c52, c57]⟩, ⟨⟨rfl, show Value.bool (decide (y45.key ≠ 0)) = Value.bool ((decide ((andI .i64 y25.weak 1) ≠ 0)) && (decide (y45.key ≠ 0))) by first | (simp only [c48, c50, c52, c57, Bool.true_and, Bool.false_and, Bool.and_true, Bool.and_false, Bool.true_or, Bool.or_true, Bool.false_or, Bool.or_false, Bool.not_true, Bool.not_false]; done) | simp [c48, c50, c52, c57]⟩, ⟨⟨rfl, show Value.bool true = Value.bool ((decide ((andI .i64 y25.weak 1) ≠ 0)) && (decide (y45.key ≠ 0))) by first | (simp only [c48, c50, c52, c57, Bool.true_and, Bool.false_and, Bool.and_true, Bool.and_false, Bool.true_or, Bool.or_true, Bool.false_or, Bool.or_false, Bool.not_true, Bool.not_false]; done) | simp [c48, c50, c52, c57]⟩, ⟨⟨rfl, show Value.bool (!(decide (y45.key ∈ (aliveR l R)))) = Value.bool ((decide ((andI .i64 y25.weak 1) ≠ 0)) && ((decide (y45.key ≠ 0)) && (!(decide (y45.key ∈ (aliveR l R)))))) by first | (simp only [c48, c50, c52, c57, Bool.true_and, Bool.false_and, Bool.and_true, Bool.and_false, Bool.true_or, Bool.or_true, Bool.false_or, Bool.or_false, Bool.not_true, Bool.not_false]; done) | simp [c48, c50, c52, c57]⟩, ⟨⟨rfl, show Value.bool false = Value.bool ((decide ((andI .i64 y25.weak 1) ≠ 0)) && ((decide (y45.key ≠ 0)) && (!(decide (y45.key ∈ (aliveR l R)))))) by first | (simp only [c48, c50, c52, c57, Bool.true_and, Bool.false_and, Bool.and_true, Bool.and_false, Bool.true_or, Bool.or_true, Bool.false_or, Bool.or_false, Bool.not_true, Bool.not_false]; done) | simp [c48, c50, c52, c57]⟩, ⟨⟨rfl, show Value.bool false = Value.bool (bif (decide ((andI .i64 y25.weak 1) ≠ 0)) then (bif (decide (y45.key ≠ 0)) then ((!(decide (y45.key ∈ (aliveR l R)))) || ((decide ((andI .i64 y25.weak 2) ≠ 0)) && ((decide (y45.val ≠ 0)) && (!(decide (y45.val ∈ (aliveR l R))))))) else ((decide ((andI .i64 y25.weak 2) ≠ 0)) && ((decide (y45.val ≠ 0)) && (!(decide (y45.val ∈ (aliveR l R))))))) else ((decide ((andI .i64 y25.weak 2) ≠ 0)) && ((decide (y45.val ≠ 0)) && (!(decide (y45.val ∈ (aliveR l R))))))) by first | (simp only [c48, c50, c52, c57, Bool.true_and, Bool.false_and, Bool.and_true, Bool.and_false, Bool.true_or, Bool.or_true, Bool.false_or, Bool.or_false, Bool.not_true, Bool.not_false]; done) | simp [c48, c50, c52, c57]⟩, trivial⟩⟩⟩⟩⟩⟩⟩⟩⟩⟩⟩⟩⟩⟩⟩⟩⟩⟩⟩⟩⟩⟩⟩⟩⟩⟩⟩⟩⟩⟩⟩⟩⟩⟩⟩⟩⟩⟩⟩⟩⟩⟩⟩⟩⟩⟩⟩⟩⟩⟩⟩⟩⟩⟩⟩⟩⟩⟩⟩⟩⟩⟩⟩⟩⟩⟩⟩⟩⟩⟩⟩⟩⟩⟩⟩) (fun _ h => h.re [0, 0, 0, 0, 0, 0, 0, 0] [])
                  ·
                    have p63 := Decidable.not_not.1 (of_decide_eq_false c50)
                    refine s_skip ?_
                    refine s_skip ?_
                    refine s_skip ?_
                    refine s_skip ?_
                    refine s_skip ?_
                    refine s_lt (t_pure (.bool false)) ?_
                    refine s_lt (t_pure (.bool false)) ?_
                    refine s_lt (t_pure (.pointer (some ⟨g28, 2, none⟩))) ?_
                    refine s_lt (t_load 2 (.int .i64 y25.weak)) ?_
                    refine s_lt (t_and y25.weak 2) ?_
                    refine s_lt t_cmp ?_
                    refine s_lt (t_pure (.bool (decide ((andI .i64 y25.weak 2) ≠ 0)))) ?_
                    refine s_fork 152 (decide ((andI .i64 y25.weak 2) ≠ 0)) (fun c64 => ?_) (fun c64 => ?_)
                    ·
                      have p65 := of_decide_eq_true c64
                      refine s_lt (t_pure (.pointer (some ⟨g47, 1, none⟩))) ?_
                      refine s_lt (t_load 0 (.int .i64 y45.val)) ?_
                      refine s_lt t_cmp ?_
                      refine s_lt (t_pure (.bool (decide (y45.val ≠ 0)))) ?_
                      refine s_lt (t_pure (.bool (decide (y45.val ≠ 0)))) ?_
                      refine s_fork 157 (decide (y45.val ≠ 0)) (fun c66 => ?_) (fun c66 => ?_)
                      ·
                        have p67 := of_decide_eq_true c66
                        refine s_lt (t_pure v3) ?_
                        refine s_lt (t_pure (.pointer (some ⟨g47, 1, none⟩))) ?_
                        refine s_lt (t_load 0 (.int .i64 y45.val)) ?_
                        refine s_vcall (fun _ h => in_s y45.val (Acc.kn (.own 6) h) (alive_asc l R) (by omega)) ?_
                        rintro _ rfl
                        refine s_lt (t_pure (.bool (!(decide (y45.val ∈ (aliveR l R)))))) ?_
                        refine s_lt (t_pure (.bool (!(decide (y45.val ∈ (aliveR l R)))))) ?_
                        refine s_lt (t_pure (.bool (!(decide (y45.val ∈ (aliveR l R)))))) ?_
                        refine s_lt (t_pure (.bool (!(decide (y45.val ∈ (aliveR l R)))))) ?_
                        refine s_nil ?_
                        exact xs_cut () trivial (sub_of rfl ⟨⟨rfl, rfl⟩, ⟨⟨rfl, rfl⟩, ⟨⟨rfl, rfl⟩, ⟨⟨rfl, rfl⟩, ⟨⟨rfl, rfl⟩, ⟨⟨rfl, rfl⟩, ⟨⟨rfl, rfl⟩, ⟨⟨rfl, rfl⟩, ⟨⟨rfl, rfl⟩, ⟨⟨rfl, rfl⟩, ⟨⟨rfl, rfl⟩, ⟨⟨rfl, rfl⟩, ⟨⟨rfl, show Value.bool (!(decide (y45.val ∈ (aliveR l R)))) = Value.bool (bif (decide ((andI .i64 y25.weak 1) ≠ 0)) then (bif (decide (y45.key ≠ 0)) then ((!(decide (y45.key ∈ (aliveR l R)))) || ((decide ((andI .i64 y25.weak 2) ≠ 0)) && ((decide (y45.val ≠ 0)) && (!(decide (y45.val ∈ (aliveR l R))))))) else ((decide ((andI .i64 y25.weak 2) ≠ 0)) && ((decide (y45.val ≠ 0)) && (!(decide (y45.val ∈ (aliveR l R))))))) else ((decide ((andI .i64 y25.weak 2) ≠ 0)) && ((decide (y45.val ≠ 0)) && (!(decide (y45.val ∈ (aliveR l R))))))) by first | (simp only [c48, c50, c64, c66, Bool.true_and, Bool.false_and, Bool.and_true, Bool.and_false, Bool.true_or, Bool.or_true, Bool.false_or, Bool.or_false, Bool.not_true, Bool.not_false]; done) | simp [c48, c50, c64, c66]⟩, ⟨⟨rfl, rfl⟩, ⟨⟨rfl, rfl⟩, ⟨⟨rfl, rfl⟩, ⟨⟨rfl, rfl⟩, ⟨⟨rfl, rfl⟩, ⟨⟨rfl, rfl⟩, ⟨⟨rfl, rfl⟩, ⟨⟨rfl, rfl⟩, ⟨⟨rfl, rfl⟩, ⟨⟨rfl, rfl⟩, ⟨⟨rfl, rfl⟩, ⟨⟨rfl, rfl⟩, ⟨⟨rfl, rfl⟩, ⟨⟨rfl, rfl⟩, ⟨⟨rfl, rfl⟩, ⟨⟨rfl, rfl⟩, ⟨⟨rfl, rfl⟩, ⟨⟨rfl, rfl⟩, ⟨⟨rfl, rfl⟩, ⟨⟨rfl, rfl⟩, ⟨⟨rfl, rfl⟩, ⟨⟨rfl, rfl⟩, ⟨⟨rfl, rfl⟩, ⟨⟨rfl, rfl⟩, ⟨⟨rfl, rfl⟩, ⟨⟨rfl, rfl⟩, ⟨⟨rfl, rfl⟩, ⟨⟨rfl, rfl⟩, ⟨⟨rfl, rfl⟩, ⟨⟨rfl, rfl⟩, ⟨⟨rfl, rfl⟩, ⟨⟨rfl, rfl⟩, ⟨⟨rfl, rfl⟩, ⟨⟨rfl, rfl⟩, ⟨⟨rfl, rfl⟩, ⟨⟨rfl, rfl⟩, ⟨⟨rfl, rfl⟩, ⟨⟨rfl, rfl⟩, ⟨⟨rfl, rfl⟩, ⟨⟨rfl, rfl⟩, ⟨⟨rfl, rfl⟩, ⟨⟨rfl, rfl⟩, ⟨⟨rfl, rfl⟩, ⟨⟨rfl, rfl⟩, ⟨⟨rfl, rfl⟩, ⟨⟨rfl, rfl⟩, ⟨⟨rfl, rfl⟩, ⟨⟨rfl, rfl⟩, ⟨⟨rfl, rfl⟩, ⟨⟨rfl, rfl⟩, ⟨⟨rfl, rfl⟩, ⟨⟨rfl, rfl⟩, ⟨⟨rfl, rfl⟩, ⟨⟨rfl, rfl⟩, ⟨⟨rfl, rfl⟩, ⟨⟨rfl, rfl⟩, ⟨⟨rfl, show Value.bool true = Value.bool (decide ((andI .i64 y25.weak 1) ≠ 0)) by first | (simp only [c48, c50, c64, c66, Bool.true_and, Bool.false_and, Bool.and_true, Bool.and_false, Bool.true_or, Bool.or_true, Bool.false_or, Bool.or_false, Bool.not_true, Bool.not_false]; done) | simp [c48, c50, c64, c66]⟩, ⟨⟨rfl, show Value.bool (decide (y45.key ≠ 0)) = Value.bool ((decide ((andI .i64 y25.weak 1) ≠ 0)) && (decide (y45.key ≠ 0))) by first | (simp only [c48, c50, c64, c66, Bool.true_and, Bool.false_and, Bool.and_true, Bool.and_false, Bool.true_or, Bool.or_true, Bool.false_or, Bool.or_false, Bool.not_true, Bool.not_false]; done) | simp [c48, c50, c64, c66]⟩, ⟨⟨rfl, show Value.bool false = Value.bool ((decide ((andI .i64 y25.weak 1) ≠ 0)) && (decide (y45.key ≠ 0))) by first | (simp only [c48, c50, c64, c66, Bool.true_and, Bool.false_and, Bool.and_true, Bool.and_false, Bool.true_or, Bool.or_true, Bool.false_or, Bool.or_false, Bool.not_true, Bool.not_false]; done) | simp [c48, c50, c64, c66]⟩, ⟨⟨rfl, show Value.bool false = Value.bool ((decide ((andI .i64 y25.weak 1) ≠ 0)) && ((decide (y45.key ≠ 0)) && (!(decide (y45.key ∈ (aliveR l R)))))) by first | (simp only [c48, c50, c64, c66, Bool.true_and, Bool.false_and, Bool.and_true, Bool.and_false, Bool.true_or, Bool.or_true, Bool.false_or, Bool.or_false, Bool.not_true, Bool.not_false]; done) | simp [c48, c50, c64, c66]⟩, ⟨⟨rfl, show Value.bool false = Value.bool ((decide ((andI .i64 y25.weak 1) ≠ 0)) && ((decide (y45.key ≠ 0)) && (!(decide (y45.key ∈ (aliveR l R)))))) by first | (simp only [c48, c50, c64, c66, Bool.true_and, Bool.false_and, Bool.and_true, Bool.and_false, Bool.true_or, Bool.or_true, Bool.false_or, Bool.or_false, Bool.not_true, Bool.not_false]; done) | simp [c48, c50, c64, c66]⟩, ⟨⟨rfl, show Value.bool (!(decide (y45.val ∈ (aliveR l R)))) = Value.bool (bif (decide ((andI .i64 y25.weak 1) ≠ 0)) then (bif (decide (y45.key ≠ 0)) then ((!(decide (y45.key ∈ (aliveR l R)))) || ((decide ((andI .i64 y25.weak 2) ≠ 0)) && ((decide (y45.val ≠ 0)) && (!(decide (y45.val ∈ (aliveR l R))))))) else ((decide ((andI .i64 y25.weak 2) ≠ 0)) && ((decide (y45.val ≠ 0)) && (!(decide (y45.val ∈ (aliveR l R))))))) else ((decide ((andI .i64 y25.weak 2) ≠ 0)) && ((decide (y45.val ≠ 0)) && (!(decide (y45.val ∈ (aliveR l R))))))) by first | (simp only [c48, c50, c64, c66, Bool.true_and, Bool.false_and, Bool.and_true, Bool.and_false, Bool.true_or, Bool.or_true, Bool.false_or, Bool.or_false, Bool.not_true, Bool.not_false]; done) | simp [c48, c50, c64, c66]⟩, trivial⟩⟩⟩⟩⟩⟩⟩⟩⟩⟩⟩⟩⟩⟩⟩⟩⟩⟩⟩⟩⟩⟩⟩⟩⟩⟩⟩⟩⟩⟩⟩⟩⟩⟩⟩⟩⟩⟩⟩⟩⟩⟩⟩⟩⟩⟩⟩⟩⟩⟩⟩⟩⟩⟩⟩⟩⟩⟩⟩⟩⟩⟩⟩⟩⟩⟩⟩⟩⟩⟩⟩⟩⟩⟩⟩) (fun _ h => h.re [0, 0, 0, 0, 0, 0, 0, 0] [])
                      ·
                        have p68 := Decidable.not_not.1 (of_decide_eq_false c66)
                        refine s_skip ?_
                        refine s_skip ?_
                        refine s_skip ?_
                        refine s_skip ?_
                        refine s_skip ?_
                        refine s_lt (t_pure (.bool false)) ?_
                        refine s_lt (t_pure (.bool false)) ?_
                        refine s_lt (t_pure (.bool false)) ?_
                        refine s_nil ?_
                        exact xs_cut () trivial (sub_of rfl ⟨⟨rfl, rfl⟩, ⟨⟨rfl, rfl⟩, ⟨⟨rfl, rfl⟩, ⟨⟨rfl, rfl⟩, ⟨⟨rfl, rfl⟩, ⟨⟨rfl, rfl⟩, ⟨⟨rfl, rfl⟩, ⟨⟨rfl, rfl⟩, ⟨⟨rfl, rfl⟩, ⟨⟨rfl, rfl⟩, ⟨⟨rfl, rfl⟩, ⟨⟨rfl, rfl⟩, ⟨⟨rfl, show Value.bool false = Value.bool (bif (decide ((andI .i64 y25.weak 1) ≠ 0)) then (bif (decide (y45.key ≠ 0)) then ((!(decide (y45.key ∈ (aliveR l R)))) || ((decide ((andI .i64 y25.weak 2) ≠ 0)) && ((decide (y45.val ≠ 0)) && (!(decide (y45.val ∈ (aliveR l R))))))) else ((decide ((andI .i64 y25.weak 2) ≠ 0)) && ((decide (y45.val ≠ 0)) && (!(decide (y45.val ∈ (aliveR l R))))))) else ((decide ((andI .i64 y25.weak 2) ≠ 0)) && ((decide (y45.val ≠ 0)) && (!(decide (y45.val ∈ (aliveR l R))))))) by first | (simp only [c48, c50, c64, c66, Bool.true_and, Bool.false_and, Bool.and_true, Bool.and_false, Bool.true_or, Bool.or_true, Bool.false_or, Bool.or_false, Bool.not_true, Bool.not_false]; done) | simp [c48, c50, c64, c66]⟩, ⟨⟨rfl, rfl⟩, ⟨⟨rfl, rfl⟩, ⟨⟨rfl, rfl⟩, ⟨⟨rfl, rfl⟩, ⟨⟨rfl, rfl⟩, ⟨⟨rfl, rfl⟩, ⟨⟨rfl, rfl⟩, ⟨⟨rfl, rfl⟩, ⟨⟨rfl, rfl⟩, ⟨⟨rfl, rfl⟩, ⟨⟨rfl, rfl⟩, ⟨⟨rfl, rfl⟩, ⟨⟨rfl, rfl⟩, ⟨⟨rfl, rfl⟩, ⟨⟨rfl, rfl⟩, ⟨⟨rfl, rfl⟩, ⟨⟨rfl, rfl⟩, ⟨⟨rfl, rfl⟩, ⟨⟨rfl, rfl⟩, ⟨⟨rfl, rfl⟩, ⟨⟨rfl, rfl⟩, ⟨⟨rfl, rfl⟩, ⟨⟨rfl, rfl⟩, ⟨⟨rfl, rfl⟩, ⟨⟨rfl, rfl⟩, ⟨⟨rfl, rfl⟩, ⟨⟨rfl, rfl⟩, ⟨⟨rfl, rfl⟩, ⟨⟨rfl, rfl⟩, ⟨⟨rfl, rfl⟩, ⟨⟨rfl, rfl⟩, ⟨⟨rfl, rfl⟩, ⟨⟨rfl, rfl⟩, ⟨⟨rfl, rfl⟩, ⟨⟨rfl, rfl⟩, ⟨⟨rfl, rfl⟩, ⟨⟨rfl, rfl⟩, ⟨⟨rfl, rfl⟩, ⟨⟨rfl, rfl⟩, ⟨⟨rfl, rfl⟩, ⟨⟨rfl, rfl⟩, ⟨⟨rfl, rfl⟩, ⟨⟨rfl, rfl⟩, ⟨⟨rfl, rfl⟩, ⟨⟨rfl, rfl⟩, ⟨⟨rfl, rfl⟩, ⟨⟨rfl, rfl⟩, ⟨⟨rfl, rfl⟩, ⟨⟨rfl, rfl⟩, ⟨⟨rfl, rfl⟩, ⟨⟨rfl, rfl⟩, ⟨⟨rfl, rfl⟩, ⟨⟨rfl, rfl⟩, ⟨⟨rfl, rfl⟩, ⟨⟨rfl, rfl⟩, ⟨⟨rfl, rfl⟩, ⟨⟨rfl, show Value.bool true = Value.bool (decide ((andI .i64 y25.weak 1) ≠ 0)) by first | (simp only [c48, c50, c64, c66, Bool.true_and, Bool.false_and, Bool.and_true, Bool.and_false, Bool.true_or, Bool.or_true, Bool.false_or, Bool.or_false, Bool.not_true, Bool.not_false]; done) | simp [c48, c50, c64, c66]⟩, ⟨⟨rfl, show Value.bool (decide (y45.key ≠ 0)) = Value.bool ((decide ((andI .i64 y25.weak 1) ≠ 0)) && (decide (y45.key ≠ 0))) by first | (simp only [c48, c50, c64, c66, Bool.true_and, Bool.false_and, Bool.and_true, Bool.and_false, Bool.true_or, Bool.or_true, Bool.false_or, Bool.or_false, Bool.not_true, Bool.not_false]; done) | simp [c48, c50, c64, c66]⟩, ⟨⟨rfl, show Value.bool false = Value.bool ((decide ((andI .i64 y25.weak 1) ≠ 0)) && (decide (y45.key ≠ 0))) by first | (simp only [c48, c50, c64, c66, Bool.true_and, Bool.false_and, Bool.and_true, Bool.and_false, Bool.true_or, Bool.or_true, Bool.false_or, Bool.or_false, Bool.not_true, Bool.not_false]; done) | simp [c48, c50, c64, c66]⟩, ⟨⟨rfl, show Value.bool false = Value.bool ((decide ((andI .i64 y25.weak 1) ≠ 0)) && ((decide (y45.key ≠ 0)) && (!(decide (y45.key ∈ (aliveR l R)))))) by first | (simp only [c48, c50, c64, c66, Bool.true_and, Bool.false_and, Bool.and_true, Bool.and_false, Bool.true_or, Bool.or_true, Bool.false_or, Bool.or_false, Bool.not_true, Bool.not_false]; done) | simp [c48, c50, c64, c66]⟩, ⟨⟨rfl, show Value.bool false = Value.bool ((decide ((andI .i64 y25.weak 1) ≠ 0)) && ((decide (y45.key ≠ 0)) && (!(decide (y45.key ∈ (aliveR l R)))))) by first | (simp only [c48, c50, c64, c66, Bool.true_and, Bool.false_and, Bool.and_true, Bool.and_false, Bool.true_or, Bool.or_true, Bool.false_or, Bool.or_false, Bool.not_true, Bool.not_false]; done) | simp [c48, c50, c64, c66]⟩, ⟨⟨rfl, show Value.bool false = Value.bool (bif (decide ((andI .i64 y25.weak 1) ≠ 0)) then (bif (decide (y45.key ≠ 0)) then ((!(decide (y45.key ∈ (aliveR l R)))) || ((decide ((andI .i64 y25.weak 2) ≠ 0)) && ((decide (y45.val ≠ 0)) && (!(decide (y45.val ∈ (aliveR l R))))))) else ((decide ((andI .i64 y25.weak 2) ≠ 0)) && ((decide (y45.val ≠ 0)) && (!(decide (y45.val ∈ (aliveR l R))))))) else ((decide ((andI .i64 y25.weak 2) ≠ 0)) && ((decide (y45.val ≠ 0)) && (!(decide (y45.val ∈ (aliveR l R))))))) by first | (simp only [c48, c50, c64, c66, Bool.true_and, Bool.false_and, Bool.and_true, Bool.and_false, Bool.true_or, Bool.or_true, Bool.false_or, Bool.or_false, Bool.not_true, Bool.not_false]; done) | simp [c48, c50, c64, c66]⟩, trivial⟩⟩⟩⟩⟩⟩⟩⟩⟩⟩⟩⟩⟩⟩⟩⟩⟩⟩⟩⟩⟩⟩⟩⟩⟩⟩⟩⟩⟩⟩⟩⟩⟩⟩⟩⟩⟩⟩⟩⟩⟩⟩⟩⟩⟩⟩⟩⟩⟩⟩⟩⟩⟩⟩⟩⟩⟩⟩⟩⟩⟩⟩⟩⟩⟩⟩⟩⟩⟩⟩⟩⟩⟩⟩⟩) (fun _ h => h.re [0, 0, 0, 0, 0, 0, 0, 0] [])
                    ·
                      have p69 := Decidable.not_not.1 (of_decide_eq_false c64)
                      refine s_skip ?_
                      refine s_skip ?_
                      refine s_skip ?_
                      refine s_lt (t_pure (.bool false)) ?_
                      refine s_lt (t_pure (.bool false)) ?_
                      refine s_skip ?_
                      refine s_skip ?_
                      refine s_skip ?_
                      refine s_skip ?_
                      refine s_skip ?_
                      refine s_lt (t_pure (.bool false)) ?_
                      refine s_lt (t_pure (.bool false)) ?_
                      refine s_lt (t_pure (.bool false)) ?_
                      refine s_nil ?_
                      exact xs_cut () trivial (sub_of rfl ⟨⟨rfl, rfl⟩, ⟨⟨rfl, rfl⟩, ⟨⟨rfl, rfl⟩, ⟨⟨rfl, rfl⟩, ⟨⟨rfl, rfl⟩, ⟨⟨rfl, rfl⟩, ⟨⟨rfl, rfl⟩, ⟨⟨rfl, rfl⟩, ⟨⟨rfl, rfl⟩, ⟨⟨rfl, rfl⟩, ⟨⟨rfl, rfl⟩, ⟨⟨rfl, rfl⟩, ⟨⟨rfl, show Value.bool false = Value.bool (bif (decide ((andI .i64 y25.weak 1) ≠ 0)) then (bif (decide (y45.key ≠ 0)) then ((!(decide (y45.key ∈ (aliveR l R)))) || ((decide ((andI .i64 y25.weak 2) ≠ 0)) && ((decide (y45.val ≠ 0)) && (!(decide (y45.val ∈ (aliveR l R))))))) else ((decide ((andI .i64 y25.weak 2) ≠ 0)) && ((decide (y45.val ≠ 0)) && (!(decide (y45.val ∈ (aliveR l R))))))) else ((decide ((andI .i64 y25.weak 2) ≠ 0)) && ((decide (y45.val ≠ 0)) && (!(decide (y45.val ∈ (aliveR l R))))))) by first | (simp only [c48, c50, c64, Bool.true_and, Bool.false_and, Bool.and_true, Bool.and_false, Bool.true_or, Bool.or_true, Bool.false_or, Bool.or_false, Bool.not_true, Bool.not_false]; done) | simp [c48, c50, c64]⟩, ⟨⟨rfl, rfl⟩, ⟨⟨rfl, rfl⟩, ⟨⟨rfl, rfl⟩, ⟨⟨rfl, rfl⟩, ⟨⟨rfl, rfl⟩, ⟨⟨rfl, rfl⟩, ⟨⟨rfl, rfl⟩, ⟨⟨rfl, rfl⟩, ⟨⟨rfl, rfl⟩, ⟨⟨rfl, rfl⟩, ⟨⟨rfl, rfl⟩, ⟨⟨rfl, rfl⟩, ⟨⟨rfl, rfl⟩, ⟨⟨rfl, rfl⟩, ⟨⟨rfl, rfl⟩, ⟨⟨rfl, rfl⟩, ⟨⟨rfl, rfl⟩, ⟨⟨rfl, rfl⟩, ⟨⟨rfl, rfl⟩, ⟨⟨rfl, rfl⟩, ⟨⟨rfl, rfl⟩, ⟨⟨rfl, rfl⟩, ⟨⟨rfl, rfl⟩, ⟨⟨rfl, rfl⟩, ⟨⟨rfl, rfl⟩, ⟨⟨rfl, rfl⟩, ⟨⟨rfl, rfl⟩, ⟨⟨rfl, rfl⟩, ⟨⟨rfl, rfl⟩, ⟨⟨rfl, rfl⟩, ⟨⟨rfl, rfl⟩, ⟨⟨rfl, rfl⟩, ⟨⟨rfl, rfl⟩, ⟨⟨rfl, rfl⟩, ⟨⟨rfl, rfl⟩, ⟨⟨rfl, rfl⟩, ⟨⟨rfl, rfl⟩, ⟨⟨rfl, rfl⟩, ⟨⟨rfl, rfl⟩, ⟨⟨rfl, rfl⟩, ⟨⟨rfl, rfl⟩, ⟨⟨rfl, rfl⟩, ⟨⟨rfl, rfl⟩, ⟨⟨rfl, rfl⟩, ⟨⟨rfl, rfl⟩, ⟨⟨rfl, rfl⟩, ⟨⟨rfl, rfl⟩, ⟨⟨rfl, rfl⟩, ⟨⟨rfl, rfl⟩, ⟨⟨rfl, rfl⟩, ⟨⟨rfl, rfl⟩, ⟨⟨rfl, rfl⟩, ⟨⟨rfl, rfl⟩, ⟨⟨rfl, rfl⟩, ⟨⟨rfl, rfl⟩, ⟨⟨rfl, rfl⟩, ⟨⟨rfl, show Value.bool true = Value.bool (decide ((andI .i64 y25.weak 1) ≠ 0)) by first | (simp only [c48, c50, c64, Bool.true_and, Bool.false_and, Bool.and_true, Bool.and_false, Bool.true_or, Bool.or_true, Bool.false_or, Bool.or_false, Bool.not_true, Bool.not_false]; done) | simp [c48, c50, c64]⟩, ⟨⟨rfl, show Value.bool (decide (y45.key ≠ 0)) = Value.bool ((decide ((andI .i64 y25.weak 1) ≠ 0)) && (decide (y45.key ≠ 0))) by first | (simp only [c48, c50, c64, Bool.true_and, Bool.false_and, Bool.and_true, Bool.and_false, Bool.true_or, Bool.or_true, Bool.false_or, Bool.or_false, Bool.not_true, Bool.not_false]; done) | simp [c48, c50, c64]⟩, ⟨⟨rfl, show Value.bool false = Value.bool ((decide ((andI .i64 y25.weak 1) ≠ 0)) && (decide (y45.key ≠ 0))) by first | (simp only [c48, c50, c64, Bool.true_and, Bool.false_and, Bool.and_true, Bool.and_false, Bool.true_or, Bool.or_true, Bool.false_or, Bool.or_false, Bool.not_true, Bool.not_false]; done) | simp [c48, c50, c64]⟩, ⟨⟨rfl, show Value.bool false = Value.bool ((decide ((andI .i64 y25.weak 1) ≠ 0)) && ((decide (y45.key ≠ 0)) && (!(decide (y45.key ∈ (aliveR l R)))))) by first | (simp only [c48, c50, c64, Bool.true_and, Bool.false_and, Bool.and_true, Bool.and_false, Bool.true_or, Bool.or_true, Bool.false_or, Bool.or_false, Bool.not_true, Bool.not_false]; done) | simp [c48, c50, c64]⟩, ⟨⟨rfl, show Value.bool false = Value.bool ((decide ((andI .i64 y25.weak 1) ≠ 0)) && ((decide (y45.key ≠ 0)) && (!(decide (y45.key ∈ (aliveR l R)))))) by first | (simp only [c48, c50, c64, Bool.true_and, Bool.false_and, Bool.and_true, Bool.and_false, Bool.true_or, Bool.or_true, Bool.false_or, Bool.or_false, Bool.not_true, Bool.not_false]; done) | simp [c48, c50, c64]⟩, ⟨⟨rfl, show Value.bool false = Value.bool (bif (decide ((andI .i64 y25.weak 1) ≠ 0)) then (bif (decide (y45.key ≠ 0)) then ((!(decide (y45.key ∈ (aliveR l R)))) || ((decide ((andI .i64 y25.weak 2) ≠ 0)) && ((decide (y45.val ≠ 0)) && (!(decide (y45.val ∈ (aliveR l R))))))) else ((decide ((andI .i64 y25.weak 2) ≠ 0)) && ((decide (y45.val ≠ 0)) && (!(decide (y45.val ∈ (aliveR l R))))))) else ((decide ((andI .i64 y25.weak 2) ≠ 0)) && ((decide (y45.val ≠ 0)) && (!(decide (y45.val ∈ (aliveR l R))))))) by first | (simp only [c48, c50, c64, Bool.true_and, Bool.false_and, Bool.and_true, Bool.and_false, Bool.true_or, Bool.or_true, Bool.false_or, Bool.or_false, Bool.not_true, Bool.not_false]; done) | simp [c48, c50, c64]⟩, trivial⟩⟩⟩⟩⟩⟩⟩⟩⟩⟩⟩⟩⟩⟩⟩⟩⟩⟩⟩⟩⟩⟩⟩⟩⟩⟩⟩⟩⟩⟩⟩⟩⟩⟩⟩⟩⟩⟩⟩⟩⟩⟩⟩⟩⟩⟩⟩⟩⟩⟩⟩⟩⟩⟩⟩⟩⟩⟩⟩⟩⟩⟩⟩⟩⟩⟩⟩⟩⟩⟩⟩⟩⟩⟩⟩) (fun _ h => h.re [0, 0, 0, 0, 0, 0, 0, 0] [])
                ·
                  have p70 := Decidable.not_not.1 (of_decide_eq_false c48)
                  refine s_skip ?_
                  refine s_skip ?_
                  refine s_skip ?_
                  refine s_lt (t_pure (.bool false)) ?_
                  refine s_lt (t_pure (.bool false)) ?_
                  refine s_skip ?_
                  refine s_skip ?_
                  refine s_skip ?_
                  refine s_skip ?_
                  refine s_skip ?_
                  refine s_lt (t_pure (.bool false)) ?_
                  refine s_lt (t_pure (.bool false)) ?_
                  refine s_lt (t_pure (.pointer (some ⟨g28, 2, none⟩))) ?_
                  refine s_lt (t_load 2 (.int .i64 y25.weak)) ?_
                  refine s_lt (t_and y25.weak 2) ?_
                  refine s_lt t_cmp ?_
                  refine s_lt (t_pure (.bool (decide ((andI .i64 y25.weak 2) ≠ 0)))) ?_
                  refine s_fork 152 (decide ((andI .i64 y25.weak 2) ≠ 0)) (fun c71 => ?_) (fun c71 => ?_)
                  ·
                    have p72 := of_decide_eq_true c71
                    refine s_lt (t_pure (.pointer (some ⟨g47, 1, none⟩))) ?_
                    refine s_lt (t_load 0 (.int .i64 y45.val)) ?_
                    refine s_lt t_cmp ?_
                    refine s_lt (t_pure (.bool (decide (y45.val ≠ 0)))) ?_
                    refine s_lt (t_pure (.bool (decide (y45.val ≠ 0)))) ?_
                    refine s_fork 157 (decide (y45.val ≠ 0)) (fun c73 => ?_) (fun c73 => ?_)
                    ·
                      have p74 := of_decide_eq_true c73
                      refine s_lt (t_pure v3) ?_
                      refine s_lt (t_pure (.pointer (some ⟨g47, 1, none⟩))) ?_
                      refine s_lt (t_load 0 (.int .i64 y45.val)) ?_
                      refine s_vcall (fun _ h => in_s y45.val (Acc.kn (.own 6) h) (alive_asc l R) (by omega)) ?_
                      rintro _ rfl
                      refine s_lt (t_pure (.bool (!(decide (y45.val ∈ (aliveR l R)))))) ?_
                      refine s_lt (t_pure (.bool (!(decide (y45.val ∈ (aliveR l R)))))) ?_
                      refine s_lt (t_pure (.bool (!(decide (y45.val ∈ (aliveR l R)))))) ?_
                      refine s_lt (t_pure (.bool (!(decide (y45.val ∈ (aliveR l R)))))) ?_
                      refine s_nil ?_
                      exact xs_cut () trivial (sub_of rfl ⟨⟨rfl, rfl⟩, ⟨⟨rfl, rfl⟩, ⟨⟨rfl, rfl⟩, ⟨⟨rfl, rfl⟩, ⟨⟨rfl, rfl⟩, ⟨⟨rfl, rfl⟩, ⟨⟨rfl, rfl⟩, ⟨⟨rfl, rfl⟩, ⟨⟨rfl, rfl⟩, ⟨⟨rfl, rfl⟩, ⟨⟨rfl, rfl⟩, ⟨⟨rfl, rfl⟩, ⟨⟨rfl, show Value.bool (!(decide (y45.val ∈ (aliveR l R)))) = Value.bool (bif (decide ((andI .i64 y25.weak 1) ≠ 0)) then (bif (decide (y45.key ≠ 0)) then ((!(decide (y45.key ∈ (aliveR l R)))) || ((decide ((andI .i64 y25.weak 2) ≠ 0)) && ((decide (y45.val ≠ 0)) && (!(decide (y45.val ∈ (aliveR l R))))))) else ((decide ((andI .i64 y25.weak 2) ≠ 0)) && ((decide (y45.val ≠ 0)) && (!(decide (y45.val ∈ (aliveR l R))))))) else ((decide ((andI .i64 y25.weak 2) ≠ 0)) && ((decide (y45.val ≠ 0)) && (!(decide (y45.val ∈ (aliveR l R))))))) by first | (simp only [c48, c71, c73, Bool.true_and, Bool.false_and, Bool.and_true, Bool.and_false, Bool.true_or, Bool.or_true, Bool.false_or, Bool.or_false, Bool.not_true, Bool.not_false]; done) | simp [c48, c71, c73]⟩, ⟨⟨rfl, rfl⟩, ⟨⟨rfl, rfl⟩, ⟨⟨rfl, rfl⟩, ⟨⟨rfl, rfl⟩, ⟨⟨rfl, rfl⟩, ⟨⟨rfl, rfl⟩, ⟨⟨rfl, rfl⟩, ⟨⟨rfl, rfl⟩, ⟨⟨rfl, rfl⟩, ⟨⟨rfl, rfl⟩, ⟨⟨rfl, rfl⟩, ⟨⟨rfl, rfl⟩, ⟨⟨rfl, rfl⟩, ⟨⟨rfl, rfl⟩, ⟨⟨rfl, rfl⟩, ⟨⟨rfl, rfl⟩, ⟨⟨rfl, rfl⟩, ⟨⟨rfl, rfl⟩, ⟨⟨rfl, rfl⟩, ⟨⟨rfl, rfl⟩, ⟨⟨rfl, rfl⟩, ⟨⟨rfl, rfl⟩, ⟨⟨rfl, rfl⟩, ⟨⟨rfl, rfl⟩, ⟨⟨rfl, rfl⟩, ⟨⟨rfl, rfl⟩, ⟨⟨rfl, rfl⟩, ⟨⟨rfl, rfl⟩, ⟨⟨rfl, rfl⟩, ⟨⟨rfl, rfl⟩, ⟨⟨rfl, rfl⟩, ⟨⟨rfl, rfl⟩, ⟨⟨rfl, rfl⟩, ⟨⟨rfl, rfl⟩, ⟨⟨rfl, rfl⟩, ⟨⟨rfl, rfl⟩, ⟨⟨rfl, rfl⟩, ⟨⟨rfl, rfl⟩, ⟨⟨rfl, rfl⟩, ⟨⟨rfl, rfl⟩, ⟨⟨rfl, rfl⟩, ⟨⟨rfl, rfl⟩, ⟨⟨rfl, rfl⟩, ⟨⟨rfl, rfl⟩, ⟨⟨rfl, rfl⟩, ⟨⟨rfl, rfl⟩, ⟨⟨rfl, rfl⟩, ⟨⟨rfl, rfl⟩, ⟨⟨rfl, rfl⟩, ⟨⟨rfl, rfl⟩, ⟨⟨rfl, rfl⟩, ⟨⟨rfl, rfl⟩, ⟨⟨rfl, rfl⟩, ⟨⟨rfl, rfl⟩, ⟨⟨rfl, rfl⟩, ⟨⟨rfl, rfl⟩, ⟨⟨rfl, show Value.bool false = Value.bool (decide ((andI .i64 y25.weak 1) ≠ 0)) by first | (simp only [c48, c71, c73, Bool.true_and, Bool.false_and, Bool.and_true, Bool.and_false, Bool.true_or, Bool.or_true, Bool.false_or, Bool.or_false, Bool.not_true, Bool.not_false]; done) | simp [c48, c71, c73]⟩, ⟨⟨rfl, show Value.bool false = Value.bool ((decide ((andI .i64 y25.weak 1) ≠ 0)) && (decide (y45.key ≠ 0))) by first | (simp only [c48, c71, c73, Bool.true_and, Bool.false_and, Bool.and_true, Bool.and_false, Bool.true_or, Bool.or_true, Bool.false_or, Bool.or_false, Bool.not_true, Bool.not_false]; done) | simp [c48, c71, c73]⟩, ⟨⟨rfl, show Value.bool false = Value.bool ((decide ((andI .i64 y25.weak 1) ≠ 0)) && (decide (y45.key ≠ 0))) by first | (simp only [c48, c71, c73, Bool.true_and, Bool.false_and, Bool.and_true, Bool.and_false, Bool.true_or, Bool.or_true, Bool.false_or, Bool.or_false, Bool.not_true, Bool.not_false]; done) | simp [c48, c71, c73]⟩, ⟨⟨rfl, show Value.bool false = Value.bool ((decide ((andI .i64 y25.weak 1) ≠ 0)) && ((decide (y45.key ≠ 0)) && (!(decide (y45.key ∈ (aliveR l R)))))) by first | (simp only [c48, c71, c73, Bool.true_and, Bool.false_and, Bool.and_true, Bool.and_false, Bool.true_or, Bool.or_true, Bool.false_or, Bool.or_false, Bool.not_true, Bool.not_false]; done) | simp [c48, c71, c73]⟩, ⟨⟨rfl, show Value.bool false = Value.bool ((decide ((andI .i64 y25.weak 1) ≠ 0)) && ((decide (y45.key ≠ 0)) && (!(decide (y45.key ∈ (aliveR l R)))))) by first | (simp only [c48, c71, c73, Bool.true_and, Bool.false_and, Bool.and_true, Bool.and_false, Bool.true_or, Bool.or_true, Bool.false_or, Bool.or_false, Bool.not_true, Bool.not_false]; done) | simp [c48, c71, c73]⟩, ⟨⟨rfl, show Value.bool (!(decide (y45.val ∈ (aliveR l R)))) = Value.bool (bif (decide ((andI .i64 y25.weak 1) ≠ 0)) then (bif (decide (y45.key ≠ 0)) then ((!(decide (y45.key ∈ (aliveR l R)))) || ((decide ((andI .i64 y25.weak 2) ≠ 0)) && ((decide (y45.val ≠ 0)) && (!(decide (y45.val ∈ (aliveR l R))))))) else ((decide ((andI .i64 y25.weak 2) ≠ 0)) && ((decide (y45.val ≠ 0)) && (!(decide (y45.val ∈ (aliveR l R))))))) else ((decide ((andI .i64 y25.weak 2) ≠ 0)) && ((decide (y45.val ≠ 0)) && (!(decide (y45.val ∈ (aliveR l R))))))) by first | (simp only [c48, c71, c73, Bool.true_and, Bool.false_and, Bool.and_true, Bool.and_false, Bool.true_or, Bool.or_true, Bool.false_or, Bool.or_false, Bool.not_true, Bool.not_false]; done) | simp [c48, c71, c73]⟩, trivial⟩⟩⟩⟩⟩⟩⟩⟩⟩⟩⟩⟩⟩⟩⟩⟩⟩⟩⟩⟩⟩⟩⟩⟩⟩⟩⟩⟩⟩⟩⟩⟩⟩⟩⟩⟩⟩⟩⟩⟩⟩⟩⟩⟩⟩⟩⟩⟩⟩⟩⟩⟩⟩⟩⟩⟩⟩⟩⟩⟩⟩⟩⟩⟩⟩⟩⟩⟩⟩⟩⟩⟩⟩⟩⟩) (fun _ h => h.re [0, 0, 0, 0, 0, 0, 0, 0] [])
                    ·
                      have p75 := Decidable.not_not.1 (of_decide_eq_false c73)
                      refine s_skip ?_
                      refine s_skip ?_
                      refine s_skip ?_
                      refine s_skip ?_
                      refine s_skip ?_
                      refine s_lt (t_pure (.bool false)) ?_
                      refine s_lt (t_pure (.bool false)) ?_
                      refine s_lt (t_pure (.bool false)) ?_
                      refine s_nil ?_
                      exact xs_cut () trivial (sub_of rfl ⟨⟨rfl, rfl⟩, ⟨⟨rfl, rfl⟩, ⟨⟨rfl, rfl⟩, ⟨⟨rfl, rfl⟩, ⟨⟨rfl, rfl⟩, ⟨⟨rfl, rfl⟩, ⟨⟨rfl, rfl⟩, ⟨⟨rfl, rfl⟩, ⟨⟨rfl, rfl⟩, ⟨⟨rfl, rfl⟩, ⟨⟨rfl, rfl⟩, ⟨⟨rfl, rfl⟩, ⟨⟨rfl, show Value.bool false = Value.bool (bif (decide ((andI .i64 y25.weak 1) ≠ 0)) then (bif (decide (y45.key ≠ 0)) then ((!(decide (y45.key ∈ (aliveR l R)))) || ((decide ((andI .i64 y25.weak 2) ≠ 0)) && ((decide (y45.val ≠ 0)) && (!(decide (y45.val ∈ (aliveR l R))))))) else ((decide ((andI .i64 y25.weak 2) ≠ 0)) && ((decide (y45.val ≠ 0)) && (!(decide (y45.val ∈ (aliveR l R))))))) else ((decide ((andI .i64 y25.weak 2) ≠ 0)) && ((decide (y45.val ≠ 0)) && (!(decide (y45.val ∈ (aliveR l R))))))) by first | (simp only [c48, c71, c73, Bool.true_and, Bool.false_and, Bool.and_true, Bool.and_false, Bool.true_or, Bool.or_true, Bool.false_or, Bool.or_false, Bool.not_true, Bool.not_false]; done) | simp [c48, c71, c73]⟩, ⟨⟨rfl, rfl⟩, ⟨⟨rfl, rfl⟩, ⟨⟨rfl, rfl⟩, ⟨⟨rfl, rfl⟩, ⟨⟨rfl, rfl⟩, ⟨⟨rfl, rfl⟩, ⟨⟨rfl, rfl⟩, ⟨⟨rfl, rfl⟩, ⟨⟨rfl, rfl⟩, ⟨⟨rfl, rfl⟩, ⟨⟨rfl, rfl⟩, ⟨⟨rfl, rfl⟩, ⟨⟨rfl, rfl⟩, ⟨⟨rfl, rfl⟩, ⟨⟨rfl, rfl⟩, ⟨⟨rfl, rfl⟩, ⟨⟨rfl, rfl⟩, ⟨⟨rfl, rfl⟩, ⟨⟨rfl, rfl⟩, ⟨⟨rfl, rfl⟩, ⟨⟨rfl, rfl⟩, ⟨⟨rfl, rfl⟩, ⟨⟨rfl, rfl⟩, ⟨⟨rfl, rfl⟩, ⟨⟨rfl, rfl⟩, ⟨⟨rfl, rfl⟩, ⟨⟨rfl, rfl⟩, ⟨⟨rfl, rfl⟩, ⟨⟨rfl, rfl⟩, ⟨⟨rfl, rfl⟩, ⟨⟨rfl, rfl⟩, ⟨⟨rfl, rfl⟩, ⟨⟨rfl, rfl⟩, ⟨⟨rfl, rfl⟩, ⟨⟨rfl, rfl⟩, ⟨⟨rfl, rfl⟩, ⟨⟨rfl, rfl⟩, ⟨⟨rfl, rfl⟩, ⟨⟨rfl, rfl⟩, ⟨⟨rfl, rfl⟩, ⟨⟨rfl, rfl⟩, ⟨⟨rfl, rfl⟩, ⟨⟨rfl, rfl⟩, ⟨⟨rfl, rfl⟩, ⟨⟨rfl, rfl⟩, ⟨⟨rfl, rfl⟩, ⟨⟨rfl, rfl⟩, ⟨⟨rfl, rfl⟩, ⟨⟨rfl, rfl⟩, ⟨⟨rfl, rfl⟩, ⟨⟨rfl, rfl⟩, ⟨⟨rfl, rfl⟩, ⟨⟨rfl, rfl⟩, ⟨⟨rfl, rfl⟩, ⟨⟨rfl, rfl⟩, ⟨⟨rfl, rfl⟩, ⟨⟨rfl, show Value.bool false = Value.bool (decide ((andI .i64 y25.weak 1) ≠ 0)) by first | (simp only [c48, c71, c73, Bool.true_and, Bool.false_and, Bool.and_true, Bool.and_false, Bool.true_or, Bool.or_true, Bool.false_or, Bool.or_false, Bool.not_true, Bool.not_false]; done) | simp [c48, c71, c73]⟩, ⟨⟨rfl, show Value.bool false = Value.bool ((decide ((andI .i64 y25.weak 1) ≠ 0)) && (decide (y45.key ≠ 0))) by first | (simp only [c48, c71, c73, Bool.true_and, Bool.false_and, Bool.and_true, Bool.and_false, Bool.true_or, Bool.or_true, Bool.false_or, Bool.or_false, Bool.not_true, Bool.not_false]; done) | simp [c48, c71, c73]⟩, ⟨⟨rfl, show Value.bool false = Value.bool ((decide ((andI .i64 y25.weak 1) ≠ 0)) && (decide (y45.key ≠ 0))) by first | (simp only [c48, c71, c73, Bool.true_and, Bool.false_and, Bool.and_true, Bool.and_false, Bool.true_or, Bool.or_true, Bool.false_or, Bool.or_false, Bool.not_true, Bool.not_false]; done) | simp [c48, c71, c73]⟩, ⟨⟨rfl, show Value.bool false = Value.bool ((decide ((andI .i64 y25.weak 1) ≠ 0)) && ((decide (y45.key ≠ 0)) && (!(decide (y45.key ∈ (aliveR l R)))))) by first | (simp only [c48, c71, c73, Bool.true_and, Bool.false_and, Bool.and_true, Bool.and_false, Bool.true_or, Bool.or_true, Bool.false_or, Bool.or_false, Bool.not_true, Bool.not_false]; done) | simp [c48, c71, c73]⟩, ⟨⟨rfl, show Value.bool false = Value.bool ((decide ((andI .i64 y25.weak 1) ≠ 0)) && ((decide (y45.key ≠ 0)) && (!(decide (y45.key ∈ (aliveR l R)))))) by first | (simp only [c48, c71, c73, Bool.true_and, Bool.false_and, Bool.and_true, Bool.and_false, Bool.true_or, Bool.or_true, Bool.false_or, Bool.or_false, Bool.not_true, Bool.not_false]; done) | simp [c48, c71, c73]⟩, ⟨⟨rfl, show Value.bool false = Value.bool (bif (decide ((andI .i64 y25.weak 1) ≠ 0)) then (bif (decide (y45.key ≠ 0)) then ((!(decide (y45.key ∈ (aliveR l R)))) || ((decide ((andI .i64 y25.weak 2) ≠ 0)) && ((decide (y45.val ≠ 0)) && (!(decide (y45.val ∈ (aliveR l R))))))) else ((decide ((andI .i64 y25.weak 2) ≠ 0)) && ((decide (y45.val ≠ 0)) && (!(decide (y45.val ∈ (aliveR l R))))))) else ((decide ((andI .i64 y25.weak 2) ≠ 0)) && ((decide (y45.val ≠ 0)) && (!(decide (y45.val ∈ (aliveR l R))))))) by first | (simp only [c48, c71, c73, Bool.true_and, Bool.false_and, Bool.and_true, Bool.and_false, Bool.true_or, Bool.or_true, Bool.false_or, Bool.or_false, Bool.not_true, Bool.not_false]; done) | simp [c48, c71, c73]⟩, trivial⟩⟩⟩⟩⟩⟩⟩⟩⟩⟩⟩⟩⟩⟩⟩⟩⟩⟩⟩⟩⟩⟩⟩⟩⟩⟩⟩⟩⟩⟩⟩⟩⟩⟩⟩⟩⟩⟩⟩⟩⟩⟩⟩⟩⟩⟩⟩⟩⟩⟩⟩⟩⟩⟩⟩⟩⟩⟩⟩⟩⟩⟩⟩⟩⟩⟩⟩⟩⟩⟩⟩⟩⟩⟩⟩) (fun _ h => h.re [0, 0, 0, 0, 0, 0, 0, 0] [])
                  ·
                    have p76 := Decidable.not_not.1 (of_decide_eq_false c71)
                    refine s_skip ?_
                    refine s_skip ?_
                    refine s_skip ?_
                    refine s_lt (t_pure (.bool false)) ?_
                    refine s_lt (t_pure (.bool false)) ?_
                    refine s_skip ?_
                    refine s_skip ?_
                    refine s_skip ?_
                    refine s_skip ?_
                    refine s_skip ?_
                    refine s_lt (t_pure (.bool false)) ?_
                    refine s_lt (t_pure (.bool false)) ?_
                    refine s_lt (t_pure (.bool false)) ?_
                    refine s_nil ?_
                    exact xs_cut () trivial (sub_of rfl ⟨⟨rfl, rfl⟩, ⟨⟨rfl, rfl⟩, ⟨⟨rfl, rfl⟩, ⟨⟨rfl, rfl⟩, ⟨⟨rfl, rfl⟩, ⟨⟨rfl, rfl⟩, ⟨⟨rfl, rfl⟩, ⟨⟨rfl, rfl⟩, ⟨⟨rfl, rfl⟩, ⟨⟨rfl, rfl⟩, ⟨⟨rfl, rfl⟩, ⟨⟨rfl, rfl⟩, ⟨⟨rfl, show Value.bool false = Value.bool (bif (decide ((andI .i64 y25.weak 1) ≠ 0)) then (bif (decide (y45.key ≠ 0)) then ((!(decide (y45.key ∈ (aliveR l R)))) || ((decide ((andI .i64 y25.weak 2) ≠ 0)) && ((decide (y45.val ≠ 0)) && (!(decide (y45.val ∈ (aliveR l R))))))) else ((decide ((andI .i64 y25.weak 2) ≠ 0)) && ((decide (y45.val ≠ 0)) && (!(decide (y45.val ∈ (aliveR l R))))))) else ((decide ((andI .i64 y25.weak 2) ≠ 0)) && ((decide (y45.val ≠ 0)) && (!(decide (y45.val ∈ (aliveR l R))))))) by first | (simp only [c48, c71, Bool.true_and, Bool.false_and, Bool.and_true, Bool.and_false, Bool.true_or, Bool.or_true, Bool.false_or, Bool.or_false, Bool.not_true, Bool.not_false]; done) | simp [c48, c71]⟩, ⟨⟨rfl, rfl⟩, ⟨⟨rfl, rfl⟩, ⟨⟨rfl, rfl⟩, ⟨⟨rfl, rfl⟩, ⟨⟨rfl, rfl⟩, ⟨⟨rfl, rfl⟩, ⟨⟨rfl, rfl⟩, ⟨⟨rfl, rfl⟩, ⟨⟨rfl, rfl⟩, ⟨⟨rfl, rfl⟩, ⟨⟨rfl, rfl⟩, ⟨⟨rfl, rfl⟩, ⟨⟨rfl, rfl⟩, ⟨⟨rfl, rfl⟩, ⟨⟨rfl, rfl⟩, ⟨⟨rfl, rfl⟩, ⟨⟨rfl, rfl⟩, ⟨⟨rfl, rfl⟩, ⟨⟨rfl, rfl⟩, ⟨⟨rfl, rfl⟩, ⟨⟨rfl, rfl⟩, ⟨⟨rfl, rfl⟩, ⟨⟨rfl, rfl⟩, ⟨⟨rfl, rfl⟩, ⟨⟨rfl, rfl⟩, ⟨⟨rfl, rfl⟩, ⟨⟨rfl, rfl⟩, ⟨⟨rfl, rfl⟩, ⟨⟨rfl, rfl⟩, ⟨⟨rfl, rfl⟩, ⟨⟨rfl, rfl⟩, ⟨⟨rfl, rfl⟩, ⟨⟨rfl, rfl⟩, ⟨⟨rfl, rfl⟩, ⟨⟨rfl, rfl⟩, ⟨⟨rfl, rfl⟩, ⟨⟨rfl, rfl⟩, ⟨⟨rfl, rfl⟩, ⟨⟨rfl, rfl⟩, ⟨⟨rfl, rfl⟩, ⟨⟨rfl, rfl⟩, ⟨⟨rfl, rfl⟩, ⟨⟨rfl, rfl⟩, ⟨⟨rfl, rfl⟩, ⟨⟨rfl, rfl⟩, ⟨⟨rfl, rfl⟩, ⟨⟨rfl, rfl⟩, ⟨⟨rfl, rfl⟩, ⟨⟨rfl, rfl⟩, ⟨⟨rfl, rfl⟩, ⟨⟨rfl, rfl⟩, ⟨⟨rfl, rfl⟩, ⟨⟨rfl, rfl⟩, ⟨⟨rfl, rfl⟩, ⟨⟨rfl, rfl⟩, ⟨⟨rfl, rfl⟩, ⟨⟨rfl, show Value.bool false = Value.bool (decide ((andI .i64 y25.weak 1) ≠ 0)) by first | (simp only [c48, c71, Bool.true_and, Bool.false_and, Bool.and_true, Bool.and_false, Bool.true_or, Bool.or_true, Bool.false_or, Bool.or_false, Bool.not_true, Bool.not_false]; done) | simp [c48, c71]⟩, ⟨⟨rfl, show Value.bool false = Value.bool ((decide ((andI .i64 y25.weak 1) ≠ 0)) && (decide (y45.key ≠ 0))) by first | (simp only [c48, c71, Bool.true_and, Bool.false_and, Bool.and_true, Bool.and_false, Bool.true_or, Bool.or_true, Bool.false_or, Bool.or_false, Bool.not_true, Bool.not_false]; done) | simp [c48, c71]⟩, ⟨⟨rfl, show Value.bool false = Value.bool ((decide ((andI .i64 y25.weak 1) ≠ 0)) && (decide (y45.key ≠ 0))) by first | (simp only [c48, c71, Bool.true_and, Bool.false_and, Bool.and_true, Bool.and_false, Bool.true_or, Bool.or_true, Bool.false_or, Bool.or_false, Bool.not_true, Bool.not_false]; done) | simp [c48, c71]⟩, ⟨⟨rfl, show Value.bool false = Value.bool ((decide ((andI .i64 y25.weak 1) ≠ 0)) && ((decide (y45.key ≠ 0)) && (!(decide (y45.key ∈ (aliveR l R)))))) by first | (simp only [c48, c71, Bool.true_and, Bool.false_and, Bool.and_true, Bool.and_false, Bool.true_or, Bool.or_true, Bool.false_or, Bool.or_false, Bool.not_true, Bool.not_false]; done) | simp [c48, c71]⟩, ⟨⟨rfl, show Value.bool false = Value.bool ((decide ((andI .i64 y25.weak 1) ≠ 0)) && ((decide (y45.key ≠ 0)) && (!(decide (y45.key ∈ (aliveR l R)))))) by first | (simp only [c48, c71, Bool.true_and, Bool.false_and, Bool.and_true, Bool.and_false, Bool.true_or, Bool.or_true, Bool.false_or, Bool.or_false, Bool.not_true, Bool.not_false]; done) | simp [c48, c71]⟩, ⟨⟨rfl, show Value.bool false = Value.bool (bif (decide ((andI .i64 y25.weak 1) ≠ 0)) then (bif (decide (y45.key ≠ 0)) then ((!(decide (y45.key ∈ (aliveR l R)))) || ((decide ((andI .i64 y25.weak 2) ≠ 0)) && ((decide (y45.val ≠ 0)) && (!(decide (y45.val ∈ (aliveR l R))))))) else ((decide ((andI .i64 y25.weak 2) ≠ 0)) && ((decide (y45.val ≠ 0)) && (!(decide (y45.val ∈ (aliveR l R))))))) else ((decide ((andI .i64 y25.weak 2) ≠ 0)) && ((decide (y45.val ≠ 0)) && (!(decide (y45.val ∈ (aliveR l R))))))) by first | (simp only [c48, c71, Bool.true_and, Bool.false_and, Bool.and_true, Bool.and_false, Bool.true_or, Bool.or_true, Bool.false_or, Bool.or_false, Bool.not_true, Bool.not_false]; done) | simp [c48, c71]⟩, trivial⟩⟩⟩⟩⟩⟩⟩⟩⟩⟩⟩⟩⟩⟩⟩⟩⟩⟩⟩⟩⟩⟩⟩⟩⟩⟩⟩⟩⟩⟩⟩⟩⟩⟩⟩⟩⟩⟩⟩⟩⟩⟩⟩⟩⟩⟩⟩⟩⟩⟩⟩⟩⟩⟩⟩⟩⟩⟩⟩⟩⟩⟩⟩⟩⟩⟩⟩⟩⟩⟩⟩⟩⟩⟩⟩) (fun _ h => h.re [0, 0, 0, 0, 0, 0, 0, 0] [])
              ·
                refine k_seq ?_
                refine k_seq ?_
                refine k_reg ?_
                refine s_lt (t_pure (.bool (bif (decide ((andI .i64 y25.weak 1) ≠ 0)) then (bif (decide (y45.key ≠ 0)) then ((!(decide (y45.key ∈ (aliveR l R)))) || ((decide ((andI .i64 y25.weak 2) ≠ 0)) && ((decide (y45.val ≠ 0)) && (!(decide (y45.val ∈ (aliveR l R))))))) else ((decide ((andI .i64 y25.weak 2) ≠ 0)) && ((decide (y45.val ≠ 0)) && (!(decide (y45.val ∈ (aliveR l R))))))) else ((decide ((andI .i64 y25.weak 2) ≠ 0)) && ((decide (y45.val ≠ 0)) && (!(decide (y45.val ∈ (aliveR l R))))))))) ?_
                refine s_nil ?_
                refine xs_then ?_
                refine k_cond (bif (decide ((andI .i64 y25.weak 1) ≠ 0)) then (bif (decide (y45.key ≠ 0)) then ((!(decide (y45.key ∈ (aliveR l R)))) || ((decide ((andI .i64 y25.weak 2) ≠ 0)) && ((decide (y45.val ≠ 0)) && (!(decide (y45.val ∈ (aliveR l R))))))) else ((decide ((andI .i64 y25.weak 2) ≠ 0)) && ((decide (y45.val ≠ 0)) && (!(decide (y45.val ∈ (aliveR l R))))))) else ((decide ((andI .i64 y25.weak 2) ≠ 0)) && ((decide (y45.val ≠ 0)) && (!(decide (y45.val ∈ (aliveR l R))))))) (fun c77 => ?_) (fun c77 => ?_)
                ·
                  have hkp : (!keepB (aliveR l R) y25.weak y45) = true := by
                    have q := c77; rw [← gone_keep hwk y45]; revert q
                    generalize decide (andI .i64 y25.weak 1 ≠ 0) = b0; generalize decide (andI .i64 y25.weak 2 ≠ 0) = b1; generalize decide (y45.key ≠ 0) = b2; generalize decide (y45.val ≠ 0) = b3; generalize decide (y45.key ∈ aliveR l R) = b4; generalize decide (y45.val ∈ aliveR l R) = b5
                    revert b0 b1 b2 b3 b4 b5; decide
                  replace hkp := not_t hkp
                  refine k_exit ?_
                  refine xs_exit ?_
                  refine xs_here ?_
                  refine xs_then ?_
                  refine k_reg ?_
                  refine s_lt (t_pure (.int .i64 (k : Int))) ?_
                  refine s_lt (t_add (k : Int) 1 (by (try simp only [List.length_nil, List.length_cons, List.length_append, List.length_take, List.length_drop, List.length_set, List.length_replicate, List.length_reverse, bits_len]); omega)) ?_
                  refine s_lt (t_pure (.int .i64 ((k : Int) + 1))) ?_
                  refine s_nil ?_
                  exact xs_round (n, k + 1) (by show y25.ents.length - (k + 1) < y25.ents.length - k; omega) (by obtain ⟨hk1, hk2⟩ := hi42; refine ⟨by omega, ?_⟩; rw [filt_len hy46, hkp, if_neg (by simp), Nat.add_zero, hk2]) (sub_of rfl ⟨⟨rfl, rfl⟩, ⟨⟨rfl, rfl⟩, ⟨⟨rfl, rfl⟩, ⟨⟨rfl, rfl⟩, ⟨⟨rfl, rfl⟩, ⟨⟨rfl, rfl⟩, ⟨⟨rfl, rfl⟩, ⟨⟨rfl, rfl⟩, ⟨⟨rfl, rfl⟩, ⟨⟨rfl, rfl⟩, ⟨⟨rfl, rfl⟩, ⟨⟨rfl, rfl⟩, ⟨⟨rfl, rfl⟩, ⟨⟨rfl, rfl⟩, ⟨⟨rfl, rfl⟩, ⟨⟨rfl, rfl⟩, ⟨⟨rfl, rfl⟩, ⟨⟨rfl, rfl⟩, ⟨⟨rfl, rfl⟩, ⟨⟨rfl, rfl⟩, ⟨⟨rfl, rfl⟩, ⟨⟨rfl, rfl⟩, ⟨⟨rfl, rfl⟩, ⟨⟨rfl, rfl⟩, ⟨⟨rfl, rfl⟩, ⟨⟨rfl, rfl⟩, ⟨⟨rfl, rfl⟩, ⟨⟨rfl, rfl⟩, ⟨⟨rfl, rfl⟩, ⟨⟨rfl, rfl⟩, ⟨⟨rfl, rfl⟩, ⟨⟨rfl, rfl⟩, ⟨⟨rfl, rfl⟩, ⟨⟨rfl, rfl⟩, ⟨⟨rfl, rfl⟩, ⟨⟨rfl, rfl⟩, ⟨⟨rfl, rfl⟩, ⟨⟨rfl, rfl⟩, ⟨⟨rfl, rfl⟩, ⟨⟨rfl, rfl⟩, ⟨⟨rfl, rfl⟩, ⟨⟨rfl, rfl⟩, ⟨⟨rfl, rfl⟩, ⟨⟨rfl, rfl⟩, ⟨⟨rfl, rfl⟩, ⟨⟨rfl, rfl⟩, ⟨⟨rfl, rfl⟩, ⟨⟨rfl, rfl⟩, ⟨⟨rfl, rfl⟩, ⟨⟨rfl, rfl⟩, ⟨⟨rfl, rfl⟩, ⟨⟨rfl, rfl⟩, ⟨⟨rfl, rfl⟩, trivial⟩⟩⟩⟩⟩⟩⟩⟩⟩⟩⟩⟩⟩⟩⟩⟩⟩⟩⟩⟩⟩⟩⟩⟩⟩⟩⟩⟩⟩⟩⟩⟩⟩⟩⟩⟩⟩⟩⟩⟩⟩⟩⟩⟩⟩⟩⟩⟩⟩⟩⟩⟩⟩) (fun _ h => h.re [1, 1, 1, 1, 1, 1, 1] [7])
                ·
                  have hkp : (!keepB (aliveR l R) y25.weak y45) = false := by
                    have q := c77; rw [← gone_keep hwk y45]; revert q
                    generalize decide (andI .i64 y25.weak 1 ≠ 0) = b0; generalize decide (andI .i64 y25.weak 2 ≠ 0) = b1; generalize decide (y45.key ≠ 0) = b2; generalize decide (y45.val ≠ 0) = b3; generalize decide (y45.key ∈ aliveR l R) = b4; generalize decide (y45.val ∈ aliveR l R) = b5
                    revert b0 b1 b2 b3 b4 b5; decide
                  replace hkp := not_f hkp
                  have hat := filt_at (p := keepB (aliveR l R) y25.weak) hy46 hkp; rw [← hi42.2, ← hxents] at hat; have hatl := (List.getElem?_eq_some_iff.1 hat).1
                  refine k_skip ?_
                  refine xs_then ?_
                  refine k_seq ?_
                  refine k_seq ?_
                  refine k_draw ?_
                  refine s_lt (t_pure (.int .i64 (n : Int))) ?_
                  refine s_lt (t_pure (.pointer (some ⟨g39, 4, none⟩))) ?_
                  refine s_lt (t_load 1 xx36.ev.v) ?_
                  refine s_fact (fun H h => ((show Acc _ _ EntT _ _ from (accE2 4 (List.mem_of_getElem? hx37))) H h).form) (fun hf78 => ?_)
                  refine s_lt (t_len EntT_ok Try.underlying40 (accE2 4 (List.mem_of_getElem? hx37))) ?_
                  refine s_lt (Lt.to t_cmp (congrArg Value.bool (decide_eq_false (by omega) : (decide ((xx36.ents.length : Int) ≤ (n : Int))) = false))) ?_
                  refine s_lt (t_pure (.bool false)) ?_
                  refine s_lt (t_pure (.pointer (some ⟨g39, 4, none⟩))) ?_
                  refine s_lt (t_load 1 xx36.ev.v) ?_
                  refine s_lt (t_pure (.int .i64 (n : Int))) ?_
                  refine s_lt (t_index EntT_ok Try.underlying40 (accE2 4 (List.mem_of_getElem? hx37)) (n : Int) n (by omega) (by (try simp only [List.length_nil, List.length_cons, List.length_append, List.length_take, List.length_drop, List.length_set, List.length_replicate, List.length_reverse, bits_len]); omega) (by omega)) ?_
                  obtain ⟨y79, hy80⟩ : ∃ y, xx36.ents[n]? = some y := ⟨_, List.getElem?_eq_getElem (by (try simp only [List.length_nil, List.length_cons, List.length_append, List.length_take, List.length_drop, List.length_set, List.length_replicate, List.length_reverse, bits_len]); omega)⟩
                  refine s_lt (t_loadE EntT_ok (accE2 4 (List.mem_of_getElem? hx37)) hy80) ?_
                  refine s_lt (t_loadA 0 #[.int .i64 y45.key, .int .i64 y45.val]) ?_
                  refine s_lt (Lt.to (t_eqS (fun w => (eqEntT y79 y45 w).2)) (congrArg Value.bool ((congrArg Bool.not (decide_eq_true (Option.some.inj (hy80.symm.trans hat)) : (decide (y79 = y45)) = true)).trans rfl : (!(decide (y79 = y45))) = false))) ?_
                  refine s_lt (t_pure (.bool false)) ?_
                  refine s_nil ?_
                  refine x_dynS (fun _ h => by kernel_rfl) ?_
                  refine xs_then ?_
                  refine k_false ?_
                  refine k_skip ?_
                  refine xs_then ?_
                  refine k_reg ?_
                  refine s_lt (t_pure (.int .i64 (n : Int))) ?_
                  refine s_lt (t_add (n : Int) 1 (by (try simp only [List.length_nil, List.length_cons, List.length_append, List.length_take, List.length_drop, List.length_set, List.length_replicate, List.length_reverse, bits_len]); omega)) ?_
                  refine s_lt (t_pure (.int .i64 ((n : Int) + 1))) ?_
                  refine s_nil ?_
                  refine xs_block ?_
                  refine xs_then ?_
                  refine k_reg ?_
                  refine s_lt (t_pure (.int .i64 (k : Int))) ?_
                  refine s_lt (t_add (k : Int) 1 (by (try simp only [List.length_nil, List.length_cons, List.length_append, List.length_take, List.length_drop, List.length_set, List.length_replicate, List.length_reverse, bits_len]); omega)) ?_
                  refine s_lt (t_pure (.int .i64 ((k : Int) + 1))) ?_
                  refine s_nil ?_
                  exact xs_round (n + 1, k + 1) (by show y25.ents.length - (k + 1) < y25.ents.length - k; omega) (by obtain ⟨hk1, hk2⟩ := hi42; refine ⟨by omega, ?_⟩; rw [filt_len hy46, if_pos hkp, hk2]) (sub_of rfl ⟨⟨rfl, rfl⟩, ⟨⟨rfl, rfl⟩, ⟨⟨rfl, rfl⟩, ⟨⟨rfl, rfl⟩, ⟨⟨rfl, rfl⟩, ⟨⟨rfl, rfl⟩, ⟨⟨rfl, rfl⟩, ⟨⟨rfl, rfl⟩, ⟨⟨rfl, rfl⟩, ⟨⟨rfl, rfl⟩, ⟨⟨rfl, rfl⟩, ⟨⟨rfl, rfl⟩, ⟨⟨rfl, rfl⟩, ⟨⟨rfl, rfl⟩, ⟨⟨rfl, rfl⟩, ⟨⟨rfl, rfl⟩, ⟨⟨rfl, rfl⟩, ⟨⟨rfl, rfl⟩, ⟨⟨rfl, rfl⟩, ⟨⟨rfl, rfl⟩, ⟨⟨rfl, rfl⟩, ⟨⟨rfl, rfl⟩, ⟨⟨rfl, rfl⟩, ⟨⟨rfl, rfl⟩, ⟨⟨rfl, rfl⟩, ⟨⟨rfl, rfl⟩, ⟨⟨rfl, rfl⟩, ⟨⟨rfl, rfl⟩, ⟨⟨rfl, rfl⟩, ⟨⟨rfl, rfl⟩, ⟨⟨rfl, rfl⟩, ⟨⟨rfl, rfl⟩, ⟨⟨rfl, rfl⟩, ⟨⟨rfl, rfl⟩, ⟨⟨rfl, rfl⟩, ⟨⟨rfl, rfl⟩, ⟨⟨rfl, rfl⟩, ⟨⟨rfl, rfl⟩, ⟨⟨rfl, rfl⟩, ⟨⟨rfl, rfl⟩, ⟨⟨rfl, rfl⟩, ⟨⟨rfl, rfl⟩, ⟨⟨rfl, rfl⟩, ⟨⟨rfl, rfl⟩, ⟨⟨rfl, rfl⟩, ⟨⟨rfl, rfl⟩, ⟨⟨rfl, rfl⟩, ⟨⟨rfl, rfl⟩, ⟨⟨rfl, rfl⟩, ⟨⟨rfl, rfl⟩, ⟨⟨rfl, rfl⟩, ⟨⟨rfl, rfl⟩, ⟨⟨rfl, rfl⟩, trivial⟩⟩⟩⟩⟩⟩⟩⟩⟩⟩⟩⟩⟩⟩⟩⟩⟩⟩⟩⟩⟩⟩⟩⟩⟩⟩⟩⟩⟩⟩⟩⟩⟩⟩⟩⟩⟩⟩⟩⟩⟩⟩⟩⟩⟩⟩⟩⟩⟩⟩⟩⟩⟩) (fun _ h => h.re [1, 1, 1, 1, 1, 1, 1] [7])
            ·
              have p81 := of_decide_eq_false c43
              refine k_exit ?_
              obtain rfl : k = y25.ents.length := by omega
              have hnl := hi42.2; rw [List.take_length, ← hxents] at hnl
              refine xs_exit ?_
              refine xs_exit ?_
              refine xs_here ?_
              refine xs_then ?_
              refine k_seq ?_
              refine k_reg ?_
              refine s_lt (t_pure (.int .i64 (n : Int))) ?_
              refine s_lt (t_pure (.pointer (some ⟨g39, 4, none⟩))) ?_
              refine s_lt (t_load 0 xx36.ev.v) ?_
              refine s_lt (t_len EntT_ok Try.underlying40 (accE2 3 (List.mem_of_getElem? hx37))) ?_
              refine s_lt (Lt.to t_cmp (congrArg Value.bool (decide_eq_false (by omega) : (decide ((n : Int) ≠ (xx36.ents.length : Int))) = false))) ?_
              refine s_nil ?_
              refine xs_then ?_
              refine k_false ?_
              refine k_skip ?_
              refine xs_block ?_
              refine xs_then ?_
              refine k_reg ?_
              refine s_lt (t_pure (.int .i64 (i : Int))) ?_
              refine s_lt (t_add (i : Int) 1 (by (try simp only [List.length_nil, List.length_cons, List.length_append, List.length_take, List.length_drop, List.length_set, List.length_replicate, List.length_reverse, bits_len]); omega)) ?_
              refine s_lt (t_pure (.int .i64 ((i : Int) + 1))) ?_
              refine s_nil ?_
              exact xs_round (a + 1, i + 1) (by show l.length - (i + 1) < l.length - i; omega) (by obtain ⟨hi1, hi2⟩ := hi22; refine ⟨by omega, ?_⟩; rw [cntA_yes hy26 p35, ← hi2]) (sub_of rfl ⟨⟨rfl, rfl⟩, ⟨⟨rfl, rfl⟩, ⟨⟨rfl, rfl⟩, ⟨⟨rfl, rfl⟩, ⟨⟨rfl, rfl⟩, ⟨⟨rfl, rfl⟩, ⟨⟨rfl, rfl⟩, trivial⟩⟩⟩⟩⟩⟩⟩) (fun _ h => h.re [2, 2, 2, 2, 2] [5, 5])
        ·
          have p82 := of_decide_eq_false c23
          refine k_exit ?_
          refine xs_exit ?_
          refine xs_exit ?_
          refine xs_here ?_
          refine xs_then ?_
          refine k_seq ?_
          refine k_reg ?_
          refine s_vcall (fun _ h => awake_s) ?_
          rintro _ rfl
          refine s_lt (t_pure (.bool true)) ?_
          refine s_nil ?_
          refine xs_then ?_
          refine k_ret ?_
          exact xs_fin [.bool true] [] (SI.tmp 2 SI.nil) (fun _ h => h.re [] [0, 0, 0, 0, 0]) ⟨rfl, rfl⟩
end Go.Proofs.Ytjdlkemmcnncaaa
