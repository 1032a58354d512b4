/-
  FinalizerRepeats walked. No condition but that the arguments are what the types say.
-/
import Derived.Test.YtipmkaabogocfaaF11
import Derived.Test.YtipmkaabogocfaaFR
set_option linter.unusedSimpArgs false
set_option linter.unusedVariables false
set_option maxRecDepth 100000
set_option maxHeartbeats 2000000
namespace Go.Proofs.Ytipmkaabogocfaa
open Go.Hp Go.J Go.S
open Go.Mem (Ty KTy blk elemAt pre suf blk_pre blk_suf aget aset strK aggDesc)
theorem repeats_w {Z : Zone} {ov rv : Value} {l : List Ob} {R : List Int} (hg : KnG Z ov rv l R) {lv : Value} {L : List Int} {n : Int} (hL : Kn Z iTy lv L) (hn : 0 ≤ n ∧ n ≤ 255) : SF Try.prog 9 #[.agg #[ov, rv], lv, .int .u8 n] Z [] fun r Bs => r = .bool true ∧ Bs = [] := by
  refine sf_enter Try.func9 104 [(0, .agg #[ov, rv]), (1, lv), (2, .int .u8 n)] (fun w0 => ?_)
  refine k_seq ?_
  refine k_reg ?_
  refine s_box #[ov, rv] (fun g1 => ?_)
  refine s_lt (t_pure (.bool false)) ?_
  refine s_nil ?_
  refine xs_then ?_
  refine k_seq ?_
  refine k_seq ?_
  refine k_reg ?_
  refine s_lt (t_loadA 0 #[ov, rv]) ?_
  refine s_vcall (fun _ h => large_s (hg.up h)) ?_
  rintro _ rfl
  refine s_lt (t_pure (.bool (largeB l R))) ?_
  refine s_fork 23 (largeB l R) (fun c2 => ?_) (fun c2 => ?_)
  ·
    refine s_skip ?_
    refine s_skip ?_
    refine s_skip ?_
    refine s_lt (t_pure (.bool true)) ?_
    refine s_lt (t_pure (.bool true)) ?_
    refine s_skip ?_
    refine s_skip ?_
    refine s_skip ?_
    refine s_lt (t_pure (.bool true)) ?_
    refine s_nil ?_
    refine xs_then ?_
    refine k_true ?_
    refine k_seq ?_
    refine k_reg ?_
    refine s_vcall (fun _ h => awake_s) ?_
    rintro _ rfl
    refine s_lt (t_pure (.bool true)) ?_
    refine s_nil ?_
    refine xs_then ?_
    refine k_ret ?_
    refine xs_ret ?_
    exact xs_fin [.bool true] [] (SI.tmp 6 SI.nil) (fun _ h => h.re [] [0]) ⟨rfl, rfl⟩
  ·
    obtain ⟨hl0, hr0, hsm0⟩ := small_of c2
    have hsm : ∀ o ∈ l, o.refs.length ≤ 400 ∧ o.ents.length ≤ 400 := fun o ho => by have := hsm0 o ho; omega
    have hp0 := pot_le l hsm []
    have hp : pot l [] ≤ 1000000 := by omega
    have hl : l.length ≤ 100000 := by omega
    have hr : R.length ≤ 100000 := by omega
    refine s_lt (t_loadA 0 #[ov, rv]) ?_
    refine s_pcall (fun _ h => strong_s (hg.up h)) ?_
    rintro _ _ ⟨sb3, rfl, hsb4, rfl⟩
    refine s_lt (t_pure (.bool (!sb3))) ?_
    refine s_lt (t_pure (.bool (!sb3))) ?_
    refine s_lt (t_pure (.bool (!sb3))) ?_
    refine s_fork 28 (!sb3) (fun c5 => ?_) (fun c5 => ?_)
    ·
      have c6 := not_t c5
      refine s_skip ?_
      refine s_skip ?_
      refine s_skip ?_
      refine s_lt (t_pure (.bool true)) ?_
      refine s_nil ?_
      refine xs_then ?_
      refine k_true ?_
      refine k_seq ?_
      refine k_reg ?_
      refine s_vcall (fun _ h => awake_s) ?_
      rintro _ rfl
      refine s_lt (t_pure (.bool true)) ?_
      refine s_nil ?_
      refine xs_then ?_
      refine k_ret ?_
      refine xs_ret ?_
      exact xs_fin [.bool true] [] (SI.tmp 6 SI.nil) (fun _ h => h.re [] [0]) ⟨rfl, rfl⟩
    ·
      have c7 := not_f c5
      have hst : Strong l := hsb4 c7
      refine s_lt (t_loadA 0 #[ov, rv]) ?_
      refine s_vcall (fun _ h => rcheck_s (hg.up h)) ?_
      rintro _ rfl
      refine s_lt t_cmp ?_
      refine s_lt (t_pure (.bool (decide ((errI (chk 0 l)) ≠ 0)))) ?_
      refine s_nil ?_
      refine xs_then ?_
      refine k_cond (decide ((errI (chk 0 l)) ≠ 0)) (fun c8 => ?_) (fun c8 => ?_)
      ·
        have p9 := of_decide_eq_true c8
        have hc := errI_bad p9
        refine k_seq ?_
        refine k_reg ?_
        refine s_vcall (fun _ h => awake_s) ?_
        rintro _ rfl
        refine s_lt (t_pure (.bool true)) ?_
        refine s_nil ?_
        refine xs_then ?_
        refine k_ret ?_
        refine xs_ret ?_
        exact xs_fin [.bool true] [] (SI.tmp 6 SI.nil) (fun _ h => h.re [] [0]) ⟨rfl, rfl⟩
      ·
        have p10 := Decidable.not_not.1 (of_decide_eq_false c8)
        have hc := errI_ok p10; have hs := chk_asc hc
        have hc := errI_ok p10
        refine k_skip ?_
        refine xs_then ?_
        refine k_seq ?_
        refine k_held [blkA g1 #[ov, rv] 44] ?_
        refine h_lt 0 rfl (np_then np_finS) [0] (fun _ => (t_loadA 0 #[ov, rv])) ?_
        refine h_stepS2 1 7 ?_ ?_
        ·
          refine s_pcall (fun _ h => qnew_s) ?_
          rintro _ _ ⟨q11, rfl, rfl⟩
          refine s_nil (xs_held [1] ?_)
          refine h_stepS2 2 7 ?_ ?_
          ·
            refine s_call [0] (cycle_ok (l := l) (R := R) (reg := []) (pend := []) hg (by omega) (by omega) hsm (by first | omega | decide) (by first | omega | decide) hc) ?_
            rintro _ _ ⟨ov12, rv13, fv14, l15, rfl, hl16, rfl⟩
            refine s_fact (fun H h => ((Acc.own (T := iTy) (L := (cycF l R [] [])) 2 rfl) H h).form) (fun hf17 => ?_)
            refine s_nil (xs_held [3] ?_)
            refine h_lt 3 rfl (np_then np_finS) [3] (fun _ => (t_pure (.tuple #[.agg #[ov12, rv13], fv14, .int .i64 0]))) ?_
            refine h_lt 4 rfl (np_then np_finS) [3] (fun _ => (t_pure (.agg #[ov12, rv13]))) ?_
            refine h_lt 5 rfl (np_then np_finS) [3] (fun _ => (t_pure fv14)) ?_
            refine h_lt 6 rfl (np_then np_finS) [3] (fun _ => (t_pure (.int .i64 0))) ?_
            refine h_stepS 7 ?_
            refine s_alloc (.agg #[(.slice none 0 0), (.slice none 0 0)]) #[(.slice none 0 0), (.slice none 0 0)] (fun g18 => ?_)
            refine s_nil (xs_held [4] ?_)
            refine h_stepS 8 ?_
            refine s_fact (fun H h => ((show Acc _ _ ObT _ _ from (accF 2)) H h).form) (fun hf19 => ?_)
            refine s_fact (fun H h => ((show Acc _ _ iTy _ _ from (accR 2)) H h).form) (fun hf20 => ?_)
            refine s_store (u := .agg #[ov12, rv13]) (m := 2) 0 #[ov12, rv13] ?_ (hm := by (obtain ⟨_, _, e0⟩ := hf19; obtain ⟨_, _, e1⟩ := hf20; rw [e0, e1]; rfl)) (h1 := by (obtain ⟨_, _, e0⟩ := hf19; obtain ⟨_, _, e1⟩ := hf20; rw [e0, e1]; rfl)) (ha' := by (obtain ⟨_, _, e0⟩ := hf19; obtain ⟨_, _, e1⟩ := hf20; rw [e0, e1]; rfl))
            refine s_nil (xs_held [4] ?_)
            refine h_lt 9 rfl (np_then np_finS) [4] (fun _ => (t_pure fv14)) ?_
            refine h_lt 10 rfl (np_then np_finS) [4] (fun _ => (t_pure (.int .i64 0))) ?_
            refine h_doneS ?_
            refine xs_then ?_
            refine k_seq ?_
            refine k_reg ?_
            refine s_lt (t_loadA 4 #[ov, rv]) ?_
            refine s_pcall (fun _ h => Collect_s (hg.up h) hl hp hsm hr) ?_
            rintro _ _ ⟨ov21, rv22, fv23, l24, R25, rfl, hl26, hR27, rfl⟩
            refine s_fact (fun H h => ((Acc.own (T := iTy) (L := (collF l R)) 1 rfl) H h).form) (fun hf28 => ?_)
            refine s_lt (t_pure (.tuple #[.agg #[ov21, rv22], fv23, .int .i64 (errI (chk 0 l))])) ?_
            refine s_lt (t_pure (.agg #[ov21, rv22])) ?_
            refine s_lt (t_pure fv23) ?_
            refine s_lt (t_pure (.int .i64 (errI (chk 0 l)))) ?_
            refine s_alloc (.agg #[(.slice none 0 0), (.slice none 0 0)]) #[(.slice none 0 0), (.slice none 0 0)] (fun g29 => ?_)
            refine s_fact (fun H h => ((show Acc _ _ ObT _ _ from (accF 1)) H h).form) (fun hf30 => ?_)
            refine s_fact (fun H h => ((show Acc _ _ iTy _ _ from (accR 1)) H h).form) (fun hf31 => ?_)
            refine s_store (u := .agg #[ov21, rv22]) (m := 2) 0 #[ov21, rv22] ?_ (hm := by (obtain ⟨_, _, e0⟩ := hf30; obtain ⟨_, _, e1⟩ := hf31; rw [e0, e1]; rfl)) (h1 := by (obtain ⟨_, _, e0⟩ := hf30; obtain ⟨_, _, e1⟩ := hf31; rw [e0, e1]; rfl)) (ha' := by (obtain ⟨_, _, e0⟩ := hf30; obtain ⟨_, _, e1⟩ := hf31; rw [e0, e1]; rfl))
            refine s_lt (t_pure fv23) ?_
            refine s_lt (t_pure (.int .i64 (errI (chk 0 l)))) ?_
            refine s_nil ?_
            refine xs_then ?_
            refine k_seq ?_
            refine k_seq ?_
            refine k_reg ?_
            refine s_lt (t_pure (.int .i64 0)) ?_
            refine s_lt (t_cmp (c := false)) ?_
            refine s_lt (t_pure (.bool false)) ?_
            refine s_lt (t_pure (.int .i64 (errI (chk 0 l)))) ?_
            refine s_lt (Lt.to t_cmp (congrArg Value.bool (decide_eq_false (by rw [hc]; decide) : (decide ((errI (chk 0 l)) ≠ 0)) = false))) ?_
            refine s_lt (t_pure (.bool false)) ?_
            refine s_lt (t_pure (.bool false)) ?_
            refine s_lt (t_loadA 3 #[ov12, rv13]) ?_
            refine s_lt (t_loadA 0 #[ov21, rv22]) ?_
            refine s_vcall (fun _ h => sameG_s (GrA.kn (h.frzF 5)) (GrA.kn (h.frzF 1))) ?_
            rintro u33 e32
            obtain rfl : u33 = .bool true := e32.trans (congrArg Value.bool (decide_eq_true ⟨by rw [hR27, if_pos hc], hl16.trans ((cyc_coll R hc hst).1.trans hl26.symm)⟩))
            refine s_lt (t_pure (.bool false)) ?_
            refine s_lt (t_pure (.bool false)) ?_
            refine s_lt (t_pure (.bool false)) ?_
            refine s_lt (t_pure fv14) ?_
            refine s_lt (t_pure fv23) ?_
            refine s_vcall (fun _ h => ints_s (Acc.kn (.own 6) h) (Acc.kn (.own 2) h)) ?_
            rintro u35 e34
            obtain rfl : u35 = .bool true := e34.trans (congrArg Value.bool (decide_eq_true (cyc_coll R hc hst).2))
            refine s_lt (t_pure (.bool false)) ?_
            refine s_lt (t_pure (.bool false)) ?_
            refine s_nil ?_
            refine xs_then ?_
            refine k_false ?_
            refine k_skip ?_
            refine xs_then ?_
            refine k_seq ?_
            refine k_reg ?_
            refine s_lt (t_pure lv) ?_
            refine s_lt (t_pure (.int .u8 n)) ?_
            refine s_pcall (fun _ h => queues_s (L := L) (Acc.kn (.zn hL) h) hn) ?_
            rintro _ _ ⟨qb36, pb37, rg38, pd39, rfl, hq40, rfl⟩
            refine s_lt (t_pure (.tuple #[.pointer (some ⟨qb36, 0, none⟩), .pointer (some ⟨pb37, 0, none⟩)])) ?_
            refine s_lt (t_pure (.pointer (some ⟨qb36, 0, none⟩))) ?_
            refine s_lt (t_pure (.pointer (some ⟨pb37, 0, none⟩))) ?_
            refine s_lt (t_pure (.pointer (some ⟨qb36, 0, none⟩))) ?_
            refine s_lt (t_pure (.pointer (some ⟨pb37, 0, none⟩))) ?_
            refine s_nil ?_
            refine xs_then ?_
            refine k_seq ?_
            refine k_reg ?_
            refine s_lt (t_loadA 9 #[ov, rv]) ?_
            refine s_lt (t_pure (.pointer (some ⟨qb36, 0, none⟩))) ?_
            refine s_call [0] (cycle_ok (l := l) (R := R) (reg := rg38) (pend := pd39) hg (by omega) (by omega) hsm (by first | omega | decide) (by first | omega | decide) hc) ?_
            rintro _ _ ⟨ov41, rv42, fv43, l44, rfl, hl45, rfl⟩
            have hag := cyc_again (reg := rg38) (pend := pd39) hc hst hl45
            refine s_fact (fun H h => ((Acc.own (T := iTy) (L := (cycF l R rg38 pd39)) 2 rfl) H h).form) (fun hf46 => ?_)
            refine s_lt (t_pure (.tuple #[.agg #[ov41, rv42], fv43, .int .i64 0])) ?_
            refine s_lt (t_pure (.agg #[ov41, rv42])) ?_
            refine s_lt (t_pure fv43) ?_
            refine s_lt (t_pure (.int .i64 0)) ?_
            refine s_alloc (.agg #[(.slice none 0 0), (.slice none 0 0)]) #[(.slice none 0 0), (.slice none 0 0)] (fun g47 => ?_)
            refine s_fact (fun H h => ((show Acc _ _ ObT _ _ from (accF 2)) H h).form) (fun hf48 => ?_)
            refine s_fact (fun H h => ((show Acc _ _ iTy _ _ from (accR 2)) H h).form) (fun hf49 => ?_)
            refine s_store (u := .agg #[ov41, rv42]) (m := 2) 0 #[ov41, rv42] ?_ (hm := by (obtain ⟨_, _, e0⟩ := hf48; obtain ⟨_, _, e1⟩ := hf49; rw [e0, e1]; rfl)) (h1 := by (obtain ⟨_, _, e0⟩ := hf48; obtain ⟨_, _, e1⟩ := hf49; rw [e0, e1]; rfl)) (ha' := by (obtain ⟨_, _, e0⟩ := hf48; obtain ⟨_, _, e1⟩ := hf49; rw [e0, e1]; rfl))
            refine s_lt (t_pure fv43) ?_
            refine s_lt (t_pure (.int .i64 0)) ?_
            refine s_nil ?_
            refine xs_then ?_
            refine k_seq ?_
            refine k_reg ?_
            refine s_lt (t_loadA 0 #[ov41, rv42]) ?_
            refine s_lt (t_pure (.pointer (some ⟨qb36, 0, none⟩))) ?_
            have hs_l44 := cycO_small hl45 hsm
            have hr_l44 : (cycR l R rg38).length ≤ 50000 := by have := stay_len (aliveR l R) rg38; show (stayL _ _).length ≤ _; omega
            have hp_l44 : (cycP l R rg38 pd39).length ≤ 50000 := by have := cycP_len l R rg38 pd39; show (_ ++ _ : List Int).length ≤ _; omega
            refine s_lend 2 [1] (fun _ hz => cycle_ok (l := l44) (R := R) (reg := (cycR l R rg38)) (pend := (cycP l R rg38 pd39)) (lend_gr hz) (by omega) (by omega) hs_l44.2 hr_l44 hp_l44 hag.1) ?_
            rintro _ _ ⟨ov50, rv51, fv52, l53, rfl, hl54, rfl⟩
            refine s_fact (fun H h => ((Acc.own (T := iTy) (L := (cycF l44 R (cycR l R rg38) (cycP l R rg38 pd39))) 3 rfl) H h).form) (fun hf55 => ?_)
            refine s_lt (t_pure (.tuple #[.agg #[ov50, rv51], fv52, .int .i64 0])) ?_
            refine s_lt (t_pure (.agg #[ov50, rv51])) ?_
            refine s_lt (t_pure fv52) ?_
            refine s_lt (t_pure (.int .i64 0)) ?_
            refine s_alloc (.agg #[(.slice none 0 0), (.slice none 0 0)]) #[(.slice none 0 0), (.slice none 0 0)] (fun g56 => ?_)
            refine s_fact (fun H h => ((show Acc _ _ ObT _ _ from (accF 3)) H h).form) (fun hf57 => ?_)
            refine s_fact (fun H h => ((show Acc _ _ iTy _ _ from (accR 3)) H h).form) (fun hf58 => ?_)
            refine s_store (u := .agg #[ov50, rv51]) (m := 2) 0 #[ov50, rv51] ?_ (hm := by (obtain ⟨_, _, e0⟩ := hf57; obtain ⟨_, _, e1⟩ := hf58; rw [e0, e1]; rfl)) (h1 := by (obtain ⟨_, _, e0⟩ := hf57; obtain ⟨_, _, e1⟩ := hf58; rw [e0, e1]; rfl)) (ha' := by (obtain ⟨_, _, e0⟩ := hf57; obtain ⟨_, _, e1⟩ := hf58; rw [e0, e1]; rfl))
            refine s_lt (t_pure fv52) ?_
            refine s_lt (t_pure (.int .i64 0)) ?_
            refine s_nil ?_
            refine xs_then ?_
            refine k_seq ?_
            refine k_reg ?_
            refine s_lt (t_pure (.int .i64 0)) ?_
            refine s_lt (t_cmp (c := true)) ?_
            refine s_lt (t_pure (.bool true)) ?_
            refine s_lt (t_pure (.int .i64 0)) ?_
            refine s_lt (t_cmp (c := true)) ?_
            refine s_lt (t_pure (.bool true)) ?_
            refine s_lt (t_pure (.bool true)) ?_
            refine s_lt (t_pure fv52) ?_
            refine s_lt (t_len iTy_ok Try.underlying22 (.own 4)) ?_
            refine s_lt (Lt.to t_cmp (congrArg Value.bool (decide_eq_true (by rw [hag.2.2]; rfl) : (decide (((cycF l44 R (cycR l R rg38) (cycP l R rg38 pd39)).length : Int) = 0)) = true))) ?_
            refine s_lt (t_pure (.bool true)) ?_
            refine s_lt (t_pure (.bool true)) ?_
            refine s_lt (t_loadA 5 #[ov41, rv42]) ?_
            refine s_lt (t_loadA 0 #[ov50, rv51]) ?_
            refine s_vcall (fun _ h => sameG_s (GrA.kn (h.frzF 1)) (GrA.kn (h.frzF 3))) ?_
            rintro u60 e59
            obtain rfl : u60 = .bool true := e59.trans (congrArg Value.bool (decide_eq_true ⟨rfl, (hl54.trans hag.2.1).symm⟩))
            refine s_lt (t_pure (.bool true)) ?_
            refine s_lt (t_pure (.bool true)) ?_
            refine s_vcall (fun _ h => awake_s) ?_
            rintro _ rfl
            refine s_lt (t_pure (.bool true)) ?_
            refine s_lt (t_pure (.bool true)) ?_
            refine s_nil ?_
            refine xs_then ?_
            refine k_ret ?_
            exact xs_fin [.bool true] [] (SI.tmp 6 SI.nil) (fun _ h => h.re [] [0, 0, 0, 0, 0, 0, 0, 0, 0, 0, 0, 0, 0, 0, 0, 0]) ⟨rfl, rfl⟩
          ·
            refine s_alloc (.agg #[(.slice none 0 0), (.slice none 0 0)]) #[(.slice none 0 0), (.slice none 0 0)] (fun g61 => ?_)
            refine s_nil (xs_held [2] ?_)
            refine h_stepS 2 ?_
            refine s_call [1] (cycle_ok (l := l) (R := R) (reg := []) (pend := []) hg (by omega) (by omega) hsm (by first | omega | decide) (by first | omega | decide) hc) ?_
            rintro _ _ ⟨ov62, rv63, fv64, l65, rfl, hl66, rfl⟩
            refine s_fact (fun H h => ((Acc.own (T := iTy) (L := (cycF l R [] [])) 2 rfl) H h).form) (fun hf67 => ?_)
            refine s_nil (xs_held [4] ?_)
            refine h_lt 3 rfl (np_then np_finS) [4] (fun _ => (t_pure (.tuple #[.agg #[ov62, rv63], fv64, .int .i64 0]))) ?_
            refine h_lt 4 rfl (np_then np_finS) [4] (fun _ => (t_pure (.agg #[ov62, rv63]))) ?_
            refine h_lt 5 rfl (np_then np_finS) [4] (fun _ => (t_pure fv64)) ?_
            refine h_lt 6 rfl (np_then np_finS) [4] (fun _ => (t_pure (.int .i64 0))) ?_
            refine h_stepS 8 ?_
            refine s_fact (fun H h => ((show Acc _ _ ObT _ _ from (accF 1)) H h).form) (fun hf68 => ?_)
            refine s_fact (fun H h => ((show Acc _ _ iTy _ _ from (accR 1)) H h).form) (fun hf69 => ?_)
            refine s_store (u := .agg #[ov62, rv63]) (m := 2) 3 #[ov62, rv63] ?_ (hm := by (obtain ⟨_, _, e0⟩ := hf68; obtain ⟨_, _, e1⟩ := hf69; rw [e0, e1]; rfl)) (h1 := by (obtain ⟨_, _, e0⟩ := hf68; obtain ⟨_, _, e1⟩ := hf69; rw [e0, e1]; rfl)) (ha' := by (obtain ⟨_, _, e0⟩ := hf68; obtain ⟨_, _, e1⟩ := hf69; rw [e0, e1]; rfl))
            refine s_nil (xs_held [4] ?_)
            refine h_lt 9 rfl (np_then np_finS) [4] (fun _ => (t_pure fv64)) ?_
            refine h_lt 10 rfl (np_then np_finS) [4] (fun _ => (t_pure (.int .i64 0))) ?_
            refine h_doneS ?_
            refine xs_then ?_
            refine k_seq ?_
            refine k_reg ?_
            refine s_lt (t_loadA 4 #[ov, rv]) ?_
            refine s_pcall (fun _ h => Collect_s (hg.up h) hl hp hsm hr) ?_
            rintro _ _ ⟨ov70, rv71, fv72, l73, R74, rfl, hl75, hR76, rfl⟩
            refine s_fact (fun H h => ((Acc.own (T := iTy) (L := (collF l R)) 1 rfl) H h).form) (fun hf77 => ?_)
            refine s_lt (t_pure (.tuple #[.agg #[ov70, rv71], fv72, .int .i64 (errI (chk 0 l))])) ?_
            refine s_lt (t_pure (.agg #[ov70, rv71])) ?_
            refine s_lt (t_pure fv72) ?_
            refine s_lt (t_pure (.int .i64 (errI (chk 0 l)))) ?_
            refine s_alloc (.agg #[(.slice none 0 0), (.slice none 0 0)]) #[(.slice none 0 0), (.slice none 0 0)] (fun g78 => ?_)
            refine s_fact (fun H h => ((show Acc _ _ ObT _ _ from (accF 1)) H h).form) (fun hf79 => ?_)
            refine s_fact (fun H h => ((show Acc _ _ iTy _ _ from (accR 1)) H h).form) (fun hf80 => ?_)
            refine s_store (u := .agg #[ov70, rv71]) (m := 2) 0 #[ov70, rv71] ?_ (hm := by (obtain ⟨_, _, e0⟩ := hf79; obtain ⟨_, _, e1⟩ := hf80; rw [e0, e1]; rfl)) (h1 := by (obtain ⟨_, _, e0⟩ := hf79; obtain ⟨_, _, e1⟩ := hf80; rw [e0, e1]; rfl)) (ha' := by (obtain ⟨_, _, e0⟩ := hf79; obtain ⟨_, _, e1⟩ := hf80; rw [e0, e1]; rfl))
            refine s_lt (t_pure fv72) ?_
            refine s_lt (t_pure (.int .i64 (errI (chk 0 l)))) ?_
            refine s_nil ?_
            refine xs_then ?_
            refine k_seq ?_
            refine k_seq ?_
            refine k_reg ?_
            refine s_lt (t_pure (.int .i64 0)) ?_
            refine s_lt (t_cmp (c := false)) ?_
            refine s_lt (t_pure (.bool false)) ?_
            refine s_lt (t_pure (.int .i64 (errI (chk 0 l)))) ?_
            refine s_lt (Lt.to t_cmp (congrArg Value.bool (decide_eq_false (by rw [hc]; decide) : (decide ((errI (chk 0 l)) ≠ 0)) = false))) ?_
            refine s_lt (t_pure (.bool false)) ?_
            refine s_lt (t_pure (.bool false)) ?_
            refine s_lt (t_loadA 6 #[ov62, rv63]) ?_
            refine s_lt (t_loadA 0 #[ov70, rv71]) ?_
            refine s_vcall (fun _ h => sameG_s (GrA.kn (h.frzF 4)) (GrA.kn (h.frzF 1))) ?_
            rintro u82 e81
            obtain rfl : u82 = .bool true := e81.trans (congrArg Value.bool (decide_eq_true ⟨by rw [hR76, if_pos hc], hl66.trans ((cyc_coll R hc hst).1.trans hl75.symm)⟩))
            refine s_lt (t_pure (.bool false)) ?_
            refine s_lt (t_pure (.bool false)) ?_
            refine s_lt (t_pure (.bool false)) ?_
            refine s_lt (t_pure fv64) ?_
            refine s_lt (t_pure fv72) ?_
            refine s_vcall (fun _ h => ints_s (Acc.kn (.own 5) h) (Acc.kn (.own 2) h)) ?_
            rintro u84 e83
            obtain rfl : u84 = .bool true := e83.trans (congrArg Value.bool (decide_eq_true (cyc_coll R hc hst).2))
            refine s_lt (t_pure (.bool false)) ?_
            refine s_lt (t_pure (.bool false)) ?_
            refine s_nil ?_
            refine xs_then ?_
            refine k_false ?_
            refine k_skip ?_
            refine xs_then ?_
            refine k_seq ?_
            refine k_reg ?_
            refine s_lt (t_pure lv) ?_
            refine s_lt (t_pure (.int .u8 n)) ?_
            refine s_pcall (fun _ h => queues_s (L := L) (Acc.kn (.zn hL) h) hn) ?_
            rintro _ _ ⟨qb85, pb86, rg87, pd88, rfl, hq89, rfl⟩
            refine s_lt (t_pure (.tuple #[.pointer (some ⟨qb85, 0, none⟩), .pointer (some ⟨pb86, 0, none⟩)])) ?_
            refine s_lt (t_pure (.pointer (some ⟨qb85, 0, none⟩))) ?_
            refine s_lt (t_pure (.pointer (some ⟨pb86, 0, none⟩))) ?_
            refine s_lt (t_pure (.pointer (some ⟨qb85, 0, none⟩))) ?_
            refine s_lt (t_pure (.pointer (some ⟨pb86, 0, none⟩))) ?_
            refine s_nil ?_
            refine xs_then ?_
            refine k_seq ?_
            refine k_reg ?_
            refine s_lt (t_loadA 9 #[ov, rv]) ?_
            refine s_lt (t_pure (.pointer (some ⟨qb85, 0, none⟩))) ?_
            refine s_call [0] (cycle_ok (l := l) (R := R) (reg := rg87) (pend := pd88) hg (by omega) (by omega) hsm (by first | omega | decide) (by first | omega | decide) hc) ?_
            rintro _ _ ⟨ov90, rv91, fv92, l93, rfl, hl94, rfl⟩
            have hag := cyc_again (reg := rg87) (pend := pd88) hc hst hl94
            refine s_fact (fun H h => ((Acc.own (T := iTy) (L := (cycF l R rg87 pd88)) 2 rfl) H h).form) (fun hf95 => ?_)
            refine s_lt (t_pure (.tuple #[.agg #[ov90, rv91], fv92, .int .i64 0])) ?_
            refine s_lt (t_pure (.agg #[ov90, rv91])) ?_
            refine s_lt (t_pure fv92) ?_
            refine s_lt (t_pure (.int .i64 0)) ?_
            refine s_alloc (.agg #[(.slice none 0 0), (.slice none 0 0)]) #[(.slice none 0 0), (.slice none 0 0)] (fun g96 => ?_)
            refine s_fact (fun H h => ((show Acc _ _ ObT _ _ from (accF 2)) H h).form) (fun hf97 => ?_)
            refine s_fact (fun H h => ((show Acc _ _ iTy _ _ from (accR 2)) H h).form) (fun hf98 => ?_)
            refine s_store (u := .agg #[ov90, rv91]) (m := 2) 0 #[ov90, rv91] ?_ (hm := by (obtain ⟨_, _, e0⟩ := hf97; obtain ⟨_, _, e1⟩ := hf98; rw [e0, e1]; rfl)) (h1 := by (obtain ⟨_, _, e0⟩ := hf97; obtain ⟨_, _, e1⟩ := hf98; rw [e0, e1]; rfl)) (ha' := by (obtain ⟨_, _, e0⟩ := hf97; obtain ⟨_, _, e1⟩ := hf98; rw [e0, e1]; rfl))
            refine s_lt (t_pure fv92) ?_
            refine s_lt (t_pure (.int .i64 0)) ?_
            refine s_nil ?_
            refine xs_then ?_
            refine k_seq ?_
            refine k_reg ?_
            refine s_lt (t_loadA 0 #[ov90, rv91]) ?_
            refine s_lt (t_pure (.pointer (some ⟨qb85, 0, none⟩))) ?_
            have hs_l93 := cycO_small hl94 hsm
            have hr_l93 : (cycR l R rg87).length ≤ 50000 := by have := stay_len (aliveR l R) rg87; show (stayL _ _).length ≤ _; omega
            have hp_l93 : (cycP l R rg87 pd88).length ≤ 50000 := by have := cycP_len l R rg87 pd88; show (_ ++ _ : List Int).length ≤ _; omega
            refine s_lend 2 [1] (fun _ hz => cycle_ok (l := l93) (R := R) (reg := (cycR l R rg87)) (pend := (cycP l R rg87 pd88)) (lend_gr hz) (by omega) (by omega) hs_l93.2 hr_l93 hp_l93 hag.1) ?_
            rintro _ _ ⟨ov99, rv100, fv101, l102, rfl, hl103, rfl⟩
            refine s_fact (fun H h => ((Acc.own (T := iTy) (L := (cycF l93 R (cycR l R rg87) (cycP l R rg87 pd88))) 3 rfl) H h).form) (fun hf104 => ?_)
            refine s_lt (t_pure (.tuple #[.agg #[ov99, rv100], fv101, .int .i64 0])) ?_
            refine s_lt (t_pure (.agg #[ov99, rv100])) ?_
            refine s_lt (t_pure fv101) ?_
            refine s_lt (t_pure (.int .i64 0)) ?_
            refine s_alloc (.agg #[(.slice none 0 0), (.slice none 0 0)]) #[(.slice none 0 0), (.slice none 0 0)] (fun g105 => ?_)
            refine s_fact (fun H h => ((show Acc _ _ ObT _ _ from (accF 3)) H h).form) (fun hf106 => ?_)
            refine s_fact (fun H h => ((show Acc _ _ iTy _ _ from (accR 3)) H h).form) (fun hf107 => ?_)
            refine s_store (u := .agg #[ov99, rv100]) (m := 2) 0 #[ov99, rv100] ?_ (hm := by (obtain ⟨_, _, e0⟩ := hf106; obtain ⟨_, _, e1⟩ := hf107; rw [e0, e1]; rfl)) (h1 := by (obtain ⟨_, _, e0⟩ := hf106; obtain ⟨_, _, e1⟩ := hf107; rw [e0, e1]; rfl)) (ha' := by (obtain ⟨_, _, e0⟩ := hf106; obtain ⟨_, _, e1⟩ := hf107; rw [e0, e1]; rfl))
            refine s_lt (t_pure fv101) ?_
            refine s_lt (t_pure (.int .i64 0)) ?_
            refine s_nil ?_
            refine xs_then ?_
            refine k_seq ?_
            refine k_reg ?_
            refine s_lt (t_pure (.int .i64 0)) ?_
            refine s_lt (t_cmp (c := true)) ?_
            refine s_lt (t_pure (.bool true)) ?_
            refine s_lt (t_pure (.int .i64 0)) ?_
            refine s_lt (t_cmp (c := true)) ?_
            refine s_lt (t_pure (.bool true)) ?_
            refine s_lt (t_pure (.bool true)) ?_
            refine s_lt (t_pure fv101) ?_
            refine s_lt (t_len iTy_ok Try.underlying22 (.own 4)) ?_
            refine s_lt (Lt.to t_cmp (congrArg Value.bool (decide_eq_true (by rw [hag.2.2]; rfl) : (decide (((cycF l93 R (cycR l R rg87) (cycP l R rg87 pd88)).length : Int) = 0)) = true))) ?_
            refine s_lt (t_pure (.bool true)) ?_
            refine s_lt (t_pure (.bool true)) ?_
            refine s_lt (t_loadA 5 #[ov90, rv91]) ?_
            refine s_lt (t_loadA 0 #[ov99, rv100]) ?_
            refine s_vcall (fun _ h => sameG_s (GrA.kn (h.frzF 1)) (GrA.kn (h.frzF 3))) ?_
            rintro u109 e108
            obtain rfl : u109 = .bool true := e108.trans (congrArg Value.bool (decide_eq_true ⟨rfl, (hl103.trans hag.2.1).symm⟩))
            refine s_lt (t_pure (.bool true)) ?_
            refine s_lt (t_pure (.bool true)) ?_
            refine s_vcall (fun _ h => awake_s) ?_
            rintro _ rfl
            refine s_lt (t_pure (.bool true)) ?_
            refine s_lt (t_pure (.bool true)) ?_
            refine s_nil ?_
            refine xs_then ?_
            refine k_ret ?_
            exact xs_fin [.bool true] [] (SI.tmp 6 SI.nil) (fun _ h => h.re [] [0, 0, 0, 0, 0, 0, 0, 0, 0, 0, 0, 0, 0, 0, 0, 0]) ⟨rfl, rfl⟩
        ·
          refine s_alloc (.agg #[(.slice none 0 0), (.slice none 0 0)]) #[(.slice none 0 0), (.slice none 0 0)] (fun g110 => ?_)
          refine s_nil (xs_held [1] ?_)
          refine h_stepS 1 ?_
          refine s_pcall (fun _ h => qnew_s) ?_
          rintro _ _ ⟨q111, rfl, rfl⟩
          refine s_nil (xs_held [2] ?_)
          refine h_stepS 2 ?_
          refine s_call [0] (cycle_ok (l := l) (R := R) (reg := []) (pend := []) hg (by omega) (by omega) hsm (by first | omega | decide) (by first | omega | decide) hc) ?_
          rintro _ _ ⟨ov112, rv113, fv114, l115, rfl, hl116, rfl⟩
          refine s_fact (fun H h => ((Acc.own (T := iTy) (L := (cycF l R [] [])) 2 rfl) H h).form) (fun hf117 => ?_)
          refine s_nil (xs_held [4] ?_)
          refine h_lt 3 rfl (np_then np_finS) [4] (fun _ => (t_pure (.tuple #[.agg #[ov112, rv113], fv114, .int .i64 0]))) ?_
          refine h_lt 4 rfl (np_then np_finS) [4] (fun _ => (t_pure (.agg #[ov112, rv113]))) ?_
          refine h_lt 5 rfl (np_then np_finS) [4] (fun _ => (t_pure fv114)) ?_
          refine h_lt 6 rfl (np_then np_finS) [4] (fun _ => (t_pure (.int .i64 0))) ?_
          refine h_stepS 8 ?_
          refine s_fact (fun H h => ((show Acc _ _ ObT _ _ from (accF 1)) H h).form) (fun hf118 => ?_)
          refine s_fact (fun H h => ((show Acc _ _ iTy _ _ from (accR 1)) H h).form) (fun hf119 => ?_)
          refine s_store (u := .agg #[ov112, rv113]) (m := 2) 3 #[ov112, rv113] ?_ (hm := by (obtain ⟨_, _, e0⟩ := hf118; obtain ⟨_, _, e1⟩ := hf119; rw [e0, e1]; rfl)) (h1 := by (obtain ⟨_, _, e0⟩ := hf118; obtain ⟨_, _, e1⟩ := hf119; rw [e0, e1]; rfl)) (ha' := by (obtain ⟨_, _, e0⟩ := hf118; obtain ⟨_, _, e1⟩ := hf119; rw [e0, e1]; rfl))
          refine s_nil (xs_held [4] ?_)
          refine h_lt 9 rfl (np_then np_finS) [4] (fun _ => (t_pure fv114)) ?_
          refine h_lt 10 rfl (np_then np_finS) [4] (fun _ => (t_pure (.int .i64 0))) ?_
          refine h_doneS ?_
          refine xs_then ?_
          refine k_seq ?_
          refine k_reg ?_
          refine s_lt (t_loadA 4 #[ov, rv]) ?_
          refine s_pcall (fun _ h => Collect_s (hg.up h) hl hp hsm hr) ?_
          rintro _ _ ⟨ov120, rv121, fv122, l123, R124, rfl, hl125, hR126, rfl⟩
          refine s_fact (fun H h => ((Acc.own (T := iTy) (L := (collF l R)) 1 rfl) H h).form) (fun hf127 => ?_)
          refine s_lt (t_pure (.tuple #[.agg #[ov120, rv121], fv122, .int .i64 (errI (chk 0 l))])) ?_
          refine s_lt (t_pure (.agg #[ov120, rv121])) ?_
          refine s_lt (t_pure fv122) ?_
          refine s_lt (t_pure (.int .i64 (errI (chk 0 l)))) ?_
          refine s_alloc (.agg #[(.slice none 0 0), (.slice none 0 0)]) #[(.slice none 0 0), (.slice none 0 0)] (fun g128 => ?_)
          refine s_fact (fun H h => ((show Acc _ _ ObT _ _ from (accF 1)) H h).form) (fun hf129 => ?_)
          refine s_fact (fun H h => ((show Acc _ _ iTy _ _ from (accR 1)) H h).form) (fun hf130 => ?_)
          refine s_store (u := .agg #[ov120, rv121]) (m := 2) 0 #[ov120, rv121] ?_ (hm := by (obtain ⟨_, _, e0⟩ := hf129; obtain ⟨_, _, e1⟩ := hf130; rw [e0, e1]; rfl)) (h1 := by (obtain ⟨_, _, e0⟩ := hf129; obtain ⟨_, _, e1⟩ := hf130; rw [e0, e1]; rfl)) (ha' := by (obtain ⟨_, _, e0⟩ := hf129; obtain ⟨_, _, e1⟩ := hf130; rw [e0, e1]; rfl))
          refine s_lt (t_pure fv122) ?_
          refine s_lt (t_pure (.int .i64 (errI (chk 0 l)))) ?_
          refine s_nil ?_
          refine xs_then ?_
          refine k_seq ?_
          refine k_seq ?_
          refine k_reg ?_
          refine s_lt (t_pure (.int .i64 0)) ?_
          refine s_lt (t_cmp (c := false)) ?_
          refine s_lt (t_pure (.bool false)) ?_
          refine s_lt (t_pure (.int .i64 (errI (chk 0 l)))) ?_
          refine s_lt (Lt.to t_cmp (congrArg Value.bool (decide_eq_false (by rw [hc]; decide) : (decide ((errI (chk 0 l)) ≠ 0)) = false))) ?_
          refine s_lt (t_pure (.bool false)) ?_
          refine s_lt (t_pure (.bool false)) ?_
          refine s_lt (t_loadA 6 #[ov112, rv113]) ?_
          refine s_lt (t_loadA 0 #[ov120, rv121]) ?_
          refine s_vcall (fun _ h => sameG_s (GrA.kn (h.frzF 4)) (GrA.kn (h.frzF 1))) ?_
          rintro u132 e131
          obtain rfl : u132 = .bool true := e131.trans (congrArg Value.bool (decide_eq_true ⟨by rw [hR126, if_pos hc], hl116.trans ((cyc_coll R hc hst).1.trans hl125.symm)⟩))
          refine s_lt (t_pure (.bool false)) ?_
          refine s_lt (t_pure (.bool false)) ?_
          refine s_lt (t_pure (.bool false)) ?_
          refine s_lt (t_pure fv114) ?_
          refine s_lt (t_pure fv122) ?_
          refine s_vcall (fun _ h => ints_s (Acc.kn (.own 5) h) (Acc.kn (.own 2) h)) ?_
          rintro u134 e133
          obtain rfl : u134 = .bool true := e133.trans (congrArg Value.bool (decide_eq_true (cyc_coll R hc hst).2))
          refine s_lt (t_pure (.bool false)) ?_
          refine s_lt (t_pure (.bool false)) ?_
          refine s_nil ?_
          refine xs_then ?_
          refine k_false ?_
          refine k_skip ?_
          refine xs_then ?_
          refine k_seq ?_
          refine k_reg ?_
          refine s_lt (t_pure lv) ?_
          refine s_lt (t_pure (.int .u8 n)) ?_
          refine s_pcall (fun _ h => queues_s (L := L) (Acc.kn (.zn hL) h) hn) ?_
          rintro _ _ ⟨qb135, pb136, rg137, pd138, rfl, hq139, rfl⟩
          refine s_lt (t_pure (.tuple #[.pointer (some ⟨qb135, 0, none⟩), .pointer (some ⟨pb136, 0, none⟩)])) ?_
          refine s_lt (t_pure (.pointer (some ⟨qb135, 0, none⟩))) ?_
          refine s_lt (t_pure (.pointer (some ⟨pb136, 0, none⟩))) ?_
          refine s_lt (t_pure (.pointer (some ⟨qb135, 0, none⟩))) ?_
          refine s_lt (t_pure (.pointer (some ⟨pb136, 0, none⟩))) ?_
          refine s_nil ?_
          refine xs_then ?_
          refine k_seq ?_
          refine k_reg ?_
          refine s_lt (t_loadA 9 #[ov, rv]) ?_
          refine s_lt (t_pure (.pointer (some ⟨qb135, 0, none⟩))) ?_
          refine s_call [0] (cycle_ok (l := l) (R := R) (reg := rg137) (pend := pd138) hg (by omega) (by omega) hsm (by first | omega | decide) (by first | omega | decide) hc) ?_
          rintro _ _ ⟨ov140, rv141, fv142, l143, rfl, hl144, rfl⟩
          have hag := cyc_again (reg := rg137) (pend := pd138) hc hst hl144
          refine s_fact (fun H h => ((Acc.own (T := iTy) (L := (cycF l R rg137 pd138)) 2 rfl) H h).form) (fun hf145 => ?_)
          refine s_lt (t_pure (.tuple #[.agg #[ov140, rv141], fv142, .int .i64 0])) ?_
          refine s_lt (t_pure (.agg #[ov140, rv141])) ?_
          refine s_lt (t_pure fv142) ?_
          refine s_lt (t_pure (.int .i64 0)) ?_
          refine s_alloc (.agg #[(.slice none 0 0), (.slice none 0 0)]) #[(.slice none 0 0), (.slice none 0 0)] (fun g146 => ?_)
          refine s_fact (fun H h => ((show Acc _ _ ObT _ _ from (accF 2)) H h).form) (fun hf147 => ?_)
          refine s_fact (fun H h => ((show Acc _ _ iTy _ _ from (accR 2)) H h).form) (fun hf148 => ?_)
          refine s_store (u := .agg #[ov140, rv141]) (m := 2) 0 #[ov140, rv141] ?_ (hm := by (obtain ⟨_, _, e0⟩ := hf147; obtain ⟨_, _, e1⟩ := hf148; rw [e0, e1]; rfl)) (h1 := by (obtain ⟨_, _, e0⟩ := hf147; obtain ⟨_, _, e1⟩ := hf148; rw [e0, e1]; rfl)) (ha' := by (obtain ⟨_, _, e0⟩ := hf147; obtain ⟨_, _, e1⟩ := hf148; rw [e0, e1]; rfl))
          refine s_lt (t_pure fv142) ?_
          refine s_lt (t_pure (.int .i64 0)) ?_
          refine s_nil ?_
          refine xs_then ?_
          refine k_seq ?_
          refine k_reg ?_
          refine s_lt (t_loadA 0 #[ov140, rv141]) ?_
          refine s_lt (t_pure (.pointer (some ⟨qb135, 0, none⟩))) ?_
          have hs_l143 := cycO_small hl144 hsm
          have hr_l143 : (cycR l R rg137).length ≤ 50000 := by have := stay_len (aliveR l R) rg137; show (stayL _ _).length ≤ _; omega
          have hp_l143 : (cycP l R rg137 pd138).length ≤ 50000 := by have := cycP_len l R rg137 pd138; show (_ ++ _ : List Int).length ≤ _; omega
          refine s_lend 2 [1] (fun _ hz => cycle_ok (l := l143) (R := R) (reg := (cycR l R rg137)) (pend := (cycP l R rg137 pd138)) (lend_gr hz) (by omega) (by omega) hs_l143.2 hr_l143 hp_l143 hag.1) ?_
          rintro _ _ ⟨ov149, rv150, fv151, l152, rfl, hl153, rfl⟩
          refine s_fact (fun H h => ((Acc.own (T := iTy) (L := (cycF l143 R (cycR l R rg137) (cycP l R rg137 pd138))) 3 rfl) H h).form) (fun hf154 => ?_)
          refine s_lt (t_pure (.tuple #[.agg #[ov149, rv150], fv151, .int .i64 0])) ?_
          refine s_lt (t_pure (.agg #[ov149, rv150])) ?_
          refine s_lt (t_pure fv151) ?_
          refine s_lt (t_pure (.int .i64 0)) ?_
          refine s_alloc (.agg #[(.slice none 0 0), (.slice none 0 0)]) #[(.slice none 0 0), (.slice none 0 0)] (fun g155 => ?_)
          refine s_fact (fun H h => ((show Acc _ _ ObT _ _ from (accF 3)) H h).form) (fun hf156 => ?_)
          refine s_fact (fun H h => ((show Acc _ _ iTy _ _ from (accR 3)) H h).form) (fun hf157 => ?_)
          refine s_store (u := .agg #[ov149, rv150]) (m := 2) 0 #[ov149, rv150] ?_ (hm := by (obtain ⟨_, _, e0⟩ := hf156; obtain ⟨_, _, e1⟩ := hf157; rw [e0, e1]; rfl)) (h1 := by (obtain ⟨_, _, e0⟩ := hf156; obtain ⟨_, _, e1⟩ := hf157; rw [e0, e1]; rfl)) (ha' := by (obtain ⟨_, _, e0⟩ := hf156; obtain ⟨_, _, e1⟩ := hf157; rw [e0, e1]; rfl))
          refine s_lt (t_pure fv151) ?_
          refine s_lt (t_pure (.int .i64 0)) ?_
          refine s_nil ?_
          refine xs_then ?_
          refine k_seq ?_
          refine k_reg ?_
          refine s_lt (t_pure (.int .i64 0)) ?_
          refine s_lt (t_cmp (c := true)) ?_
          refine s_lt (t_pure (.bool true)) ?_
          refine s_lt (t_pure (.int .i64 0)) ?_
          refine s_lt (t_cmp (c := true)) ?_
          refine s_lt (t_pure (.bool true)) ?_
          refine s_lt (t_pure (.bool true)) ?_
          refine s_lt (t_pure fv151) ?_
          refine s_lt (t_len iTy_ok Try.underlying22 (.own 4)) ?_
          refine s_lt (Lt.to t_cmp (congrArg Value.bool (decide_eq_true (by rw [hag.2.2]; rfl) : (decide (((cycF l143 R (cycR l R rg137) (cycP l R rg137 pd138)).length : Int) = 0)) = true))) ?_
          refine s_lt (t_pure (.bool true)) ?_
          refine s_lt (t_pure (.bool true)) ?_
          refine s_lt (t_loadA 5 #[ov140, rv141]) ?_
          refine s_lt (t_loadA 0 #[ov149, rv150]) ?_
          refine s_vcall (fun _ h => sameG_s (GrA.kn (h.frzF 1)) (GrA.kn (h.frzF 3))) ?_
          rintro u159 e158
          obtain rfl : u159 = .bool true := e158.trans (congrArg Value.bool (decide_eq_true ⟨rfl, (hl153.trans hag.2.1).symm⟩))
          refine s_lt (t_pure (.bool true)) ?_
          refine s_lt (t_pure (.bool true)) ?_
          refine s_vcall (fun _ h => awake_s) ?_
          rintro _ rfl
          refine s_lt (t_pure (.bool true)) ?_
          refine s_lt (t_pure (.bool true)) ?_
          refine s_nil ?_
          refine xs_then ?_
          refine k_ret ?_
          exact xs_fin [.bool true] [] (SI.tmp 6 SI.nil) (fun _ h => h.re [] [0, 0, 0, 0, 0, 0, 0, 0, 0, 0, 0, 0, 0, 0, 0, 0]) ⟨rfl, rfl⟩
end Go.Proofs.Ytipmkaabogocfaa
