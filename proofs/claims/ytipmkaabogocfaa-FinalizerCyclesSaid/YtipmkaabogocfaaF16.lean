/-
  FinalizerCycles walked. No condition but that the arguments are what the types say.
-/
import Derived.Test.YtipmkaabogocfaaF15
set_option linter.unusedSimpArgs false
set_option linter.unusedVariables false
set_option maxRecDepth 100000
set_option maxHeartbeats 2000000
namespace Go.Proofs.Ytipmkaabogocfaa
open Go.Hp Go.J Go.S
open Go.Mem (Ty KTy blk elemAt pre suf blk_pre blk_suf aget aset strK aggDesc)
theorem rcycle_ok {Z : Zone} {ov rv : Value} {l : List Ob} {R : List Int} (hg : KnG Z ov rv l R) {F : List Asr} {qb : Nat} {reg pend : List Int} (hl0 : l.length ≤ 200) (hr : R.length ≤ 50000) (hsm : ∀ o ∈ l, o.refs.length ≤ 400 ∧ o.ents.length ≤ 400) (hq1 : reg.length ≤ 50000) (hq2 : pend.length ≤ 50000) (hc : chk 0 l = true) : SF Try.prog 25 #[.agg #[ov, rv], .pointer (some ⟨qb, 0, none⟩)] Z (rqA qb reg pend :: F) fun r Bs => ∃ ov' rv' fv l', r = .tuple #[.agg #[ov', rv'], fv, .int .i64 0] ∧ l'.map Ob.c = cycO l R reg pend ∧ Bs = rqA qb (cycR l R reg) (cycP l R reg pend) :: frz (GrA ov' rv' l' R) :: own iTy fv (cycF l R reg pend) :: F :=
  (rcycle_s hg hl0 (by omega) (by have := pot_le l hsm []; omega) hr hsm hq1 hq2).mono fun v Bs ⟨ov', rv', fv, l', R', h1, h2, h3, h4⟩ => by
    rw [hc] at h1 h2 h3 h4
    subst h3
    exact ⟨ov', rv', fv, l', h1, h2, h4⟩
theorem rcycle_bad {Z : Zone} {ov rv : Value} {l : List Ob} {R : List Int} (hg : KnG Z ov rv l R) {F : List Asr} {qb : Nat} {reg pend : List Int} (hl0 : l.length ≤ 200) (hr : R.length ≤ 50000) (hsm : ∀ o ∈ l, o.refs.length ≤ 400 ∧ o.ents.length ≤ 400) (hq1 : reg.length ≤ 50000) (hq2 : pend.length ≤ 50000) (hc : chk 0 l = false) : SF Try.prog 25 #[.agg #[ov, rv], .pointer (some ⟨qb, 0, none⟩)] Z (rqA qb reg pend :: F) fun r Bs => ∃ ov' rv' fv, r = .tuple #[.agg #[ov', rv'], fv, .int .i64 2] ∧ Bs = rqA qb reg pend :: frz (GrA ov' rv' [] []) :: own iTy fv [] :: F :=
  (rcycle_s hg hl0 (by omega) (by have := pot_le l hsm []; omega) hr hsm hq1 hq2).mono fun v Bs ⟨ov', rv', fv, l', R', h1, h2, h3, h4⟩ => by
    rw [hc] at h1 h2 h3 h4
    obtain rfl : l' = [] := List.map_eq_nil_iff.1 h2
    obtain rfl : R' = [] := h3
    exact ⟨ov', rv', fv, h1, h4⟩
theorem cycle_nil {Z : Zone} {ov rv : Value} {l : List Ob} {R : List Int} (hg : KnG Z ov rv l R) : SF Try.prog 24 #[.agg #[ov, rv], .pointer none] Z [] fun r Bs => r = .tuple #[.agg #[.slice none 0 0, .slice none 0 0], .slice none 0 0, .int .i64 1] ∧ Bs = [] := by
  refine sf_enter Try.func24 63 [(0, .agg #[ov, rv]), (1, .pointer none)] (fun w0 => ?_)
  refine k_seq ?_
  refine k_reg ?_
  refine s_box #[ov, rv] (fun g1 => ?_)
  refine s_alloc (.agg #[(.slice none 0 0), (.slice none 0 0)]) #[(.slice none 0 0), (.slice none 0 0)] (fun g2 => ?_)
  refine s_lt (t_pure (.slice none 0 0)) ?_
  refine s_lt (t_pure (.int .i64 0)) ?_
  refine s_nil ?_
  refine xs_then ?_
  refine k_seq ?_
  refine k_seq ?_
  refine k_reg ?_
  refine s_lt (t_pure (.pointer none)) ?_
  refine s_lt (t_pure (.bool true)) ?_
  refine s_nil ?_
  refine xs_then ?_
  refine k_true ?_
  refine k_seq ?_
  refine k_reg ?_
  refine s_lt (t_kern (.agg #[(.slice none 0 0), (.slice none 0 0)])) ?_
  refine s_store 0 #[(.slice none 0 0), (.slice none 0 0)] ?_
  refine s_lt (t_pure (.slice none 0 0)) ?_
  refine s_lt (t_pure (.int .i64 1)) ?_
  refine s_nil ?_
  refine xs_then ?_
  refine k_ret ?_
  refine xs_ret ?_
  exact xs_fin [.agg #[(.slice none 0 0), (.slice none 0 0)], (.slice none 0 0), .int .i64 1] [] (SI.agg 4 44 0 (SI.tmp 5 (SI.tmp 6 SI.nil))) (fun _ h => h.re [] [0, 0]) ⟨rfl, rfl⟩
theorem cycles_w {Z : Zone} {ov rv : Value} {l : List Ob} {R : List Int} (hg : KnG Z ov rv l R) {lv : Value} {L : List Int} {n : Int} (hL : Kn Z iTy lv L) (hn : 0 ≤ n ∧ n ≤ 255) : SF Try.prog 5 #[.agg #[ov, rv], lv, .int .u8 n] Z [] fun r Bs => r = .bool true ∧ Bs = [] := by
  refine sf_enter Try.func5 83 [(0, .agg #[ov, rv]), (1, lv), (2, .int .u8 n)] (fun w0 => ?_)
  refine k_seq ?_
  refine k_reg ?_
  refine s_box #[ov, rv] (fun g1 => ?_)
  refine s_lt (t_pure (.bool false)) ?_
  refine s_nil ?_
  refine xs_then ?_
  refine k_seq ?_
  refine k_seq ?_
  refine k_reg ?_
  refine s_lt (t_loadA 0 #[ov, rv]) ?_
  refine s_vcall (fun _ h => large_s (hg.up h)) ?_
  rintro _ rfl
  refine s_nil ?_
  refine xs_then ?_
  refine k_cond (largeB l R) (fun c2 => ?_) (fun c2 => ?_)
  ·
    refine k_seq ?_
    refine k_reg ?_
    refine s_vcall (fun _ h => awake_s) ?_
    rintro _ rfl
    refine s_lt (t_pure (.bool true)) ?_
    refine s_nil ?_
    refine xs_then ?_
    refine k_ret ?_
    refine xs_ret ?_
    exact xs_fin [.bool true] [] (SI.tmp 6 SI.nil) (fun _ h => h.re [] [0]) ⟨rfl, rfl⟩
  ·
    obtain ⟨hl0, hr0, hsm0⟩ := small_of c2
    have hsm : ∀ o ∈ l, o.refs.length ≤ 400 ∧ o.ents.length ≤ 400 := fun o ho => by have := hsm0 o ho; omega
    have hp0 := pot_le l hsm []
    have hp : pot l [] ≤ 1000000 := by omega
    have hl : l.length ≤ 100000 := by omega
    have hr : R.length ≤ 100000 := by omega
    refine k_skip ?_
    refine xs_then ?_
    refine k_seq ?_
    refine k_reg ?_
    refine s_lt (t_pure lv) ?_
    refine s_lt (t_pure (.int .u8 n)) ?_
    refine s_pcall (fun _ h => queues_s (L := L) (Acc.kn (.zn hL) h) hn) ?_
    rintro _ _ ⟨qb3, pb4, rg5, pd6, rfl, hq7, rfl⟩
    refine s_lt (t_pure (.tuple #[.pointer (some ⟨qb3, 0, none⟩), .pointer (some ⟨pb4, 0, none⟩)])) ?_
    refine s_lt (t_pure (.pointer (some ⟨qb3, 0, none⟩))) ?_
    refine s_lt (t_pure (.pointer (some ⟨pb4, 0, none⟩))) ?_
    refine s_lt (t_pure (.pointer (some ⟨qb3, 0, none⟩))) ?_
    refine s_lt (t_pure (.pointer (some ⟨pb4, 0, none⟩))) ?_
    refine s_nil ?_
    refine xs_then ?_
    refine k_seq ?_
    refine k_seq ?_
    refine k_reg ?_
    refine s_lt (t_pure (.pointer (some ⟨qb3, 0, none⟩))) ?_
    refine s_lt (t_pure (.bool false)) ?_
    refine s_nil ?_
    refine xs_then ?_
    refine k_false ?_
    refine k_skip ?_
    refine xs_then ?_
    refine k_seq ?_
    refine k_reg ?_
    refine s_lt (t_loadA 2 #[ov, rv]) ?_
    refine s_lt (t_pure (.pointer (some ⟨qb3, 0, none⟩))) ?_
    rcases hk8 : chk 0 l with _ | _
    ·
      refine s_call [0] (cycle_bad (l := l) (R := R) (reg := rg5) (pend := pd6) hg (by omega) (by omega) hsm (by omega) (by omega) hk8) ?_
      rintro _ _ ⟨ov9, rv10, fv11, rfl, rfl⟩
      refine s_fact (fun H h => ((Acc.own (T := iTy) (L := []) 2 rfl) H h).form) (fun hf12 => ?_)
      refine s_lt (t_pure (.tuple #[.agg #[ov9, rv10], fv11, .int .i64 2])) ?_
      refine s_lt (t_pure (.agg #[ov9, rv10])) ?_
      refine s_lt (t_pure fv11) ?_
      refine s_lt (t_pure (.int .i64 2)) ?_
      refine s_alloc (.agg #[(.slice none 0 0), (.slice none 0 0)]) #[(.slice none 0 0), (.slice none 0 0)] (fun g13 => ?_)
      refine s_fact (fun H h => ((show Acc _ _ ObT _ _ from (accF 2)) H h).form) (fun hf14 => ?_)
      refine s_fact (fun H h => ((show Acc _ _ iTy _ _ from (accR 2)) H h).form) (fun hf15 => ?_)
      refine s_store (u := .agg #[ov9, rv10]) (m := 2) 0 #[ov9, rv10] ?_ (hm := by (obtain ⟨_, _, e0⟩ := hf14; obtain ⟨_, _, e1⟩ := hf15; rw [e0, e1]; rfl)) (h1 := by (obtain ⟨_, _, e0⟩ := hf14; obtain ⟨_, _, e1⟩ := hf15; rw [e0, e1]; rfl)) (ha' := by (obtain ⟨_, _, e0⟩ := hf14; obtain ⟨_, _, e1⟩ := hf15; rw [e0, e1]; rfl))
      refine s_lt (t_pure fv11) ?_
      refine s_lt (t_pure (.int .i64 2)) ?_
      refine s_nil ?_
      refine xs_then ?_
      refine k_seq ?_
      refine k_reg ?_
      refine s_lt (t_loadA 5 #[ov, rv]) ?_
      refine s_lt (t_pure (.pointer (some ⟨pb4, 0, none⟩))) ?_
      refine s_call [4] (rcycle_bad (l := l) (R := R) (reg := rg5) (pend := pd6) hg (by omega) (by omega) hsm (by omega) (by omega) hk8) ?_
      rintro _ _ ⟨ov16, rv17, fv18, rfl, rfl⟩
      refine s_fact (fun H h => ((Acc.own (T := iTy) (L := []) 2 rfl) H h).form) (fun hf21 => ?_)
      refine s_lt (t_pure (.tuple #[.agg #[ov16, rv17], fv18, .int .i64 2])) ?_
      refine s_lt (t_pure (.agg #[ov16, rv17])) ?_
      refine s_lt (t_pure fv18) ?_
      refine s_lt (t_pure (.int .i64 2)) ?_
      refine s_alloc (.agg #[(.slice none 0 0), (.slice none 0 0)]) #[(.slice none 0 0), (.slice none 0 0)] (fun g22 => ?_)
      refine s_fact (fun H h => ((show Acc _ _ ObT _ _ from (accF 2)) H h).form) (fun hf23 => ?_)
      refine s_fact (fun H h => ((show Acc _ _ iTy _ _ from (accR 2)) H h).form) (fun hf24 => ?_)
      refine s_store (u := .agg #[ov16, rv17]) (m := 2) 0 #[ov16, rv17] ?_ (hm := by (obtain ⟨_, _, e0⟩ := hf23; obtain ⟨_, _, e1⟩ := hf24; rw [e0, e1]; rfl)) (h1 := by (obtain ⟨_, _, e0⟩ := hf23; obtain ⟨_, _, e1⟩ := hf24; rw [e0, e1]; rfl)) (ha' := by (obtain ⟨_, _, e0⟩ := hf23; obtain ⟨_, _, e1⟩ := hf24; rw [e0, e1]; rfl))
      refine s_lt (t_pure fv18) ?_
      refine s_lt (t_pure (.int .i64 2)) ?_
      refine s_nil ?_
      refine xs_then ?_
      refine k_seq ?_
      refine k_reg ?_
      refine s_lt (t_loadA 8 #[ov, rv]) ?_
      refine s_vcall (fun _ h => cycle_nil (hg.up h)) ?_
      rintro _ rfl
      refine s_lt (t_pure (.tuple #[.agg #[(.slice none 0 0), (.slice none 0 0)], (.slice none 0 0), .int .i64 1])) ?_
      refine s_lt (t_pure (.agg #[(.slice none 0 0), (.slice none 0 0)])) ?_
      refine s_lt (t_pure (.slice none 0 0)) ?_
      refine s_lt (t_pure (.int .i64 1)) ?_
      refine s_alloc (.agg #[(.slice none 0 0), (.slice none 0 0)]) #[(.slice none 0 0), (.slice none 0 0)] (fun g25 => ?_)
      refine s_store 0 #[(.slice none 0 0), (.slice none 0 0)] ?_
      refine s_lt (t_pure (.slice none 0 0)) ?_
      refine s_lt (t_pure (.int .i64 1)) ?_
      refine s_nil ?_
      refine xs_then ?_
      refine k_seq ?_
      refine k_reg ?_
      refine s_lt (t_pure (.int .i64 2)) ?_
      refine s_lt (t_pure (.int .i64 2)) ?_
      refine s_lt (t_cmp (c := true)) ?_
      refine s_lt (t_pure (.bool true)) ?_
      refine s_lt (t_loadA 5 #[ov9, rv10]) ?_
      refine s_lt (t_loadA 1 #[ov16, rv17]) ?_
      refine s_vcall (fun _ h => sameG_s (GrA.kn (h.frzF 7)) (GrA.kn (h.frzF 3))) ?_
      rintro u27 e26
      obtain rfl : u27 = .bool true := e26.trans (congrArg Value.bool (decide_eq_true ⟨rfl, rfl⟩))
      refine s_lt (t_pure (.bool true)) ?_
      refine s_lt (t_pure (.bool true)) ?_
      refine s_lt (t_pure fv11) ?_
      refine s_lt (t_pure fv18) ?_
      refine s_vcall (fun _ h => ints_s (Acc.kn (.own 8) h) (Acc.kn (.own 4) h)) ?_
      rintro u29 e28
      obtain rfl : u29 = .bool true := e28.trans (congrArg Value.bool (decide_eq_true rfl))
      refine s_lt (t_pure (.bool true)) ?_
      refine s_lt (t_pure (.bool true)) ?_
      refine s_lt (t_pure (.pointer (some ⟨qb3, 0, none⟩))) ?_
      refine s_call [6] (pending_s (pend := pd6) (by omega)) ?_
      rintro v30 _ rfl
      refine s_fact (fun H h => ((Acc.own (T := iTy) (L := pd6) 0 rfl) H h).form) (fun hf31 => ?_)
      refine s_lt (t_pure (.pointer (some ⟨pb4, 0, none⟩))) ?_
      refine s_call [4] (rpending_s (pend := pd6) (by omega)) ?_
      rintro v32 _ rfl
      refine s_fact (fun H h => ((Acc.own (T := iTy) (L := pd6) 0 rfl) H h).form) (fun hf33 => ?_)
      refine s_vcall (fun _ h => ints_s (Acc.kn (.own 2) h) (Acc.kn (.own 0) h)) ?_
      rintro u35 e34
      obtain rfl : u35 = .bool true := e34.trans (congrArg Value.bool (decide_eq_true rfl))
      refine s_lt (t_pure (.bool true)) ?_
      refine s_lt (t_pure (.bool true)) ?_
      refine s_lt (t_pure (.pointer (some ⟨qb3, 0, none⟩))) ?_
      refine s_call [3] (registered_s (reg := rg5) (by omega)) ?_
      rintro v36 _ rfl
      refine s_fact (fun H h => ((Acc.own (T := iTy) (L := rg5) 0 rfl) H h).form) (fun hf37 => ?_)
      refine s_lt (t_pure (.pointer (some ⟨pb4, 0, none⟩))) ?_
      refine s_call [3] (rregistered_s (reg := rg5) (by omega)) ?_
      rintro v38 _ rfl
      refine s_fact (fun H h => ((Acc.own (T := iTy) (L := rg5) 0 rfl) H h).form) (fun hf39 => ?_)
      refine s_vcall (fun _ h => ints_s (Acc.kn (.own 2) h) (Acc.kn (.own 0) h)) ?_
      rintro u41 e40
      obtain rfl : u41 = .bool true := e40.trans (congrArg Value.bool (decide_eq_true rfl))
      refine s_lt (t_pure (.bool true)) ?_
      refine s_lt (t_pure (.bool true)) ?_
      refine s_lt (t_pure (.int .i64 1)) ?_
      refine s_lt (t_cmp (c := true)) ?_
      refine s_lt (t_pure (.bool true)) ?_
      refine s_lt (t_pure (.bool true)) ?_
      refine s_vcall (fun _ h => awake_s) ?_
      rintro _ rfl
      refine s_lt (t_pure (.bool true)) ?_
      refine s_lt (t_pure (.bool true)) ?_
      refine s_nil ?_
      refine xs_then ?_
      refine k_ret ?_
      exact xs_fin [.bool true] [] (SI.tmp 6 SI.nil) (fun _ h => h.re [] [0, 0, 0, 0, 0, 0, 0, 0, 0, 0, 0, 0, 0, 0]) ⟨rfl, rfl⟩
    ·
      refine s_call [0] (cycle_ok (l := l) (R := R) (reg := rg5) (pend := pd6) hg (by omega) (by omega) hsm (by omega) (by omega) hk8) ?_
      rintro _ _ ⟨ov42, rv43, fv44, l45, rfl, hl46, rfl⟩
      have hPl : (cycP l R rg5 pd6).length ≤ 60 := by have := cycP_len l R rg5 pd6; show (_ ++ _ : List Int).length ≤ _; omega
      have hRl : (cycR l R rg5).length ≤ 60 := by have := stay_len (aliveR l R) rg5; show (stayL _ _).length ≤ _; omega
      refine s_fact (fun H h => ((Acc.own (T := iTy) (L := (cycF l R rg5 pd6)) 2 rfl) H h).form) (fun hf47 => ?_)
      refine s_lt (t_pure (.tuple #[.agg #[ov42, rv43], fv44, .int .i64 0])) ?_
      refine s_lt (t_pure (.agg #[ov42, rv43])) ?_
      refine s_lt (t_pure fv44) ?_
      refine s_lt (t_pure (.int .i64 0)) ?_
      refine s_alloc (.agg #[(.slice none 0 0), (.slice none 0 0)]) #[(.slice none 0 0), (.slice none 0 0)] (fun g48 => ?_)
      refine s_fact (fun H h => ((show Acc _ _ ObT _ _ from (accF 2)) H h).form) (fun hf49 => ?_)
      refine s_fact (fun H h => ((show Acc _ _ iTy _ _ from (accR 2)) H h).form) (fun hf50 => ?_)
      refine s_store (u := .agg #[ov42, rv43]) (m := 2) 0 #[ov42, rv43] ?_ (hm := by (obtain ⟨_, _, e0⟩ := hf49; obtain ⟨_, _, e1⟩ := hf50; rw [e0, e1]; rfl)) (h1 := by (obtain ⟨_, _, e0⟩ := hf49; obtain ⟨_, _, e1⟩ := hf50; rw [e0, e1]; rfl)) (ha' := by (obtain ⟨_, _, e0⟩ := hf49; obtain ⟨_, _, e1⟩ := hf50; rw [e0, e1]; rfl))
      refine s_lt (t_pure fv44) ?_
      refine s_lt (t_pure (.int .i64 0)) ?_
      refine s_nil ?_
      refine xs_then ?_
      refine k_seq ?_
      refine k_reg ?_
      refine s_lt (t_loadA 5 #[ov, rv]) ?_
      refine s_lt (t_pure (.pointer (some ⟨pb4, 0, none⟩))) ?_
      refine s_call [4] (rcycle_ok (l := l) (R := R) (reg := rg5) (pend := pd6) hg (by omega) (by omega) hsm (by omega) (by omega) hk8) ?_
      rintro _ _ ⟨ov51, rv52, fv53, l54, rfl, hl55, rfl⟩
      refine s_fact (fun H h => ((Acc.own (T := iTy) (L := (cycF l R rg5 pd6)) 2 rfl) H h).form) (fun hf56 => ?_)
      refine s_lt (t_pure (.tuple #[.agg #[ov51, rv52], fv53, .int .i64 0])) ?_
      refine s_lt (t_pure (.agg #[ov51, rv52])) ?_
      refine s_lt (t_pure fv53) ?_
      refine s_lt (t_pure (.int .i64 0)) ?_
      refine s_alloc (.agg #[(.slice none 0 0), (.slice none 0 0)]) #[(.slice none 0 0), (.slice none 0 0)] (fun g57 => ?_)
      refine s_fact (fun H h => ((show Acc _ _ ObT _ _ from (accF 2)) H h).form) (fun hf58 => ?_)
      refine s_fact (fun H h => ((show Acc _ _ iTy _ _ from (accR 2)) H h).form) (fun hf59 => ?_)
      refine s_store (u := .agg #[ov51, rv52]) (m := 2) 0 #[ov51, rv52] ?_ (hm := by (obtain ⟨_, _, e0⟩ := hf58; obtain ⟨_, _, e1⟩ := hf59; rw [e0, e1]; rfl)) (h1 := by (obtain ⟨_, _, e0⟩ := hf58; obtain ⟨_, _, e1⟩ := hf59; rw [e0, e1]; rfl)) (ha' := by (obtain ⟨_, _, e0⟩ := hf58; obtain ⟨_, _, e1⟩ := hf59; rw [e0, e1]; rfl))
      refine s_lt (t_pure fv53) ?_
      refine s_lt (t_pure (.int .i64 0)) ?_
      refine s_nil ?_
      refine xs_then ?_
      refine k_seq ?_
      refine k_reg ?_
      refine s_lt (t_loadA 8 #[ov, rv]) ?_
      refine s_vcall (fun _ h => cycle_nil (hg.up h)) ?_
      rintro _ rfl
      refine s_lt (t_pure (.tuple #[.agg #[(.slice none 0 0), (.slice none 0 0)], (.slice none 0 0), .int .i64 1])) ?_
      refine s_lt (t_pure (.agg #[(.slice none 0 0), (.slice none 0 0)])) ?_
      refine s_lt (t_pure (.slice none 0 0)) ?_
      refine s_lt (t_pure (.int .i64 1)) ?_
      refine s_alloc (.agg #[(.slice none 0 0), (.slice none 0 0)]) #[(.slice none 0 0), (.slice none 0 0)] (fun g60 => ?_)
      refine s_store 0 #[(.slice none 0 0), (.slice none 0 0)] ?_
      refine s_lt (t_pure (.slice none 0 0)) ?_
      refine s_lt (t_pure (.int .i64 1)) ?_
      refine s_nil ?_
      refine xs_then ?_
      refine k_seq ?_
      refine k_reg ?_
      refine s_lt (t_pure (.int .i64 0)) ?_
      refine s_lt (t_pure (.int .i64 0)) ?_
      refine s_lt (t_cmp (c := true)) ?_
      refine s_lt (t_pure (.bool true)) ?_
      refine s_lt (t_loadA 5 #[ov42, rv43]) ?_
      refine s_lt (t_loadA 1 #[ov51, rv52]) ?_
      refine s_vcall (fun _ h => sameG_s (GrA.kn (h.frzF 7)) (GrA.kn (h.frzF 3))) ?_
      rintro u62 e61
      obtain rfl : u62 = .bool true := e61.trans (congrArg Value.bool (decide_eq_true ⟨rfl, hl46.trans hl55.symm⟩))
      refine s_lt (t_pure (.bool true)) ?_
      refine s_lt (t_pure (.bool true)) ?_
      refine s_lt (t_pure fv44) ?_
      refine s_lt (t_pure fv53) ?_
      refine s_vcall (fun _ h => ints_s (Acc.kn (.own 8) h) (Acc.kn (.own 4) h)) ?_
      rintro u64 e63
      obtain rfl : u64 = .bool true := e63.trans (congrArg Value.bool (decide_eq_true rfl))
      refine s_lt (t_pure (.bool true)) ?_
      refine s_lt (t_pure (.bool true)) ?_
      refine s_lt (t_pure (.pointer (some ⟨qb3, 0, none⟩))) ?_
      refine s_call [6] (pending_s (pend := (cycP l R rg5 pd6)) (by omega)) ?_
      rintro v65 _ rfl
      refine s_fact (fun H h => ((Acc.own (T := iTy) (L := (cycP l R rg5 pd6)) 0 rfl) H h).form) (fun hf66 => ?_)
      refine s_lt (t_pure (.pointer (some ⟨pb4, 0, none⟩))) ?_
      refine s_call [4] (rpending_s (pend := (cycP l R rg5 pd6)) (by omega)) ?_
      rintro v67 _ rfl
      refine s_fact (fun H h => ((Acc.own (T := iTy) (L := (cycP l R rg5 pd6)) 0 rfl) H h).form) (fun hf68 => ?_)
      refine s_vcall (fun _ h => ints_s (Acc.kn (.own 2) h) (Acc.kn (.own 0) h)) ?_
      rintro u70 e69
      obtain rfl : u70 = .bool true := e69.trans (congrArg Value.bool (decide_eq_true rfl))
      refine s_lt (t_pure (.bool true)) ?_
      refine s_lt (t_pure (.bool true)) ?_
      refine s_lt (t_pure (.pointer (some ⟨qb3, 0, none⟩))) ?_
      refine s_call [3] (registered_s (reg := (cycR l R rg5)) (by omega)) ?_
      rintro v71 _ rfl
      refine s_fact (fun H h => ((Acc.own (T := iTy) (L := (cycR l R rg5)) 0 rfl) H h).form) (fun hf72 => ?_)
      refine s_lt (t_pure (.pointer (some ⟨pb4, 0, none⟩))) ?_
      refine s_call [3] (rregistered_s (reg := (cycR l R rg5)) (by omega)) ?_
      rintro v73 _ rfl
      refine s_fact (fun H h => ((Acc.own (T := iTy) (L := (cycR l R rg5)) 0 rfl) H h).form) (fun hf74 => ?_)
      refine s_vcall (fun _ h => ints_s (Acc.kn (.own 2) h) (Acc.kn (.own 0) h)) ?_
      rintro u76 e75
      obtain rfl : u76 = .bool true := e75.trans (congrArg Value.bool (decide_eq_true rfl))
      refine s_lt (t_pure (.bool true)) ?_
      refine s_lt (t_pure (.bool true)) ?_
      refine s_lt (t_pure (.int .i64 1)) ?_
      refine s_lt (t_cmp (c := true)) ?_
      refine s_lt (t_pure (.bool true)) ?_
      refine s_lt (t_pure (.bool true)) ?_
      refine s_vcall (fun _ h => awake_s) ?_
      rintro _ rfl
      refine s_lt (t_pure (.bool true)) ?_
      refine s_lt (t_pure (.bool true)) ?_
      refine s_nil ?_
      refine xs_then ?_
      refine k_ret ?_
      exact xs_fin [.bool true] [] (SI.tmp 6 SI.nil) (fun _ h => h.re [] [0, 0, 0, 0, 0, 0, 0, 0, 0, 0, 0, 0, 0, 0]) ⟨rfl, rfl⟩
end Go.Proofs.Ytipmkaabogocfaa
