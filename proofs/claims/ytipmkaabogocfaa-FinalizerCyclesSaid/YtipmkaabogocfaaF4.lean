/-
  Cycle of layer 27 (program). Each law says its conditions.
-/
import Derived.Test.YtipmkaabogocfaaF3
import Derived.Test.YtipmkaabogocfaaFL
set_option linter.unusedSimpArgs false
set_option linter.unusedVariables false
set_option maxRecDepth 100000
set_option maxHeartbeats 2000000
namespace Go.Proofs.Ytipmkaabogocfaa
open Go.Hp Go.J Go.S
open Go.Mem (Ty KTy blk elemAt pre suf blk_pre blk_suf aget aset strK aggDesc)
theorem cycO_small {l l2 : List Ob} {R reg pend : List Int} (h : l2.map Ob.c = cycO l R reg pend) (hs : ∀ o ∈ l, o.refs.length ≤ 400 ∧ o.ents.length ≤ 400) : l2.length ≤ l.length ∧ ∀ o ∈ l2, o.refs.length ≤ 400 ∧ o.ents.length ≤ 400 := by
  constructor
  · have h1 := congrArg List.length h
    rw [List.length_map] at h1
    have h2 : (cycO l R reg pend).length ≤ (cyc1 l R).length := by
      unfold cycO lastL
      have := List.length_filter_le (fun x : Core => decide (x.1 ∈ cycB l R reg pend)) ((cyc1 l R).map (clr (cycB l R reg pend)))
      rwa [List.length_map] at this
    have h3 := unv_len (cyc1_c l R)
    omega
  · intro x hx
    have h1 : x.c ∈ l2.map Ob.c := List.mem_map.2 ⟨x, hx, rfl⟩
    rw [h] at h1
    obtain ⟨y, hy, e⟩ := List.mem_map.1 (List.mem_filter.1 h1).1
    have e1 : y.refs = x.refs := congrArg (fun q : Core => q.2.2.2.1) e
    have e2 : y.ents.filter (keepB (cycB l R reg pend) y.weak) = x.ents := congrArg (fun q : Core => q.2.2.2.2) e
    have := unv_small (cyc1_c l R) hs y hy
    rw [← e1, ← e2]
    have := List.length_filter_le (keepB (cycB l R reg pend) y.weak) y.ents
    omega
theorem cycle_s {Z : Zone} {ov rv : Value} {l : List Ob} {R : List Int} (hg : KnG Z ov rv l R) {F : List Asr} {qb : Nat} {reg pend : List Int} (hl0 : l.length ≤ 200) (hl : l.length ≤ 100000) (hp : pot l [] ≤ 1000000) (hr : R.length ≤ 50000) (hsm : ∀ o ∈ l, o.refs.length ≤ 400 ∧ o.ents.length ≤ 400) (hq1 : reg.length ≤ 50000) (hq2 : pend.length ≤ 50000) : SF Try.prog 24 #[.agg #[ov, rv], .pointer (some ⟨qb, 0, none⟩)] Z (qA qb reg pend :: F) fun r Bs => ∃ ov' rv' fv l' R', r = .tuple #[.agg #[ov', rv'], fv, .int .i64 (errI (chk 0 l))] ∧ l'.map Ob.c = (if chk 0 l = true then cycO l R reg pend else []) ∧ R' = (if chk 0 l = true then R else []) ∧ Bs = qA qb (if chk 0 l = true then cycR l R reg else reg) (if chk 0 l = true then cycP l R reg pend else pend) :: frz (GrA ov' rv' l' R') :: own iTy fv (if chk 0 l = true then cycF l R reg pend else []) :: F := by
  refine sf_enter Try.func24 63 [(0, .agg #[ov, rv]), (1, .pointer (some ⟨qb, 0, none⟩))] (fun w0 => ?_)
  refine k_seq ?_
  refine k_reg ?_
  refine s_box #[ov, rv] (fun g1 => ?_)
  refine s_alloc (.agg #[(.slice none 0 0), (.slice none 0 0)]) #[(.slice none 0 0), (.slice none 0 0)] (fun g2 => ?_)
  refine s_lt (t_pure (.slice none 0 0)) ?_
  refine s_lt (t_pure (.int .i64 0)) ?_
  refine s_nil ?_
  refine xs_then ?_
  refine k_seq ?_
  refine k_seq ?_
  refine k_reg ?_
  refine s_lt (t_pure (.pointer (some ⟨qb, 0, none⟩))) ?_
  refine s_lt (t_pure (.bool false)) ?_
  refine s_nil ?_
  refine xs_then ?_
  refine k_false ?_
  refine k_skip ?_
  refine xs_then ?_
  refine k_seq ?_
  refine k_seq ?_
  refine k_reg ?_
  refine s_lt (t_loadA 1 #[ov, rv]) ?_
  refine s_vcall (fun _ h => check_s (hg.up h)) ?_
  rintro _ rfl
  refine s_lt (t_pure (.int .i64 (errI (chk 0 l)))) ?_
  refine s_nil ?_
  refine xs_then ?_
  refine k_seq ?_
  refine k_reg ?_
  refine s_lt (t_pure (.int .i64 (errI (chk 0 l)))) ?_
  refine s_lt t_cmp ?_
  refine s_nil ?_
  refine xs_then ?_
  refine k_cond (decide ((errI (chk 0 l)) ≠ 0)) (fun c3 => ?_) (fun c3 => ?_)
  ·
    have p4 := of_decide_eq_true c3
    have hc := errI_bad p4
    refine k_seq ?_
    refine k_reg ?_
    refine s_lt (t_kern (.agg #[(.slice none 0 0), (.slice none 0 0)])) ?_
    refine s_lt (t_pure (.int .i64 (errI (chk 0 l)))) ?_
    refine s_store 0 #[(.slice none 0 0), (.slice none 0 0)] ?_
    refine s_lt (t_pure (.slice none 0 0)) ?_
    refine s_lt (t_pure (.int .i64 (errI (chk 0 l)))) ?_
    refine s_nil ?_
    refine xs_then ?_
    refine k_ret ?_
    refine xs_ret ?_
    have hc := errI_bad p4
    exact xs_fin [.agg #[(.slice none 0 0), (.slice none 0 0)], (.slice none 0 0), .int .i64 (errI (chk 0 l))] (qA qb reg pend :: frz (GrA (.slice none 0 0) (.slice none 0 0) [] []) :: own iTy (.slice none 0 0) [] :: F) (SI.agg 4 44 0 (SI.tmp 5 (SI.tmp 6 SI.nil))) (fun _ h => (Holds.nilS (T := iTy) (gr_nil h)).re [4, 1, 0] [3, 3]) ⟨_, _, _, [], [], rfl, by rw [hc]; rfl, by rw [hc]; rfl, by rw [hc]; rfl⟩
  ·
    have p5 := Decidable.not_not.1 (of_decide_eq_false c3)
    have hc := errI_ok p5; have hs := chk_asc hc
    refine k_skip ?_
    refine xs_then ?_
    refine k_seq ?_
    refine k_reg ?_
    refine s_lt (t_loadA 1 #[ov, rv]) ?_
    refine s_lt (t_pure (.pointer (some ⟨qb, 0, none⟩))) ?_
    refine s_fact (fun H h => ((Acc.zn hg.obs) H h).form) (fun hf6 => ?_)
    refine s_fact (fun H h => ((Acc.zn hg.roots) H h).form) (fun hf7 => ?_)
    refine s_lt (show Lt _ _ _ _ _ (.agg #[ov, rv, .pointer (some ⟨qb, 0, none⟩), (.slice none 0 0)]) from by obtain ⟨_, _, e⟩ := hf6; rw [e]; clear e; obtain ⟨_, _, e⟩ := hf7; rw [e]; clear e; exact t_kern _) ?_
    refine s_box #[ov, rv, .pointer (some ⟨qb, 0, none⟩), (.slice none 0 0)] (fun g8 => ?_)
    refine s_lt (t_pure (.pointer (some ⟨g8, 0, none⟩))) ?_
    refine s_nil ?_
    refine xs_then ?_
    refine k_seq ?_
    refine k_seq ?_
    refine k_reg ?_
    refine s_lt (t_pure (.int .i64 0)) ?_
    refine s_nil ?_
    refine xs_then ?_
    refine k_block ?_
    have hc := errI_ok p5
    refine k_loop (ι := List Asr × Nat) (fun i => (i.2 = 0 ∧ i.1 = blkA g8 #[ov, rv, .pointer (some ⟨qb, 0, none⟩), (.slice none 0 0)] 77 :: qA qb reg pend :: blkA g2 #[(.slice none 0 0), (.slice none 0 0)] 44 :: blkA g1 #[ov, rv] 44 :: F) ∨ (i.2 = 1 ∧ ∃ av, i.1 = blkA g8 #[ov, rv, .pointer (some ⟨qb, 0, none⟩), av] 77 :: qA qb (stayL (aliveR l R) reg) (pend ++ sepL (aliveR l R) reg) :: own iTy av (aliveR l R) :: blkA g2 #[(.slice none 0 0), (.slice none 0 0)] 44 :: blkA g1 #[ov, rv] 44 :: F) ∨ (i.2 = 2 ∧ ∃ av o1 l1, l1.map Ob.c = l.map (unv (aliveR l R)) ∧ i.1 = blkA g8 #[o1, rv, .pointer (some ⟨qb, 0, none⟩), av] 77 :: qA qb (stayL (aliveR l R) reg) (pend ++ sepL (aliveR l R) reg) :: own iTy av (aliveR l R) :: zfr Z (GrA o1 rv l1 R) :: blkA g2 #[(.slice none 0 0), (.slice none 0 0)] 44 :: blkA g1 #[ov, rv] 44 :: F) ∨ (i.2 = 3 ∧ ∃ av o1 l1, l1.map Ob.c = l.map (unv (aliveR l R)) ∧ i.1 = blkA g8 #[o1, rv, .pointer (some ⟨qb, 0, none⟩), av] 77 :: qA qb (stayL (aliveR l R) reg) (pend ++ sepL (aliveR l R) reg) :: own iTy av (cycB l R reg pend) :: zfr Z (GrA o1 rv l1 R) :: blkA g2 #[(.slice none 0 0), (.slice none 0 0)] 44 :: blkA g1 #[ov, rv] 44 :: F) ∨ (i.2 = 4 ∧ ∃ av o2 l2, l2.map Ob.c = cycO l R reg pend ∧ i.1 = blkA g8 #[o2, rv, .pointer (some ⟨qb, 0, none⟩), av] 77 :: qA qb (stayL (aliveR l R) reg) (pend ++ sepL (aliveR l R) reg) :: own iTy av (cycB l R reg pend) :: zfr Z (GrA o2 rv l2 R) :: blkA g2 #[(.slice none 0 0), (.slice none 0 0)] 44 :: blkA g1 #[ov, rv] 44 :: F)) (fun i => [(2, .pointer (some ⟨g1, 0, none⟩)), (4, .pointer (some ⟨g2, 0, none⟩)), (5, (.slice none 0 0)), (6, .int .i64 0), (8, .pointer (some ⟨g8, 0, none⟩)), (27, .int .i64 (i.2 : Int))]) (fun i => i.1) (fun i => 4 - i.2) (blkA g8 #[ov, rv, .pointer (some ⟨qb, 0, none⟩), (.slice none 0 0)] 77 :: qA qb reg pend :: blkA g2 #[(.slice none 0 0), (.slice none 0 0)] 44 :: blkA g1 #[ov, rv] 44 :: F, 0) (.inl ⟨rfl, rfl⟩) (sub_of rfl ⟨⟨rfl, rfl⟩, ⟨⟨rfl, rfl⟩, ⟨⟨rfl, rfl⟩, ⟨⟨rfl, rfl⟩, ⟨⟨rfl, rfl⟩, ⟨⟨rfl, rfl⟩, trivial⟩⟩⟩⟩⟩⟩) (fun _ h => h.re [0, 2, 0, 0] []) ?_
    rintro ⟨As, n⟩ hi
    replace hi : (n = 0 ∧ As = blkA g8 #[ov, rv, .pointer (some ⟨qb, 0, none⟩), (.slice none 0 0)] 77 :: qA qb reg pend :: blkA g2 #[(.slice none 0 0), (.slice none 0 0)] 44 :: blkA g1 #[ov, rv] 44 :: F) ∨ (n = 1 ∧ ∃ av, As = blkA g8 #[ov, rv, .pointer (some ⟨qb, 0, none⟩), av] 77 :: qA qb (stayL (aliveR l R) reg) (pend ++ sepL (aliveR l R) reg) :: own iTy av (aliveR l R) :: blkA g2 #[(.slice none 0 0), (.slice none 0 0)] 44 :: blkA g1 #[ov, rv] 44 :: F) ∨ (n = 2 ∧ ∃ av o1 l1, l1.map Ob.c = l.map (unv (aliveR l R)) ∧ As = blkA g8 #[o1, rv, .pointer (some ⟨qb, 0, none⟩), av] 77 :: qA qb (stayL (aliveR l R) reg) (pend ++ sepL (aliveR l R) reg) :: own iTy av (aliveR l R) :: zfr Z (GrA o1 rv l1 R) :: blkA g2 #[(.slice none 0 0), (.slice none 0 0)] 44 :: blkA g1 #[ov, rv] 44 :: F) ∨ (n = 3 ∧ ∃ av o1 l1, l1.map Ob.c = l.map (unv (aliveR l R)) ∧ As = blkA g8 #[o1, rv, .pointer (some ⟨qb, 0, none⟩), av] 77 :: qA qb (stayL (aliveR l R) reg) (pend ++ sepL (aliveR l R) reg) :: own iTy av (cycB l R reg pend) :: zfr Z (GrA o1 rv l1 R) :: blkA g2 #[(.slice none 0 0), (.slice none 0 0)] 44 :: blkA g1 #[ov, rv] 44 :: F) ∨ (n = 4 ∧ ∃ av o2 l2, l2.map Ob.c = cycO l R reg pend ∧ As = blkA g8 #[o2, rv, .pointer (some ⟨qb, 0, none⟩), av] 77 :: qA qb (stayL (aliveR l R) reg) (pend ++ sepL (aliveR l R) reg) :: own iTy av (cycB l R reg pend) :: zfr Z (GrA o2 rv l2 R) :: blkA g2 #[(.slice none 0 0), (.slice none 0 0)] 44 :: blkA g1 #[ov, rv] 44 :: F) := hi
    rcases hi with ⟨rfl, rfl⟩ | ⟨rfl, av, rfl⟩ | ⟨rfl, av, o1, l1, h1, rfl⟩ | ⟨rfl, av, o1, l1, h1, rfl⟩ | ⟨rfl, av, o2, l2, h2, rfl⟩
    ·
      show SK _ _ _ _ _ [(2, .pointer (some ⟨g1, 0, none⟩)), (4, .pointer (some ⟨g2, 0, none⟩)), (5, (.slice none 0 0)), (6, .int .i64 0), (8, .pointer (some ⟨g8, 0, none⟩)), (27, .int .i64 0)] _ (blkA g8 #[ov, rv, .pointer (some ⟨qb, 0, none⟩), (.slice none 0 0)] 77 :: qA qb reg pend :: blkA g2 #[(.slice none 0 0), (.slice none 0 0)] 44 :: blkA g1 #[ov, rv] 44 :: F)
      refine k_seq ?_
      refine k_reg ?_
      refine s_lt (t_cmp (c := true)) ?_
      refine s_nil ?_
      refine xs_then ?_
      refine k_seq ?_
      refine k_true ?_
      refine k_skip ?_
      refine xs_then ?_
      refine k_seq ?_
      refine k_block ?_
      refine k_seq ?_
      refine k_reg ?_
      refine s_lt (t_pure (.int .i64 0)) ?_
      refine s_lt (t_pure (.int .i64 0)) ?_
      refine s_nil ?_
      refine xs_then ?_
      refine k_reg ?_
      refine s_lt (t_pure (.pointer (some ⟨g8, 0, none⟩))) ?_
      refine s_lt (t_pure (.int .i64 0)) ?_
      refine s_call [0, 0] (step0_s (reg := reg) (pend := pend) hg hl hp (by omega) (by omega)) ?_
      rintro _ _ ⟨rfl, av9, rfl⟩
      refine s_fact (fun H h => ((Acc.own (T := iTy) (L := (aliveR l R)) 2 rfl) H h).form) (fun hf10 => ?_)
      refine s_nil ?_
      refine xs_block ?_
      refine xs_then ?_
      refine k_reg ?_
      refine s_lt (t_pure (.int .i64 1)) ?_
      refine s_lt (t_pure (.int .i64 1)) ?_
      refine s_nil ?_
      exact xs_round (blkA g8 #[ov, rv, .pointer (some ⟨qb, 0, none⟩), av9] 77 :: qA qb (stayL (aliveR l R) reg) (pend ++ sepL (aliveR l R) reg) :: own iTy av9 (aliveR l R) :: blkA g2 #[(.slice none 0 0), (.slice none 0 0)] 44 :: blkA g1 #[ov, rv] 44 :: F, 1) (by show 4 - 1 < 4 - 0; omega) (.inr (.inl ⟨rfl, av9, rfl⟩)) (sub_of rfl ⟨⟨rfl, rfl⟩, ⟨⟨rfl, rfl⟩, ⟨⟨rfl, rfl⟩, ⟨⟨rfl, rfl⟩, ⟨⟨rfl, rfl⟩, ⟨⟨rfl, rfl⟩, trivial⟩⟩⟩⟩⟩⟩) (fun _ h => h.re [0, 0, 0, 0, 0] [])
    ·
      show SK _ _ _ _ _ [(2, .pointer (some ⟨g1, 0, none⟩)), (4, .pointer (some ⟨g2, 0, none⟩)), (5, (.slice none 0 0)), (6, .int .i64 0), (8, .pointer (some ⟨g8, 0, none⟩)), (27, .int .i64 1)] _ (blkA g8 #[ov, rv, .pointer (some ⟨qb, 0, none⟩), av] 77 :: qA qb (stayL (aliveR l R) reg) (pend ++ sepL (aliveR l R) reg) :: own iTy av (aliveR l R) :: blkA g2 #[(.slice none 0 0), (.slice none 0 0)] 44 :: blkA g1 #[ov, rv] 44 :: F)
      refine k_fact (fun H h => (show Acc _ _ iTy av _ from Acc.own 2) H h |>.form) (fun hfa => ?_)
      refine k_seq ?_
      refine k_reg ?_
      refine s_lt (t_cmp (c := true)) ?_
      refine s_nil ?_
      refine xs_then ?_
      refine k_seq ?_
      refine k_true ?_
      refine k_skip ?_
      refine xs_then ?_
      refine k_seq ?_
      refine k_block ?_
      refine k_seq ?_
      refine k_reg ?_
      refine s_lt (t_pure (.int .i64 1)) ?_
      refine s_lt (t_pure (.int .i64 1)) ?_
      refine s_nil ?_
      refine xs_then ?_
      refine k_reg ?_
      refine s_lt (t_pure (.pointer (some ⟨g8, 0, none⟩))) ?_
      refine s_lt (t_pure (.int .i64 1)) ?_
      refine s_call [0, 1] (step1_s hg hl hsm) ?_
      rintro _ _ ⟨rfl, ov11, l12, hl13, rfl⟩
      refine s_nil ?_
      refine xs_block ?_
      refine xs_then ?_
      refine k_reg ?_
      refine s_lt (t_pure (.int .i64 2)) ?_
      refine s_lt (t_pure (.int .i64 2)) ?_
      refine s_nil ?_
      exact xs_round (blkA g8 #[ov11, rv, .pointer (some ⟨qb, 0, none⟩), av] 77 :: qA qb (stayL (aliveR l R) reg) (pend ++ sepL (aliveR l R) reg) :: own iTy av (aliveR l R) :: zfr Z (GrA ov11 rv l12 R) :: blkA g2 #[(.slice none 0 0), (.slice none 0 0)] 44 :: blkA g1 #[ov, rv] 44 :: F, 2) (by show 4 - 2 < 4 - 1; omega) (.inr (.inr (.inl ⟨rfl, av, ov11, l12, hl13, rfl⟩))) (sub_of rfl ⟨⟨rfl, rfl⟩, ⟨⟨rfl, rfl⟩, ⟨⟨rfl, rfl⟩, ⟨⟨rfl, rfl⟩, ⟨⟨rfl, rfl⟩, ⟨⟨rfl, rfl⟩, trivial⟩⟩⟩⟩⟩⟩) (fun _ h => h.re [0, 2, 0, 0, 0, 0] [])
    ·
      show SK _ _ _ _ _ [(2, .pointer (some ⟨g1, 0, none⟩)), (4, .pointer (some ⟨g2, 0, none⟩)), (5, (.slice none 0 0)), (6, .int .i64 0), (8, .pointer (some ⟨g8, 0, none⟩)), (27, .int .i64 2)] _ (blkA g8 #[o1, rv, .pointer (some ⟨qb, 0, none⟩), av] 77 :: qA qb (stayL (aliveR l R) reg) (pend ++ sepL (aliveR l R) reg) :: own iTy av (aliveR l R) :: zfr Z (GrA o1 rv l1 R) :: blkA g2 #[(.slice none 0 0), (.slice none 0 0)] 44 :: blkA g1 #[ov, rv] 44 :: F)
      refine k_fact (fun H h => (show Acc _ _ iTy av _ from Acc.own 2) H h |>.form) (fun hfa => ?_)
      refine k_seq ?_
      refine k_reg ?_
      refine s_lt (t_cmp (c := true)) ?_
      refine s_nil ?_
      refine xs_then ?_
      refine k_seq ?_
      refine k_true ?_
      refine k_skip ?_
      refine xs_then ?_
      refine k_seq ?_
      refine k_block ?_
      refine k_seq ?_
      refine k_reg ?_
      refine s_lt (t_pure (.int .i64 2)) ?_
      refine s_lt (t_pure (.int .i64 2)) ?_
      refine s_nil ?_
      refine xs_then ?_
      refine k_reg ?_
      refine s_lt (t_pure (.pointer (some ⟨g8, 0, none⟩))) ?_
      refine s_lt (t_pure (.int .i64 2)) ?_
      refine s_call [0, 1, 1, 0] (step2_s (l := l1) (R := R) (pend := (pend ++ sepL (aliveR l R) reg)) (by have := unv_len h1; omega) (by have h0 := unv_len h1; have := pot_le l1 (unv_small h1 hsm) []; omega) (by omega) (by have := cycP_len l R reg pend; omega)) ?_
      rintro _ _ ⟨rfl, av14, rfl⟩
      rw [cycB_of h1]
      refine s_fact (fun H h => ((Acc.own (T := iTy) (L := (cycB l R reg pend)) 1 rfl) H h).form) (fun hf15 => ?_)
      refine s_nil ?_
      refine xs_block ?_
      refine xs_then ?_
      refine k_reg ?_
      refine s_lt (t_pure (.int .i64 3)) ?_
      refine s_lt (t_pure (.int .i64 3)) ?_
      refine s_nil ?_
      exact xs_round (blkA g8 #[o1, rv, .pointer (some ⟨qb, 0, none⟩), av14] 77 :: qA qb (stayL (aliveR l R) reg) (pend ++ sepL (aliveR l R) reg) :: own iTy av14 (cycB l R reg pend) :: zfr Z (GrA o1 rv l1 R) :: blkA g2 #[(.slice none 0 0), (.slice none 0 0)] 44 :: blkA g1 #[ov, rv] 44 :: F, 3) (by show 4 - 3 < 4 - 2; omega) (.inr (.inr (.inr (.inl ⟨rfl, av14, o1, l1, h1, rfl⟩)))) (sub_of rfl ⟨⟨rfl, rfl⟩, ⟨⟨rfl, rfl⟩, ⟨⟨rfl, rfl⟩, ⟨⟨rfl, rfl⟩, ⟨⟨rfl, rfl⟩, ⟨⟨rfl, rfl⟩, trivial⟩⟩⟩⟩⟩⟩) (fun _ h => h.re [0, 2, 0, 0, 0, 0] [])
    ·
      show SK _ _ _ _ _ [(2, .pointer (some ⟨g1, 0, none⟩)), (4, .pointer (some ⟨g2, 0, none⟩)), (5, (.slice none 0 0)), (6, .int .i64 0), (8, .pointer (some ⟨g8, 0, none⟩)), (27, .int .i64 3)] _ (blkA g8 #[o1, rv, .pointer (some ⟨qb, 0, none⟩), av] 77 :: qA qb (stayL (aliveR l R) reg) (pend ++ sepL (aliveR l R) reg) :: own iTy av (cycB l R reg pend) :: zfr Z (GrA o1 rv l1 R) :: blkA g2 #[(.slice none 0 0), (.slice none 0 0)] 44 :: blkA g1 #[ov, rv] 44 :: F)
      refine k_fact (fun H h => (show Acc _ _ iTy av _ from Acc.own 2) H h |>.form) (fun hfa => ?_)
      refine k_seq ?_
      refine k_reg ?_
      refine s_lt (t_cmp (c := true)) ?_
      refine s_nil ?_
      refine xs_then ?_
      refine k_seq ?_
      refine k_true ?_
      refine k_skip ?_
      refine xs_then ?_
      refine k_seq ?_
      refine k_block ?_
      refine k_seq ?_
      refine k_reg ?_
      refine s_lt (t_pure (.int .i64 3)) ?_
      refine s_lt (t_pure (.int .i64 3)) ?_
      refine s_nil ?_
      refine xs_then ?_
      refine k_reg ?_
      refine s_lt (t_pure (.pointer (some ⟨g8, 0, none⟩))) ?_
      refine s_lt (t_pure (.int .i64 3)) ?_
      refine s_call [0, 1, 1] (step3_s (l := l1) (R := R) (B := cycB l R reg pend) (by have := unv_len h1; omega) (by omega) (unv_small h1 hsm) (by have := cycB_len l R reg pend; omega) (by rw [unv_chk h1, hc, cycB_asc R reg pend hc]; rfl)) ?_
      rintro _ _ ⟨rfl, ov16, l17, hl18, rfl⟩
      rw [cycO_of h1] at hl18
      refine s_nil ?_
      refine xs_block ?_
      refine xs_then ?_
      refine k_reg ?_
      refine s_lt (t_pure (.int .i64 4)) ?_
      refine s_lt (t_pure (.int .i64 4)) ?_
      refine s_nil ?_
      exact xs_round (blkA g8 #[ov16, rv, .pointer (some ⟨qb, 0, none⟩), av] 77 :: qA qb (stayL (aliveR l R) reg) (pend ++ sepL (aliveR l R) reg) :: own iTy av (cycB l R reg pend) :: zfr Z (GrA ov16 rv l17 R) :: blkA g2 #[(.slice none 0 0), (.slice none 0 0)] 44 :: blkA g1 #[ov, rv] 44 :: F, 4) (by show 4 - 4 < 4 - 3; omega) (.inr (.inr (.inr (.inr ⟨rfl, av, ov16, l17, hl18, rfl⟩)))) (sub_of rfl ⟨⟨rfl, rfl⟩, ⟨⟨rfl, rfl⟩, ⟨⟨rfl, rfl⟩, ⟨⟨rfl, rfl⟩, ⟨⟨rfl, rfl⟩, ⟨⟨rfl, rfl⟩, trivial⟩⟩⟩⟩⟩⟩) (fun _ h => h.re [0, 2, 0, 0, 0, 0] [])
    ·
      show SK _ _ _ _ _ [(2, .pointer (some ⟨g1, 0, none⟩)), (4, .pointer (some ⟨g2, 0, none⟩)), (5, (.slice none 0 0)), (6, .int .i64 0), (8, .pointer (some ⟨g8, 0, none⟩)), (27, .int .i64 4)] _ (blkA g8 #[o2, rv, .pointer (some ⟨qb, 0, none⟩), av] 77 :: qA qb (stayL (aliveR l R) reg) (pend ++ sepL (aliveR l R) reg) :: own iTy av (cycB l R reg pend) :: zfr Z (GrA o2 rv l2 R) :: blkA g2 #[(.slice none 0 0), (.slice none 0 0)] 44 :: blkA g1 #[ov, rv] 44 :: F)
      refine k_fact (fun H h => (show Acc _ _ iTy av _ from Acc.own 2) H h |>.form) (fun hfa => ?_)
      refine k_seq ?_
      refine k_reg ?_
      refine s_lt (t_cmp (c := false)) ?_
      refine s_nil ?_
      refine xs_then ?_
      refine k_seq ?_
      refine k_false ?_
      refine k_exit ?_
      refine xs_exit ?_
      refine xs_exit ?_
      refine xs_here ?_
      refine xs_then ?_
      refine k_seq ?_
      refine k_reg ?_
      refine s_lt (t_pure (.pointer (some ⟨g8, 0, none⟩))) ?_
      refine s_lt (t_pure (.pointer (some ⟨g8, 0, none⟩))) ?_
      refine s_lt (t_pure (.pointer (some ⟨g8, 3, none⟩))) ?_
      refine s_lt (t_load 0 av) ?_
      refine s_pcall (fun _ h => set_s (L := (cycB l R reg pend)) (Acc.kn (.own 2) h)) ?_
      rintro _ _ ⟨mp19, rfl, rfl⟩
      refine s_lt (t_pure (.map (some mp19))) ?_
      refine s_nil ?_
      refine xs_then ?_
      refine k_seq ?_
      refine k_reg ?_
      refine s_lt (t_pure (.slice none 0 0)) ?_
      refine s_nil ?_
      refine xs_then ?_
      refine k_seq ?_
      refine k_seq ?_
      refine k_reg ?_
      refine s_lt (t_pure (.pointer (some ⟨g1, 0, none⟩))) ?_
      refine s_lt (t_load 6 ov) ?_
      refine s_lt (t_len ObT_ok Try.underlying42 (.zn hg.obs)) ?_
      refine s_lt (t_pure (.int .i64 0)) ?_
      refine s_nil ?_
      refine xs_then ?_
      refine k_block ?_
      refine k_mem (fun _ h => Holds.nilS (T := iTy) h) ?_
      refine k_mem (Bs := own iTy (.slice none 0 0) (((l.take 0).map Ob.id).filter fun x => !decide (x ∈ cycB l R reg pend)) :: mpA (Go.Mem.intK 3) bV mp19 (setL (cycB l R reg pend)) :: blkA g8 #[o2, rv, .pointer (some ⟨qb, 0, none⟩), av] 77 :: qA qb (stayL (aliveR l R) reg) (pend ++ sepL (aliveR l R) reg) :: own iTy av (cycB l R reg pend) :: zfr Z (GrA o2 rv l2 R) :: blkA g2 #[(.slice none 0 0), (.slice none 0 0)] 44 :: blkA g1 #[ov, rv] 44 :: F) (fun _ h => h) ?_
      refine k_loop (ι := Value × Nat) (fun (fx, i) => i ≤ l.length) (fun (fx, i) => [(4, .pointer (some ⟨g2, 0, none⟩)), (5, (.slice none 0 0)), (6, .int .i64 0), (8, .pointer (some ⟨g8, 0, none⟩)), (10, .map (some mp19)), (11, fx), (40, ov), (41, .int .i64 (l.length : Int)), (42, .int .i64 (i : Int))]) (fun (fx, i) => own iTy fx (((l.take i).map Ob.id).filter fun x => !decide (x ∈ cycB l R reg pend)) :: mpA (Go.Mem.intK 3) bV mp19 (setL (cycB l R reg pend)) :: blkA g8 #[o2, rv, .pointer (some ⟨qb, 0, none⟩), av] 77 :: qA qb (stayL (aliveR l R) reg) (pend ++ sepL (aliveR l R) reg) :: own iTy av (cycB l R reg pend) :: zfr Z (GrA o2 rv l2 R) :: blkA g2 #[(.slice none 0 0), (.slice none 0 0)] 44 :: blkA g1 #[ov, rv] 44 :: F) (fun (fx, i) => l.length - i) (.slice none 0 0, 0) (Nat.zero_le _) (sub_of rfl ⟨⟨rfl, rfl⟩, ⟨⟨rfl, rfl⟩, ⟨⟨rfl, rfl⟩, ⟨⟨rfl, rfl⟩, ⟨⟨rfl, rfl⟩, ⟨⟨rfl, rfl⟩, ⟨⟨rfl, rfl⟩, ⟨⟨rfl, rfl⟩, ⟨⟨rfl, rfl⟩, trivial⟩⟩⟩⟩⟩⟩⟩⟩⟩) (fun _ h => h.re [0, 0, 0, 0, 0, 0, 0, 0] []) ?_
      rintro ⟨fx, i⟩ hi20
      replace hi20 : i ≤ l.length := hi20
      show SK _ _ _ _ _ [(4, .pointer (some ⟨g2, 0, none⟩)), (5, (.slice none 0 0)), (6, .int .i64 0), (8, .pointer (some ⟨g8, 0, none⟩)), (10, .map (some mp19)), (11, fx), (40, ov), (41, .int .i64 (l.length : Int)), (42, .int .i64 (i : Int))] _ (own iTy fx (((l.take i).map Ob.id).filter fun x => !decide (x ∈ cycB l R reg pend)) :: mpA (Go.Mem.intK 3) bV mp19 (setL (cycB l R reg pend)) :: blkA g8 #[o2, rv, .pointer (some ⟨qb, 0, none⟩), av] 77 :: qA qb (stayL (aliveR l R) reg) (pend ++ sepL (aliveR l R) reg) :: own iTy av (cycB l R reg pend) :: zfr Z (GrA o2 rv l2 R) :: blkA g2 #[(.slice none 0 0), (.slice none 0 0)] 44 :: blkA g1 #[ov, rv] 44 :: F)
      have hfl : (((l.take i).map Ob.id).filter fun x => !decide (x ∈ cycB l R reg pend)).length ≤ i := by have h := List.length_filter_le (fun x => !decide (x ∈ cycB l R reg pend)) ((l.take i).map Ob.id); rw [List.length_map, List.length_take] at h; omega
      refine k_seq ?_
      refine k_reg ?_
      refine s_lt t_cmp ?_
      refine s_nil ?_
      refine xs_then ?_
      refine k_seq ?_
      refine k_cond (decide ((i : Int) < (l.length : Int))) (fun c21 => ?_) (fun c21 => ?_)
      ·
        have p22 := of_decide_eq_true c21
        refine k_skip ?_
        refine xs_then ?_
        refine k_seq ?_
        refine k_block ?_
        refine k_seq ?_
        refine k_reg ?_
        refine s_lt (t_index ObT_ok Try.underlying42 (.zn hg.obs) (i : Int) i (by omega) (by (try simp only [List.length_nil, List.length_cons, List.length_append, List.length_take, List.length_drop, List.length_set, List.length_replicate, List.length_reverse, bits_len]); omega) (by omega)) ?_
        obtain ⟨y23, hy24⟩ : ∃ y, l[i]? = some y := ⟨_, List.getElem?_eq_getElem (by (try simp only [List.length_nil, List.length_cons, List.length_append, List.length_take, List.length_drop, List.length_set, List.length_replicate, List.length_reverse, bits_len]); omega)⟩
        have hk25 := hg.each y23 (List.mem_of_getElem? hy24)
        refine s_lt (t_loadE ObT_ok (.zn hg.obs) hy24) ?_
        refine s_alloc (.agg #[.int .i64 0, .int .i64 0, .int .i64 0, (.slice none 0 0), (.slice none 0 0)]) #[.int .i64 0, .int .i64 0, .int .i64 0, (.slice none 0 0), (.slice none 0 0)] (fun g26 => ?_)
        refine s_store 0 #[.int .i64 y23.id, .int .i64 y23.size, .int .i64 y23.weak, y23.rv.v, y23.ev.v] ?_
        refine s_nil ?_
        refine xs_then ?_
        refine k_seq ?_
        refine k_reg ?_
        refine s_lt (t_pure (.map (some mp19))) ?_
        refine s_lt (t_pure (.pointer (some ⟨g26, 0, none⟩))) ?_
        refine s_lt (t_load 0 (.int .i64 y23.id)) ?_
        refine s_lt (Lt.to (v' := .bool (decide (y23.id ∈ cycB l R reg pend))) (t_lookup 2 intOk Try.underlying79 (.bool false) y23.id) (got_set _ _)) ?_
        refine s_lt (t_pure (.bool (!(decide (y23.id ∈ cycB l R reg pend))))) ?_
        refine s_nil ?_
        refine xs_then ?_
        refine k_cond (!(decide (y23.id ∈ cycB l R reg pend))) (fun c27 => ?_) (fun c27 => ?_)
        ·
          have c28 := not_t c27
          have p29 := of_decide_eq_false c28
          refine k_reg ?_
          refine s_lt (t_pure fx) ?_
          refine s_lt (t_pure (.pointer (some ⟨g26, 0, none⟩))) ?_
          refine s_lt (t_load 0 (.int .i64 y23.id)) ?_
          refine s_buildSlice (e := 3) [(0, .int .i64 y23.id)] #[.int .i64 y23.id] (fun g30 => ?_) (hb := by kernel_rfl)
          refine s_append (L := (((l.take i).map Ob.id).filter fun x => !decide (x ∈ cycB l R reg pend))) 2 iTy_ok Try.underlying22 (.lit 0 iTy_ok [y23.id]) (by show _ * 8 ≤ _; (try simp only [List.length_nil, List.length_cons, List.length_append, List.length_take, List.length_drop, List.length_set, List.length_replicate, List.length_reverse, bits_len]); omega) (by (try simp only [List.length_nil, List.length_cons, List.length_append, List.length_take, List.length_drop, List.length_set, List.length_replicate, List.length_reverse, bits_len]); omega) (fun v31 => ?_)
          refine s_fact (fun H h => ((Acc.own (T := iTy) (L := ((((l.take i).map Ob.id).filter fun x => !decide (x ∈ cycB l R reg pend)) ++ [y23.id])) 2 rfl) H h).form) (fun hf32 => ?_)
          refine s_lt (t_pure v31) ?_
          refine s_nil ?_
          refine xs_block ?_
          refine xs_then ?_
          refine k_reg ?_
          refine s_lt (t_add (i : Int) 1 (by (try simp only [List.length_nil, List.length_cons, List.length_append, List.length_take, List.length_drop, List.length_set, List.length_replicate, List.length_reverse, bits_len]); omega)) ?_
          refine s_lt (t_pure (.int .i64 ((i : Int) + 1))) ?_
          refine s_nil ?_
          rw [fre_yes hy24 p29]
          exact xs_round (v31, i + 1) (by show l.length - (i + 1) < l.length - i; omega) (by show i + 1 ≤ l.length; omega) (sub_of rfl ⟨⟨rfl, rfl⟩, ⟨⟨rfl, rfl⟩, ⟨⟨rfl, rfl⟩, ⟨⟨rfl, rfl⟩, ⟨⟨rfl, rfl⟩, ⟨⟨rfl, rfl⟩, ⟨⟨rfl, rfl⟩, ⟨⟨rfl, rfl⟩, ⟨⟨rfl, rfl⟩, trivial⟩⟩⟩⟩⟩⟩⟩⟩⟩) (fun _ h => h.re [2, 2, 2, 2, 2, 2, 2, 2] [8, 8])
        ·
          have c33 := not_f c27
          have p34 := of_decide_eq_true c33
          refine k_skip ?_
          refine xs_block ?_
          refine xs_then ?_
          refine k_reg ?_
          refine s_lt (t_add (i : Int) 1 (by (try simp only [List.length_nil, List.length_cons, List.length_append, List.length_take, List.length_drop, List.length_set, List.length_replicate, List.length_reverse, bits_len]); omega)) ?_
          refine s_lt (t_pure (.int .i64 ((i : Int) + 1))) ?_
          refine s_nil ?_
          rw [fre_no hy24 p34]
          exact xs_round (fx, i + 1) (by show l.length - (i + 1) < l.length - i; omega) (by show i + 1 ≤ l.length; omega) (sub_of rfl ⟨⟨rfl, rfl⟩, ⟨⟨rfl, rfl⟩, ⟨⟨rfl, rfl⟩, ⟨⟨rfl, rfl⟩, ⟨⟨rfl, rfl⟩, ⟨⟨rfl, rfl⟩, ⟨⟨rfl, rfl⟩, ⟨⟨rfl, rfl⟩, ⟨⟨rfl, rfl⟩, trivial⟩⟩⟩⟩⟩⟩⟩⟩⟩) (fun _ h => h.re [1, 1, 1, 1, 1, 1, 1, 1] [8])
      ·
        have p35 := of_decide_eq_false c21
        refine k_exit ?_
        obtain rfl : i = l.length := by omega
        rw [List.take_length]
        refine xs_exit ?_
        refine xs_exit ?_
        refine xs_here ?_
        refine xs_then ?_
        refine k_seq ?_
        refine k_reg ?_
        refine s_lt (t_pure (.pointer (some ⟨g8, 0, none⟩))) ?_
        refine s_lt (t_pure (.pointer (some ⟨g8, 0, none⟩))) ?_
        refine s_lt (t_pure (.pointer (some ⟨g8, 0, none⟩))) ?_
        refine s_lt (t_loadA 2 #[o2, rv]) ?_
        have hs2 : l2.length ≤ l.length ∧ ∀ o ∈ l2, o.refs.length ≤ 400 ∧ o.ents.length ≤ 400 := cycO_small h2 hsm
        refine s_pcall (fun _ h => clone_g (GrA.kn (h.zfrF 5)) (by omega) (by omega) hs2.2) ?_
        rintro _ _ ⟨ov36, rv37, l38, rfl, hl39, rfl⟩
        refine s_lt (t_pure fx) ?_
        refine s_fact (fun H h => ((show Acc _ _ ObT _ _ from (accF 0)) H h).form) (fun hf40 => ?_)
        refine s_fact (fun H h => ((show Acc _ _ iTy _ _ from (accR 0)) H h).form) (fun hf41 => ?_)
        refine s_store (u := .agg #[ov36, rv37]) (m := 2) 7 #[ov36, rv37] ?_ (hm := by (obtain ⟨_, _, e0⟩ := hf40; obtain ⟨_, _, e1⟩ := hf41; rw [e0, e1]; rfl)) (h1 := by (obtain ⟨_, _, e0⟩ := hf40; obtain ⟨_, _, e1⟩ := hf41; rw [e0, e1]; rfl)) (ha' := by (obtain ⟨_, _, e0⟩ := hf40; obtain ⟨_, _, e1⟩ := hf41; rw [e0, e1]; rfl))
        refine s_lt (t_pure fx) ?_
        refine s_lt (t_pure (.int .i64 0)) ?_
        refine s_nil ?_
        refine xs_then ?_
        refine k_ret ?_
        exact xs_fin [.agg #[ov36, rv37], fx, .int .i64 0] (qA qb (cycR l R reg) (cycP l R reg pend) :: frz (GrA ov36 rv37 l38 R) :: own iTy fx (cycF l R reg pend) :: F) (SI.agg 4 44 7 (SI.tmp 5 (SI.tmp 6 SI.nil))) (fun _ h => h.re [4, 0, 0] [3, 3, 3, 3, 3, 3]) ⟨_, _, _, l38, R, by rw [hc]; rfl, by rw [hc]; exact hl39.trans h2, by rw [hc]; rfl, by rw [hc]; rfl⟩
end Go.Proofs.Ytipmkaabogocfaa
