/-
  Cycle of the reference of layer 27. Each law says its conditions.
-/
import Derived.Test.YtipmkaabogocfaaF14
set_option linter.unusedSimpArgs false
set_option linter.unusedVariables false
set_option maxRecDepth 100000
set_option maxHeartbeats 2000000
namespace Go.Proofs.Ytipmkaabogocfaa
open Go.Hp Go.J Go.S
open Go.Mem (Ty KTy blk elemAt pre suf blk_pre blk_suf aget aset strK aggDesc)
theorem rcycle_s {Z : Zone} {ov rv : Value} {l : List Ob} {R : List Int} (hg : KnG Z ov rv l R) {F : List Asr} {qb : Nat} {reg pend : List Int} (hl0 : l.length ≤ 200) (hl : l.length ≤ 100000) (hp : pot l [] ≤ 1000000) (hr : R.length ≤ 50000) (hsm : ∀ o ∈ l, o.refs.length ≤ 400 ∧ o.ents.length ≤ 400) (hq1 : reg.length ≤ 50000) (hq2 : pend.length ≤ 50000) : SF Try.prog 25 #[.agg #[ov, rv], .pointer (some ⟨qb, 0, none⟩)] Z (rqA qb reg pend :: F) fun r Bs => ∃ ov' rv' fv l' R', r = .tuple #[.agg #[ov', rv'], fv, .int .i64 (errI (chk 0 l))] ∧ l'.map Ob.c = (if chk 0 l = true then cycO l R reg pend else []) ∧ R' = (if chk 0 l = true then R else []) ∧ Bs = rqA qb (if chk 0 l = true then cycR l R reg else reg) (if chk 0 l = true then cycP l R reg pend else pend) :: frz (GrA ov' rv' l' R') :: own iTy fv (if chk 0 l = true then cycF l R reg pend else []) :: F := by
  refine sf_enter Try.func25 130 [(0, .agg #[ov, rv]), (1, .pointer (some ⟨qb, 0, none⟩))] (fun w0 => ?_)
  refine k_seq ?_
  refine k_reg ?_
  refine s_box #[ov, rv] (fun g1 => ?_)
  refine s_alloc (.agg #[(.slice none 0 0), (.slice none 0 0)]) #[(.slice none 0 0), (.slice none 0 0)] (fun g2 => ?_)
  refine s_lt (t_pure (.slice none 0 0)) ?_
  refine s_lt (t_pure (.int .i64 0)) ?_
  refine s_nil ?_
  refine xs_then ?_
  refine k_seq ?_
  refine k_seq ?_
  refine k_reg ?_
  refine s_lt (t_pure (.pointer (some ⟨qb, 0, none⟩))) ?_
  refine s_lt (t_pure (.bool false)) ?_
  refine s_nil ?_
  refine xs_then ?_
  refine k_false ?_
  refine k_skip ?_
  refine xs_then ?_
  refine k_seq ?_
  refine k_reg ?_
  refine s_lt (t_loadA 1 #[ov, rv]) ?_
  refine s_vcall (fun _ h => rcheck_s (hg.up h)) ?_
  rintro _ rfl
  refine s_lt (t_pure (.int .i64 (errI (chk 0 l)))) ?_
  refine s_nil ?_
  refine xs_then ?_
  refine k_seq ?_
  refine k_seq ?_
  refine k_reg ?_
  refine s_lt (t_pure (.int .i64 (errI (chk 0 l)))) ?_
  refine s_lt t_cmp ?_
  refine s_nil ?_
  refine xs_then ?_
  refine k_cond (decide ((errI (chk 0 l)) ≠ 0)) (fun c3 => ?_) (fun c3 => ?_)
  ·
    have p4 := of_decide_eq_true c3
    have hc := errI_bad p4
    refine k_seq ?_
    refine k_reg ?_
    refine s_lt (t_kern (.agg #[(.slice none 0 0), (.slice none 0 0)])) ?_
    refine s_lt (t_pure (.int .i64 (errI (chk 0 l)))) ?_
    refine s_store 0 #[(.slice none 0 0), (.slice none 0 0)] ?_
    refine s_lt (t_pure (.slice none 0 0)) ?_
    refine s_lt (t_pure (.int .i64 (errI (chk 0 l)))) ?_
    refine s_nil ?_
    refine xs_then ?_
    refine k_ret ?_
    refine xs_ret ?_
    have hc := errI_bad p4
    exact xs_fin [.agg #[(.slice none 0 0), (.slice none 0 0)], (.slice none 0 0), .int .i64 (errI (chk 0 l))] (rqA qb reg pend :: frz (GrA (.slice none 0 0) (.slice none 0 0) [] []) :: own iTy (.slice none 0 0) [] :: F) (SI.agg 4 44 0 (SI.tmp 5 (SI.tmp 6 SI.nil))) (fun _ h => (Holds.nilS (T := iTy) (gr_nil h)).re [4, 1, 0] [3, 3]) ⟨_, _, _, [], [], rfl, by rw [hc]; rfl, by rw [hc]; rfl, by rw [hc]; rfl⟩
  ·
    have p5 := Decidable.not_not.1 (of_decide_eq_false c3)
    have hc := errI_ok p5; have hs := chk_asc hc
    have hc := errI_ok p5
    refine k_skip ?_
    refine xs_then ?_
    refine k_seq ?_
    refine k_reg ?_
    refine s_lt (t_loadA 1 #[ov, rv]) ?_
    refine s_pcall (fun _ h => rAlive_s (hg.up h) hl hp hsm (by omega)) ?_
    rintro _ _ ⟨v6, rfl, rfl⟩
    refine s_fact (fun H h => ((Acc.own (T := iTy) (L := (aliveR l R)) 0 rfl) H h).form) (fun hf7 => ?_)
    refine s_lt (t_pure (.tuple #[v6, .int .i64 (errI (chk 0 l))])) ?_
    refine s_lt (t_pure v6) ?_
    refine s_lt (t_pure (.int .i64 (errI (chk 0 l)))) ?_
    refine s_lt (t_pure v6) ?_
    refine s_lt (t_pure (.int .i64 (errI (chk 0 l)))) ?_
    refine s_nil ?_
    refine xs_then ?_
    refine k_seq ?_
    refine k_reg ?_
    refine s_lt (t_pure (.pointer (some ⟨qb, 0, none⟩))) ?_
    refine s_lt (t_pure v6) ?_
    refine s_lend 0 [2] (fun _ hz => rsepa_s (A := (aliveR l R)) (reg := reg) (pend := pend) hz.own (by (try simp only [List.length_nil, List.length_cons, List.length_append, List.length_take, List.length_drop, List.length_set, List.length_replicate, List.length_reverse, bits_len]); omega) (by (try simp only [List.length_nil, List.length_cons, List.length_append, List.length_take, List.length_drop, List.length_set, List.length_replicate, List.length_reverse, bits_len]); omega)) ?_
    rintro v8 _ rfl
    refine s_fact (fun H h => ((Acc.own (T := iTy) (L := (sepL (aliveR l R) reg)) 2 rfl) H h).form) (fun hf9 => ?_)
    obtain ⟨P, hP⟩ : ∃ P, P = pend ++ sepL (aliveR l R) reg := ⟨_, rfl⟩; rw [← hP]; have hPl := cycP_len l R reg pend; rw [← hP] at hPl
    refine s_nil ?_
    refine xs_then ?_
    refine k_seq ?_
    refine k_reg ?_
    refine s_lt (t_loadA 4 #[ov, rv]) ?_
    refine s_lt (t_pure v6) ?_
    refine s_call [0] (unvalued_s hg hl (by omega) hsm) ?_
    rintro _ _ ⟨ov10, rv11, l12, rfl, hl13, rfl⟩
    refine s_alloc (.agg #[(.slice none 0 0), (.slice none 0 0)]) #[(.slice none 0 0), (.slice none 0 0)] (fun g14 => ?_)
    refine s_fact (fun H h => ((show Acc _ _ ObT _ _ from (accZF 1)) H h).form) (fun hf15 => ?_)
    refine s_fact (fun H h => ((show Acc _ _ iTy _ _ from (accZR 1)) H h).form) (fun hf16 => ?_)
    refine s_store (u := .agg #[ov10, rv11]) (m := 2) 0 #[ov10, rv11] ?_ (hm := by (obtain ⟨_, _, e0⟩ := hf15; obtain ⟨_, _, e1⟩ := hf16; rw [e0, e1]; rfl)) (h1 := by (obtain ⟨_, _, e0⟩ := hf15; obtain ⟨_, _, e1⟩ := hf16; rw [e0, e1]; rfl)) (ha' := by (obtain ⟨_, _, e0⟩ := hf15; obtain ⟨_, _, e1⟩ := hf16; rw [e0, e1]; rfl))
    refine s_nil ?_
    refine xs_then ?_
    refine k_seq ?_
    refine k_held [blkA g14 #[ov10, rv11] 44, own iTy v6 (aliveR l R), own iTy v8 (sepL (aliveR l R) reg), blkA g2 #[(.slice none 0 0), (.slice none 0 0)] 44, blkA g1 #[ov, rv] 44] ?_
    refine h_lt 0 rfl (np_then np_finS) [0, 1, 2, 2, 2] (fun _ => (t_pure (.pointer (some ⟨g14, 0, none⟩)))) ?_
    refine h_lt 1 rfl (np_then np_finS) [0, 1, 2, 2, 2] (fun _ => (t_load 0 ov10)) ?_
    refine h_lt 3 rfl (np_then np_finS) [0, 1, 2, 2, 2] (fun _ => (t_pure (.pointer (some ⟨g14, 1, none⟩)))) ?_
    refine h_lt 4 rfl (np_then np_finS) [0, 1, 2, 2, 2] (fun _ => (t_load 0 rv11)) ?_
    refine h_stepS2 2 7 ?_ ?_
    ·
      refine s_buildSlice (e := 3) [] #[] (fun g17 => ?_) (hb := by kernel_rfl)
      refine s_nil (xs_held [1, 2, 3, 3, 3] ?_)
      refine h_stepS2 5 7 ?_ ?_
      ·
        refine s_mem (fun _ h => Holds.slice 0 h iTy_ok []) ?_
        refine s_append (L := []) 0 iTy_ok Try.underlying22 (accZR 2) (by show _ * 8 ≤ _; (try simp only [List.length_nil, List.length_cons, List.length_append, List.length_take, List.length_drop, List.length_set, List.length_replicate, List.length_reverse, bits_len]); omega) (by (try simp only [List.length_nil, List.length_cons, List.length_append, List.length_take, List.length_drop, List.length_set, List.length_replicate, List.length_reverse, bits_len]); omega) (fun v18 => ?_)
        rw [List.nil_append]
        refine s_fact (fun H h => ((Acc.own (T := iTy) (L := R) 0 rfl) H h).form) (fun hf19 => ?_)
        refine s_nil (xs_held [1, 2, 3, 3, 3] ?_)
        refine h_lt 6 rfl (np_then np_finS) [1, 2, 3, 3, 3] (fun _ => (show Lt _ _ _ _ _ (.agg #[ov10, v18]) from by obtain ⟨_, _, e⟩ := hf15; rw [e]; clear e; obtain ⟨_, _, e⟩ := hf19; rw [e]; clear e; exact t_kern _)) ?_
        refine h_stepS 7 ?_
        refine s_alloc (.agg #[(.slice none 0 0), (.slice none 0 0)]) #[(.slice none 0 0), (.slice none 0 0)] (fun g20 => ?_)
        refine s_nil (xs_held [2, 3, 4, 4, 4] ?_)
        refine h_stepS 8 ?_
        refine s_store (u := .agg #[ov10, v18]) (m := 2) 0 #[ov10, v18] ?_ (hm := by (obtain ⟨_, _, e0⟩ := hf15; obtain ⟨_, _, e1⟩ := hf19; rw [e0, e1]; rfl)) (h1 := by (obtain ⟨_, _, e0⟩ := hf15; obtain ⟨_, _, e1⟩ := hf19; rw [e0, e1]; rfl)) (ha' := by (obtain ⟨_, _, e0⟩ := hf15; obtain ⟨_, _, e1⟩ := hf19; rw [e0, e1]; rfl))
        refine s_nil (xs_held [2, 3, 4, 4, 4] ?_)
        refine h_doneS ?_
        refine xs_then ?_
        refine k_seq ?_
        refine k_seq ?_
        refine k_reg ?_
        refine s_lt (t_pure (.int .i64 0)) ?_
        refine s_nil ?_
        refine xs_then ?_
        refine k_block ?_
        refine k_mem (Bs := blkA g20 #[ov10, v18] 44 :: own iTy v18 R :: blkA g14 #[ov10, rv11] 44 :: zfr Z (GrA ov10 rv11 l12 R) :: rqA qb (stayL (aliveR l R) reg) P :: blkA g2 #[(.slice none 0 0), (.slice none 0 0)] 44 :: blkA g1 #[ov, rv] 44 :: F) (fun _ h => h.re [0, 0, 0, 0, 1, 2, 2] [7, 7]) ?_
        have hz0 : R ++ hasL l (P.take 0) = R := List.append_nil R
        refine k_mem (Bs := blkA g20 #[ov10, v18] 44 :: own iTy v18 (R ++ hasL l (P.take 0)) :: blkA g14 #[ov10, rv11] 44 :: zfr Z (GrA ov10 rv11 l12 R) :: rqA qb (stayL (aliveR l R) reg) P :: blkA g2 #[(.slice none 0 0), (.slice none 0 0)] 44 :: blkA g1 #[ov, rv] 44 :: F) (fun _ h => by rw [hz0]; exact h) ?_
        refine k_loop (ι := Value × Nat) (fun (mx, i) => i ≤ P.length) (fun (mx, i) => [(1, .pointer (some ⟨qb, 0, none⟩)), (2, .pointer (some ⟨g1, 0, none⟩)), (4, .pointer (some ⟨g2, 0, none⟩)), (5, (.slice none 0 0)), (6, .int .i64 0), (10, .pointer (some ⟨g14, 0, none⟩)), (11, .pointer (some ⟨g20, 0, none⟩)), (12, .int .i64 (i : Int))]) (fun (mx, i) => blkA g20 #[ov10, mx] 44 :: own iTy mx (R ++ hasL l (P.take i)) :: blkA g14 #[ov10, rv11] 44 :: zfr Z (GrA ov10 rv11 l12 R) :: rqA qb (stayL (aliveR l R) reg) P :: blkA g2 #[(.slice none 0 0), (.slice none 0 0)] 44 :: blkA g1 #[ov, rv] 44 :: F) (fun (mx, i) => P.length - i) (v18, 0) (Nat.zero_le _) (sub_of rfl ⟨⟨rfl, rfl⟩, ⟨⟨rfl, rfl⟩, ⟨⟨rfl, rfl⟩, ⟨⟨rfl, rfl⟩, ⟨⟨rfl, rfl⟩, ⟨⟨rfl, rfl⟩, ⟨⟨rfl, rfl⟩, ⟨⟨rfl, rfl⟩, trivial⟩⟩⟩⟩⟩⟩⟩⟩) (fun _ h => h.re [0, 0, 0, 0, 0, 0, 0] []) ?_
        rintro ⟨mx, i⟩ hi21
        replace hi21 : i ≤ P.length := hi21
        show SK _ _ _ _ _ [(1, .pointer (some ⟨qb, 0, none⟩)), (2, .pointer (some ⟨g1, 0, none⟩)), (4, .pointer (some ⟨g2, 0, none⟩)), (5, (.slice none 0 0)), (6, .int .i64 0), (10, .pointer (some ⟨g14, 0, none⟩)), (11, .pointer (some ⟨g20, 0, none⟩)), (12, .int .i64 (i : Int))] _ (blkA g20 #[ov10, mx] 44 :: own iTy mx (R ++ hasL l (P.take i)) :: blkA g14 #[ov10, rv11] 44 :: zfr Z (GrA ov10 rv11 l12 R) :: rqA qb (stayL (aliveR l R) reg) P :: blkA g2 #[(.slice none 0 0), (.slice none 0 0)] 44 :: blkA g1 #[ov, rv] 44 :: F)
        have hhl := has_len l (P.take i); rw [List.length_take] at hhl
        refine k_seq ?_
        refine k_seq ?_
        refine k_reg ?_
        refine s_lt (t_pure (.int .i64 (i : Int))) ?_
        refine s_lt (t_pure (.pointer (some ⟨qb, 0, none⟩))) ?_
        refine s_lt (t_pure (.pointer (some ⟨qb, 0, none⟩))) ?_
        refine s_lt (t_pure (.pointer (some ⟨qb, 1, none⟩))) ?_
        refine s_mem2 (fun H h => rq_open (h.re [4] [])) (fun rq22 pq23 hw => ?_)
        refine s_lt (t_load 0 pq23) ?_
        refine s_lt (t_len iTy_ok Try.underlying22 (.own 2)) ?_
        refine s_lt t_cmp ?_
        refine s_nil ?_
        refine xs_then ?_
        refine k_cond (decide ((i : Int) < (P.length : Int))) (fun c24 => ?_) (fun c24 => ?_)
        ·
          have p25 := of_decide_eq_true c24
          refine k_skip ?_
          refine xs_then ?_
          refine k_seq ?_
          refine k_block ?_
          refine k_seq ?_
          refine k_draw ?_
          refine s_lt (t_loadA 8 #[ov, rv]) ?_
          refine s_lt (t_pure (.pointer (some ⟨qb, 0, none⟩))) ?_
          refine s_lt (t_pure (.pointer (some ⟨qb, 0, none⟩))) ?_
          refine s_lt (t_pure (.pointer (some ⟨qb, 1, none⟩))) ?_
          refine s_lt (t_load 0 pq23) ?_
          refine s_lt (t_pure (.int .i64 (i : Int))) ?_
          refine s_lt (t_index iTy_ok Try.underlying22 (.own 2) (i : Int) i (by omega) (by (try simp only [List.length_nil, List.length_cons, List.length_append, List.length_take, List.length_drop, List.length_set, List.length_replicate, List.length_reverse, bits_len]); omega) (by omega)) ?_
          obtain ⟨y26, hy27⟩ : ∃ y, P[i]? = some y := ⟨_, List.getElem?_eq_getElem (by (try simp only [List.length_nil, List.length_cons, List.length_append, List.length_take, List.length_drop, List.length_set, List.length_replicate, List.length_reverse, bits_len]); omega)⟩
          refine s_lt (t_loadE iTy_ok (.own 2) hy27) ?_
          refine s_vcall (fun _ h => rhasg_s (hg.up h) y26) ?_
          rintro _ rfl
          refine s_nil ?_
          refine x_dynS (fun _ h => by kernel_rfl) ?_
          refine xs_then ?_
          refine k_cond (decide (y26 ∈ l.map Ob.id)) (fun c28 => ?_) (fun c28 => ?_)
          ·
            have p29 := of_decide_eq_true c28
            refine k_draw ?_
            refine s_lt (t_pure (.pointer (some ⟨g20, 1, none⟩))) ?_
            refine s_lt (t_load 3 mx) ?_
            refine s_lt (t_pure (.pointer (some ⟨qb, 0, none⟩))) ?_
            refine s_lt (t_pure (.pointer (some ⟨qb, 0, none⟩))) ?_
            refine s_lt (t_pure (.pointer (some ⟨qb, 1, none⟩))) ?_
            refine s_lt (t_load 0 pq23) ?_
            refine s_lt (t_pure (.int .i64 (i : Int))) ?_
            refine s_lt (t_index iTy_ok Try.underlying22 (.own 2) (i : Int) i (by omega) (by (try simp only [List.length_nil, List.length_cons, List.length_append, List.length_take, List.length_drop, List.length_set, List.length_replicate, List.length_reverse, bits_len]); omega) (by omega)) ?_
            refine s_lt (t_loadE iTy_ok (.own 2) hy27) ?_
            refine s_buildSlice (e := 3) [(0, .int .i64 y26)] #[.int .i64 y26] (fun g30 => ?_) (hb := by kernel_rfl)
            refine s_append (L := (R ++ hasL l (P.take i))) 5 iTy_ok Try.underlying22 (.lit 0 iTy_ok [y26]) (by show _ * 8 ≤ _; (try simp only [List.length_nil, List.length_cons, List.length_append, List.length_take, List.length_drop, List.length_set, List.length_replicate, List.length_reverse, bits_len]); omega) (by (try simp only [List.length_nil, List.length_cons, List.length_append, List.length_take, List.length_drop, List.length_set, List.length_replicate, List.length_reverse, bits_len]); omega) (fun v31 => ?_)
            refine s_fact (fun H h => ((Acc.own (T := iTy) (L := ((R ++ hasL l (P.take i)) ++ [y26])) 5 rfl) H h).form) (fun hf32 => ?_)
            refine s_lt (t_pure (.pointer (some ⟨g20, 1, none⟩))) ?_
            refine s_store (u := v31) (m := 1) 4 #[ov10, v31] ?_ (hm := by (obtain ⟨_, _, e0⟩ := hf32; rw [e0]; rfl)) (h1 := by (obtain ⟨_, _, e0⟩ := hf32; rw [e0]; rfl)) (ha' := by (obtain ⟨_, _, e0⟩ := hf32; rw [e0]; rfl))
            refine s_nil ?_
            refine x_dynS (fun _ h => by kernel_rfl) ?_
            refine xs_block ?_
            refine xs_then ?_
            refine k_reg ?_
            refine s_lt (t_pure (.int .i64 (i : Int))) ?_
            refine s_lt (t_add (i : Int) 1 (by (try simp only [List.length_nil, List.length_cons, List.length_append, List.length_take, List.length_drop, List.length_set, List.length_replicate, List.length_reverse, bits_len]); omega)) ?_
            refine s_lt (t_pure (.int .i64 ((i : Int) + 1))) ?_
            refine s_nil ?_
            refine xs_mem (fun _ h => rq_shut (h.re [1, 1, 1] [])) ?_
            rw [List.append_assoc, has_yes (l := l) hy27 p29]
            exact xs_round (v31, i + 1) (by show P.length - (i + 1) < P.length - i; omega) (by show i + 1 ≤ P.length; omega) (sub_of rfl ⟨⟨rfl, rfl⟩, ⟨⟨rfl, rfl⟩, ⟨⟨rfl, rfl⟩, ⟨⟨rfl, rfl⟩, ⟨⟨rfl, rfl⟩, ⟨⟨rfl, rfl⟩, ⟨⟨rfl, rfl⟩, ⟨⟨rfl, rfl⟩, trivial⟩⟩⟩⟩⟩⟩⟩⟩) (fun _ h => h.re [2, 2, 2, 2, 0, 1, 1] [7])
          ·
            have p33 := of_decide_eq_false c28
            refine k_skip ?_
            refine xs_block ?_
            refine xs_then ?_
            refine k_reg ?_
            refine s_lt (t_pure (.int .i64 (i : Int))) ?_
            refine s_lt (t_add (i : Int) 1 (by (try simp only [List.length_nil, List.length_cons, List.length_append, List.length_take, List.length_drop, List.length_set, List.length_replicate, List.length_reverse, bits_len]); omega)) ?_
            refine s_lt (t_pure (.int .i64 ((i : Int) + 1))) ?_
            refine s_nil ?_
            refine xs_mem (fun _ h => rq_shut (h.re [0, 0, 0] [])) ?_
            rw [has_no (l := l) hy27 p33]
            exact xs_round (mx, i + 1) (by show P.length - (i + 1) < P.length - i; omega) (by show i + 1 ≤ P.length; omega) (sub_of rfl ⟨⟨rfl, rfl⟩, ⟨⟨rfl, rfl⟩, ⟨⟨rfl, rfl⟩, ⟨⟨rfl, rfl⟩, ⟨⟨rfl, rfl⟩, ⟨⟨rfl, rfl⟩, ⟨⟨rfl, rfl⟩, ⟨⟨rfl, rfl⟩, trivial⟩⟩⟩⟩⟩⟩⟩⟩) (fun _ h => h.re [1, 1, 1, 1, 0, 0, 0] [])
        ·
          have p34 := of_decide_eq_false c24
          refine k_exit ?_
          rw [List.take_of_length_le (show P.length ≤ i by omega)]
          have hhl := has_len l P
          refine xs_exit ?_
          refine xs_exit ?_
          refine xs_here ?_
          refine xs_then ?_
          refine k_seq ?_
          refine k_reg ?_
          refine s_lt (t_loadA 3 #[ov10, mx]) ?_
          have hu1 := unv_len hl13; have hu2 := unv_small hl13 hsm; have hu3 := pot_le l12 hu2 []
          refine s_pcall (fun _ h => rAlive_s (gr_more (h.zfrF 6) (h.knS 4)) (by omega) (by omega) hu2 (by rw [List.length_append]; omega)) ?_
          rintro _ _ ⟨v35, rfl, rfl⟩
          refine s_fact (fun H h => ((Acc.own (T := iTy) (L := (aliveR l12 (R ++ hasL l P))) 0 rfl) H h).form) (fun hf36 => ?_)
          have hbb : (aliveR l12 (R ++ hasL l P)) = cycB l R reg pend := by rw [has_alive hl13, hP]; exact cycB_of hl13
          rw [hbb]
          have hbl := cycB_len l R reg pend
          refine s_lt (t_pure (.tuple #[v35, .int .i64 (errI (chk 0 l12))])) ?_
          refine s_lt (t_pure v35) ?_
          refine s_lt (t_pure (.int .i64 (errI (chk 0 l12)))) ?_
          refine s_lt (t_pure v35) ?_
          refine s_lt (t_pure (.int .i64 (errI (chk 0 l12)))) ?_
          refine s_nil ?_
          refine xs_then ?_
          refine k_seq ?_
          refine k_reg ?_
          refine s_lt (t_loadA 6 #[ov10, rv11]) ?_
          refine s_lt (t_pure v35) ?_
          refine s_pcall (fun _ h => rClear_s (GrA.kn (h.zfrF 7)) (Acc.kn (.own 0) h) (by have := cycB_len l R reg pend; omega) (by omega) (by omega) hu2) ?_
          rintro _ _ ⟨ov37, rv38, l39, R40, rfl, hl41, hR42, rfl⟩
          refine s_lt (t_pure (.tuple #[.agg #[ov37, rv38], .int .i64 (errI (chk 0 l12 && ascA 0 (cycB l R reg pend)))])) ?_
          refine s_lt (t_pure (.agg #[ov37, rv38])) ?_
          refine s_lt (t_pure (.int .i64 (errI (chk 0 l12 && ascA 0 (cycB l R reg pend))))) ?_
          refine s_alloc (.agg #[(.slice none 0 0), (.slice none 0 0)]) #[(.slice none 0 0), (.slice none 0 0)] (fun g43 => ?_)
          refine s_fact (fun H h => ((show Acc _ _ ObT _ _ from (accF 1)) H h).form) (fun hf44 => ?_)
          refine s_fact (fun H h => ((show Acc _ _ iTy _ _ from (accR 1)) H h).form) (fun hf45 => ?_)
          refine s_store (u := .agg #[ov37, rv38]) (m := 2) 0 #[ov37, rv38] ?_ (hm := by (obtain ⟨_, _, e0⟩ := hf44; obtain ⟨_, _, e1⟩ := hf45; rw [e0, e1]; rfl)) (h1 := by (obtain ⟨_, _, e0⟩ := hf44; obtain ⟨_, _, e1⟩ := hf45; rw [e0, e1]; rfl)) (ha' := by (obtain ⟨_, _, e0⟩ := hf44; obtain ⟨_, _, e1⟩ := hf45; rw [e0, e1]; rfl))
          refine s_lt (t_pure (.int .i64 (errI (chk 0 l12 && ascA 0 (cycB l R reg pend))))) ?_
          refine s_nil ?_
          refine xs_then ?_
          refine k_seq ?_
          refine k_reg ?_
          refine s_buildSlice (e := 3) [] #[] (fun g46 => ?_) (hb := by kernel_rfl)
          refine s_lt (t_pure (.pointer (some ⟨g1, 1, none⟩))) ?_
          refine s_lt (t_load 12 rv) ?_
          refine s_mem (fun _ h => Holds.slice 0 h iTy_ok []) ?_
          refine s_append (L := []) 0 iTy_ok Try.underlying22 (.zn hg.roots) (by show _ * 8 ≤ _; (try simp only [List.length_nil, List.length_cons, List.length_append, List.length_take, List.length_drop, List.length_set, List.length_replicate, List.length_reverse, bits_len]); omega) (by (try simp only [List.length_nil, List.length_cons, List.length_append, List.length_take, List.length_drop, List.length_set, List.length_replicate, List.length_reverse, bits_len]); omega) (fun v47 => ?_)
          rw [List.nil_append]
          refine s_fact (fun H h => ((Acc.own (T := iTy) (L := R) 0 rfl) H h).form) (fun hf48 => ?_)
          refine s_lt (show Lt _ _ _ _ _ (.agg #[(.slice none 0 0), v47]) from by obtain ⟨_, _, e⟩ := hf48; rw [e]; clear e; exact t_kern _) ?_
          refine s_alloc (.agg #[(.slice none 0 0), (.slice none 0 0)]) #[(.slice none 0 0), (.slice none 0 0)] (fun g49 => ?_)
          refine s_store (u := .agg #[(.slice none 0 0), v47]) (m := 2) 0 #[(.slice none 0 0), v47] ?_ (hm := by (obtain ⟨_, _, e0⟩ := hf48; rw [e0]; rfl)) (h1 := by (obtain ⟨_, _, e0⟩ := hf48; rw [e0]; rfl)) (ha' := by (obtain ⟨_, _, e0⟩ := hf48; rw [e0]; rfl))
          refine s_nil ?_
          refine xs_then ?_
          refine k_seq ?_
          refine k_reg ?_
          refine s_buildSlice (e := 3) [] #[] (fun g50 => ?_) (hb := by kernel_rfl)
          refine s_lt (t_pure (.slice (some ⟨g50, 0, none⟩) 0 0)) ?_
          refine s_nil ?_
          refine xs_then ?_
          refine k_seq ?_
          refine k_seq ?_
          refine k_reg ?_
          refine s_lt (t_pure (.int .i64 0)) ?_
          refine s_nil ?_
          refine xs_then ?_
          refine k_block ?_
          refine k_mem (fun _ h => rq_shut (h.re [6, 6, 6] [])) ?_
          refine k_mem (Bs := rqA qb (stayL (aliveR l R) reg) P :: blkA g50 #[] 3 :: blkA g49 #[(.slice none 0 0), v47] 44 :: own iTy v47 R :: blkA g43 #[ov37, rv38] 44 :: frz (GrA ov37 rv38 l39 R40) :: own iTy v35 (cycB l R reg pend) :: blkA g2 #[(.slice none 0 0), (.slice none 0 0)] 44 :: F) (fun _ h => h.re [0, 0, 0, 0, 0, 0, 0, 4] [8, 8, 8, 8, 8]) ?_
          have hok : (chk 0 l12 && ascA 0 (cycB l R reg pend)) = true := by rw [unv_chk hl13, hc, cycB_asc R reg pend hc]; rfl
          rw [hok, if_pos rfl] at hl41 hR42; have hlen := len_of_map hl41; have hu1b := unv_len hl13
          refine k_mem (fun _ h => Holds.slice 1 h iTy_ok []) ?_
          refine k_mem (Bs := rqA qb (stayL (aliveR l R) reg) P :: own iTy (.slice (some ⟨g50, 0, none⟩) 0 0) (freeL (cycB l R reg pend) ((l39.take 0).map Ob.c)) :: blkA g49 #[(.slice none 0 0), v47] 44 :: own iTy v47 R :: blkA g43 #[ov37, rv38] 44 :: frz (GrA ov37 rv38 l39 R40) :: own iTy v35 (cycB l R reg pend) :: blkA g2 #[(.slice none 0 0), (.slice none 0 0)] 44 :: F) (fun _ h => h) ?_
          refine k_mem (fun _ h => Holds.nilS (T := ObT) h) ?_
          refine k_loop (ι := Value × List Ob × Value × Nat) (fun (ox, N, fx, k) => k ≤ l39.length ∧ N.map Ob.c = lastL (cycB l R reg pend) ((l39.take k).map Ob.c) ∧ (∀ x ∈ N, x ∈ l39) ∧ N.length ≤ k) (fun (ox, N, fx, k) => [(4, .pointer (some ⟨g2, 0, none⟩)), (5, (.slice none 0 0)), (6, .int .i64 0), (13, v35), (15, .pointer (some ⟨g43, 0, none⟩)), (17, .pointer (some ⟨g49, 0, none⟩)), (18, fx), (19, .int .i64 (k : Int))]) (fun (ox, N, fx, k) => own ObT ox N :: rqA qb (stayL (aliveR l R) reg) P :: own iTy fx (freeL (cycB l R reg pend) ((l39.take k).map Ob.c)) :: blkA g49 #[ox, v47] 44 :: own iTy v47 R :: blkA g43 #[ov37, rv38] 44 :: frz (GrA ov37 rv38 l39 R40) :: own iTy v35 (cycB l R reg pend) :: blkA g2 #[(.slice none 0 0), (.slice none 0 0)] 44 :: F) (fun (ox, N, fx, k) => l39.length - k) (.slice none 0 0, [], (.slice (some ⟨g50, 0, none⟩) 0 0), 0) ⟨Nat.zero_le _, rfl, by simp, Nat.le_refl _⟩ (sub_of rfl ⟨⟨rfl, rfl⟩, ⟨⟨rfl, rfl⟩, ⟨⟨rfl, rfl⟩, ⟨⟨rfl, rfl⟩, ⟨⟨rfl, rfl⟩, ⟨⟨rfl, rfl⟩, ⟨⟨rfl, rfl⟩, ⟨⟨rfl, rfl⟩, trivial⟩⟩⟩⟩⟩⟩⟩⟩) (fun _ h => h.re [0, 0, 0, 0, 0, 0, 0, 0, 0] []) ?_
          rintro ⟨ox, N, fx, k⟩ hi51
          replace hi51 : k ≤ l39.length ∧ N.map Ob.c = lastL (cycB l R reg pend) ((l39.take k).map Ob.c) ∧ (∀ x ∈ N, x ∈ l39) ∧ N.length ≤ k := hi51
          show SK _ _ _ _ _ [(4, .pointer (some ⟨g2, 0, none⟩)), (5, (.slice none 0 0)), (6, .int .i64 0), (13, v35), (15, .pointer (some ⟨g43, 0, none⟩)), (17, .pointer (some ⟨g49, 0, none⟩)), (18, fx), (19, .int .i64 (k : Int))] _ (own ObT ox N :: rqA qb (stayL (aliveR l R) reg) P :: own iTy fx (freeL (cycB l R reg pend) ((l39.take k).map Ob.c)) :: blkA g49 #[ox, v47] 44 :: own iTy v47 R :: blkA g43 #[ov37, rv38] 44 :: frz (GrA ov37 rv38 l39 R40) :: own iTy v35 (cycB l R reg pend) :: blkA g2 #[(.slice none 0 0), (.slice none 0 0)] 44 :: F)
          have hNl := hi51.2.2.2; have hfl := free_len (cycB l R reg pend) ((l39.take k).map Ob.c); rw [List.length_map, List.length_take] at hfl
          refine k_seq ?_
          refine k_seq ?_
          refine k_reg ?_
          refine s_lt (t_pure (.int .i64 (k : Int))) ?_
          refine s_lt (t_pure (.pointer (some ⟨g43, 0, none⟩))) ?_
          refine s_lt (t_load 5 ov37) ?_
          refine s_lt (t_len ObT_ok Try.underlying42 (accF 6)) ?_
          refine s_lt t_cmp ?_
          refine s_nil ?_
          refine xs_then ?_
          refine k_cond (decide ((k : Int) < (l39.length : Int))) (fun c52 => ?_) (fun c52 => ?_)
          ·
            have p53 := of_decide_eq_true c52
            refine k_skip ?_
            refine xs_then ?_
            refine k_seq ?_
            refine k_block ?_
            refine k_seq ?_
            refine k_reg ?_
            refine s_lt (t_pure v35) ?_
            refine s_lt (t_pure (.pointer (some ⟨g43, 0, none⟩))) ?_
            refine s_lt (t_load 5 ov37) ?_
            refine s_lt (t_pure (.int .i64 (k : Int))) ?_
            refine s_lt (t_index ObT_ok Try.underlying42 (accF 6) (k : Int) k (by omega) (by (try simp only [List.length_nil, List.length_cons, List.length_append, List.length_take, List.length_drop, List.length_set, List.length_replicate, List.length_reverse, bits_len]); omega) (by omega)) ?_
            refine s_lt (t_pure (.pointer (some (elemAt ObT.size ov37 k)))) ?_
            obtain ⟨y54, hy55⟩ : ∃ y, l39[k]? = some y := ⟨_, List.getElem?_eq_getElem (by (try simp only [List.length_nil, List.length_cons, List.length_append, List.length_take, List.length_drop, List.length_set, List.length_replicate, List.length_reverse, bits_len]); omega)⟩
            refine s_lt (t_loadF 0 ObT_ok (accF 6) hy55) ?_
            refine s_vcall (fun _ h => rin_s (L := (cycB l R reg pend)) (Acc.kn (.own 7) h) y54.id) ?_
            rintro _ rfl
            refine s_nil ?_
            refine xs_then ?_
            refine k_cond (decide (y54.id ∈ (cycB l R reg pend))) (fun c56 => ?_) (fun c56 => ?_)
            ·
              have p57 := of_decide_eq_true c56
              refine k_draw ?_
              refine s_lt (t_pure (.pointer (some ⟨g49, 0, none⟩))) ?_
              refine s_lt (t_load 3 ox) ?_
              refine s_lt (t_pure (.pointer (some ⟨g43, 0, none⟩))) ?_
              refine s_lt (t_load 5 ov37) ?_
              refine s_lt (t_pure (.int .i64 (k : Int))) ?_
              refine s_lt (t_index ObT_ok Try.underlying42 (accF 6) (k : Int) k (by omega) (by (try simp only [List.length_nil, List.length_cons, List.length_append, List.length_take, List.length_drop, List.length_set, List.length_replicate, List.length_reverse, bits_len]); omega) (by omega)) ?_
              refine s_lt (t_loadE ObT_ok (accF 6) hy55) ?_
              refine s_buildSlice (e := 74) [(0, .agg #[.int .i64 y54.id, .int .i64 y54.size, .int .i64 y54.weak, y54.rv.v, y54.ev.v])] #[.int .i64 y54.id, .int .i64 y54.size, .int .i64 y54.weak, y54.rv.v, y54.ev.v] (fun g58 => ?_) (hb := by kernel_rfl)
              refine s_append (L := N) 1 ObT_ok Try.underlying42 (.lit 0 ObT_ok [y54]) (by show _ * 72 ≤ _; (try simp only [List.length_nil, List.length_cons, List.length_append, List.length_take, List.length_drop, List.length_set, List.length_replicate, List.length_reverse, bits_len]); omega) (by (try simp only [List.length_nil, List.length_cons, List.length_append, List.length_take, List.length_drop, List.length_set, List.length_replicate, List.length_reverse, bits_len]); omega) (fun v59 => ?_)
              refine s_fact (fun H h => ((Acc.own (T := ObT) (L := (N ++ [y54])) 1 rfl) H h).form) (fun hf60 => ?_)
              refine s_lt (t_pure (.pointer (some ⟨g49, 0, none⟩))) ?_
              refine s_store (u := v59) (m := 1) 4 #[v59, v47] ?_ (hm := by (obtain ⟨_, _, e0⟩ := hf60; rw [e0]; rfl)) (h1 := by (obtain ⟨_, _, e0⟩ := hf60; rw [e0]; rfl)) (ha' := by (obtain ⟨_, _, e0⟩ := hf60; rw [e0]; rfl))
              refine s_nil ?_
              refine x_dynS (fun _ h => by kernel_rfl) ?_
              refine xs_block ?_
              refine xs_then ?_
              refine k_reg ?_
              refine s_lt (t_pure (.int .i64 (k : Int))) ?_
              refine s_lt (t_add (k : Int) 1 (by (try simp only [List.length_nil, List.length_cons, List.length_append, List.length_take, List.length_drop, List.length_set, List.length_replicate, List.length_reverse, bits_len]); omega)) ?_
              refine s_lt (t_pure (.int .i64 ((k : Int) + 1))) ?_
              refine s_nil ?_
              rw [free_no hy55 p57]
              exact xs_round (v59, N ++ [y54], fx, k + 1) (by show l39.length - (k + 1) < l39.length - k; omega) (by obtain ⟨hk1, hk2, hk3, hk4⟩ := hi51; exact ⟨by omega, last_yes hy55 p57 hk2, fun x hx => by rcases List.mem_append.1 hx with hx | hx; exact hk3 x hx; simp at hx; subst hx; exact List.mem_of_getElem? hy55, by rw [List.length_append]; simp only [List.length_singleton]; omega⟩) (sub_of rfl ⟨⟨rfl, rfl⟩, ⟨⟨rfl, rfl⟩, ⟨⟨rfl, rfl⟩, ⟨⟨rfl, rfl⟩, ⟨⟨rfl, rfl⟩, ⟨⟨rfl, rfl⟩, ⟨⟨rfl, rfl⟩, ⟨⟨rfl, rfl⟩, trivial⟩⟩⟩⟩⟩⟩⟩⟩) (fun _ h => h.re [1, 1, 1, 1, 1, 1, 1, 1, 1] [9])
            ·
              have p61 := of_decide_eq_false c56
              refine k_reg ?_
              refine s_lt (t_pure fx) ?_
              refine s_lt (t_pure (.pointer (some ⟨g43, 0, none⟩))) ?_
              refine s_lt (t_load 5 ov37) ?_
              refine s_lt (t_pure (.int .i64 (k : Int))) ?_
              refine s_lt (t_index ObT_ok Try.underlying42 (accF 6) (k : Int) k (by omega) (by (try simp only [List.length_nil, List.length_cons, List.length_append, List.length_take, List.length_drop, List.length_set, List.length_replicate, List.length_reverse, bits_len]); omega) (by omega)) ?_
              refine s_lt (t_pure (.pointer (some (elemAt ObT.size ov37 k)))) ?_
              refine s_lt (t_loadF 0 ObT_ok (accF 6) hy55) ?_
              refine s_buildSlice (e := 3) [(0, .int .i64 y54.id)] #[.int .i64 y54.id] (fun g62 => ?_) (hb := by kernel_rfl)
              refine s_append (L := (freeL (cycB l R reg pend) ((l39.take k).map Ob.c))) 3 iTy_ok Try.underlying22 (.lit 0 iTy_ok [y54.id]) (by show _ * 8 ≤ _; (try simp only [List.length_nil, List.length_cons, List.length_append, List.length_take, List.length_drop, List.length_set, List.length_replicate, List.length_reverse, bits_len]); omega) (by (try simp only [List.length_nil, List.length_cons, List.length_append, List.length_take, List.length_drop, List.length_set, List.length_replicate, List.length_reverse, bits_len]); omega) (fun v63 => ?_)
              refine s_fact (fun H h => ((Acc.own (T := iTy) (L := ((freeL (cycB l R reg pend) ((l39.take k).map Ob.c)) ++ [y54.id])) 3 rfl) H h).form) (fun hf64 => ?_)
              refine s_lt (t_pure v63) ?_
              refine s_nil ?_
              refine xs_block ?_
              refine xs_then ?_
              refine k_reg ?_
              refine s_lt (t_pure (.int .i64 (k : Int))) ?_
              refine s_lt (t_add (k : Int) 1 (by (try simp only [List.length_nil, List.length_cons, List.length_append, List.length_take, List.length_drop, List.length_set, List.length_replicate, List.length_reverse, bits_len]); omega)) ?_
              refine s_lt (t_pure (.int .i64 ((k : Int) + 1))) ?_
              refine s_nil ?_
              rw [free_yes hy55 p61]
              exact xs_round (ox, N, v63, k + 1) (by show l39.length - (k + 1) < l39.length - k; omega) (by obtain ⟨hk1, hk2, hk3, hk4⟩ := hi51; exact ⟨by omega, last_no hy55 p61 hk2, hk3, by omega⟩) (sub_of rfl ⟨⟨rfl, rfl⟩, ⟨⟨rfl, rfl⟩, ⟨⟨rfl, rfl⟩, ⟨⟨rfl, rfl⟩, ⟨⟨rfl, rfl⟩, ⟨⟨rfl, rfl⟩, ⟨⟨rfl, rfl⟩, ⟨⟨rfl, rfl⟩, trivial⟩⟩⟩⟩⟩⟩⟩⟩) (fun _ h => h.re [1, 1, 1, 1, 1, 1, 1, 1, 1] [9])
          ·
            have p65 := of_decide_eq_false c52
            refine k_exit ?_
            refine xs_exit ?_
            refine xs_exit ?_
            refine xs_here ?_
            refine xs_then ?_
            refine k_seq ?_
            refine k_reg ?_
            refine s_lt (t_loadA 3 #[ox, v47]) ?_
            refine s_lt (t_pure fx) ?_
            refine s_fact (fun H h => ((Acc.own (T := ObT) (L := N) 0 rfl) H h).form) (fun hf66 => ?_)
            refine s_store (u := .agg #[ox, v47]) (m := 2) 8 #[ox, v47] ?_ (hm := by (obtain ⟨_, _, e0⟩ := hf66; obtain ⟨_, _, e1⟩ := hf48; rw [e0, e1]; rfl)) (h1 := by (obtain ⟨_, _, e0⟩ := hf66; obtain ⟨_, _, e1⟩ := hf48; rw [e0, e1]; rfl)) (ha' := by (obtain ⟨_, _, e0⟩ := hf66; obtain ⟨_, _, e1⟩ := hf48; rw [e0, e1]; rfl))
            refine s_lt (t_pure fx) ?_
            refine s_lt (t_pure (.int .i64 0)) ?_
            refine s_nil ?_
            refine xs_then ?_
            refine k_ret ?_
            obtain ⟨hk1, hk2, hk3, hk4⟩ := hi51
            obtain rfl : k = l39.length := by omega
            rw [List.take_length, hl41] at hk2
            have hff : freeL (cycB l R reg pend) ((l39.take l39.length).map Ob.c) = cycF l R reg pend := by rw [List.take_length]; exact free_cyc hl13 hl41
            rw [hff]
            subst hP
            exact xs_fin [.agg #[ox, v47], fx, .int .i64 0] (rqA qb (cycR l R reg) (cycP l R reg pend) :: frz (GrA ox v47 N R) :: own iTy fx (cycF l R reg pend) :: F) (SI.agg 4 44 8 (SI.tmp 5 (SI.tmp 6 SI.nil))) (fun _ h => (gr_part2 hk3 (h.re [0, 3, 4, 0, 0] [5, 5, 5, 5])).re [1, 0] []) ⟨_, _, _, N, R, by rw [hc]; rfl, by rw [hc]; exact hk2.trans (cycO_of hl13), by rw [hc]; rfl, by rw [hc]; rfl⟩
      ·
        refine s_alloc (.agg #[(.slice none 0 0), (.slice none 0 0)]) #[(.slice none 0 0), (.slice none 0 0)] (fun g67 => ?_)
        refine s_nil (xs_held [2, 3, 4, 4, 4] ?_)
        refine h_stepS 5 ?_
        refine s_mem (fun _ h => Holds.slice 1 h iTy_ok []) ?_
        refine s_append (L := []) 1 iTy_ok Try.underlying22 (accZR 3) (by show _ * 8 ≤ _; (try simp only [List.length_nil, List.length_cons, List.length_append, List.length_take, List.length_drop, List.length_set, List.length_replicate, List.length_reverse, bits_len]); omega) (by (try simp only [List.length_nil, List.length_cons, List.length_append, List.length_take, List.length_drop, List.length_set, List.length_replicate, List.length_reverse, bits_len]); omega) (fun v68 => ?_)
        rw [List.nil_append]
        refine s_fact (fun H h => ((Acc.own (T := iTy) (L := R) 1 rfl) H h).form) (fun hf69 => ?_)
        refine s_nil (xs_held [2, 3, 4, 4, 4] ?_)
        refine h_lt 6 rfl (np_then np_finS) [2, 3, 4, 4, 4] (fun _ => (show Lt _ _ _ _ _ (.agg #[ov10, v68]) from by obtain ⟨_, _, e⟩ := hf15; rw [e]; clear e; obtain ⟨_, _, e⟩ := hf69; rw [e]; clear e; exact t_kern _)) ?_
        refine h_stepS 8 ?_
        refine s_store (u := .agg #[ov10, v68]) (m := 2) 0 #[ov10, v68] ?_ (hm := by (obtain ⟨_, _, e0⟩ := hf15; obtain ⟨_, _, e1⟩ := hf69; rw [e0, e1]; rfl)) (h1 := by (obtain ⟨_, _, e0⟩ := hf15; obtain ⟨_, _, e1⟩ := hf69; rw [e0, e1]; rfl)) (ha' := by (obtain ⟨_, _, e0⟩ := hf15; obtain ⟨_, _, e1⟩ := hf69; rw [e0, e1]; rfl))
        refine s_nil (xs_held [2, 3, 4, 4, 4] ?_)
        refine h_doneS ?_
        refine xs_then ?_
        refine k_seq ?_
        refine k_seq ?_
        refine k_reg ?_
        refine s_lt (t_pure (.int .i64 0)) ?_
        refine s_nil ?_
        refine xs_then ?_
        refine k_block ?_
        refine k_mem (Bs := blkA g67 #[ov10, v68] 44 :: own iTy v68 R :: blkA g14 #[ov10, rv11] 44 :: zfr Z (GrA ov10 rv11 l12 R) :: rqA qb (stayL (aliveR l R) reg) P :: blkA g2 #[(.slice none 0 0), (.slice none 0 0)] 44 :: blkA g1 #[ov, rv] 44 :: F) (fun _ h => h.re [0, 0, 0, 0, 1, 2, 2] [7, 7]) ?_
        have hz0 : R ++ hasL l (P.take 0) = R := List.append_nil R
        refine k_mem (Bs := blkA g67 #[ov10, v68] 44 :: own iTy v68 (R ++ hasL l (P.take 0)) :: blkA g14 #[ov10, rv11] 44 :: zfr Z (GrA ov10 rv11 l12 R) :: rqA qb (stayL (aliveR l R) reg) P :: blkA g2 #[(.slice none 0 0), (.slice none 0 0)] 44 :: blkA g1 #[ov, rv] 44 :: F) (fun _ h => by rw [hz0]; exact h) ?_
        refine k_loop (ι := Value × Nat) (fun (mx, i) => i ≤ P.length) (fun (mx, i) => [(1, .pointer (some ⟨qb, 0, none⟩)), (2, .pointer (some ⟨g1, 0, none⟩)), (4, .pointer (some ⟨g2, 0, none⟩)), (5, (.slice none 0 0)), (6, .int .i64 0), (10, .pointer (some ⟨g14, 0, none⟩)), (11, .pointer (some ⟨g67, 0, none⟩)), (12, .int .i64 (i : Int))]) (fun (mx, i) => blkA g67 #[ov10, mx] 44 :: own iTy mx (R ++ hasL l (P.take i)) :: blkA g14 #[ov10, rv11] 44 :: zfr Z (GrA ov10 rv11 l12 R) :: rqA qb (stayL (aliveR l R) reg) P :: blkA g2 #[(.slice none 0 0), (.slice none 0 0)] 44 :: blkA g1 #[ov, rv] 44 :: F) (fun (mx, i) => P.length - i) (v68, 0) (Nat.zero_le _) (sub_of rfl ⟨⟨rfl, rfl⟩, ⟨⟨rfl, rfl⟩, ⟨⟨rfl, rfl⟩, ⟨⟨rfl, rfl⟩, ⟨⟨rfl, rfl⟩, ⟨⟨rfl, rfl⟩, ⟨⟨rfl, rfl⟩, ⟨⟨rfl, rfl⟩, trivial⟩⟩⟩⟩⟩⟩⟩⟩) (fun _ h => h.re [0, 0, 0, 0, 0, 0, 0] []) ?_
        rintro ⟨mx, i⟩ hi70
        replace hi70 : i ≤ P.length := hi70
        show SK _ _ _ _ _ [(1, .pointer (some ⟨qb, 0, none⟩)), (2, .pointer (some ⟨g1, 0, none⟩)), (4, .pointer (some ⟨g2, 0, none⟩)), (5, (.slice none 0 0)), (6, .int .i64 0), (10, .pointer (some ⟨g14, 0, none⟩)), (11, .pointer (some ⟨g67, 0, none⟩)), (12, .int .i64 (i : Int))] _ (blkA g67 #[ov10, mx] 44 :: own iTy mx (R ++ hasL l (P.take i)) :: blkA g14 #[ov10, rv11] 44 :: zfr Z (GrA ov10 rv11 l12 R) :: rqA qb (stayL (aliveR l R) reg) P :: blkA g2 #[(.slice none 0 0), (.slice none 0 0)] 44 :: blkA g1 #[ov, rv] 44 :: F)
        have hhl := has_len l (P.take i); rw [List.length_take] at hhl
        refine k_seq ?_
        refine k_seq ?_
        refine k_reg ?_
        refine s_lt (t_pure (.int .i64 (i : Int))) ?_
        refine s_lt (t_pure (.pointer (some ⟨qb, 0, none⟩))) ?_
        refine s_lt (t_pure (.pointer (some ⟨qb, 0, none⟩))) ?_
        refine s_lt (t_pure (.pointer (some ⟨qb, 1, none⟩))) ?_
        refine s_mem2 (fun H h => rq_open (h.re [4] [])) (fun rq71 pq72 hw => ?_)
        refine s_lt (t_load 0 pq72) ?_
        refine s_lt (t_len iTy_ok Try.underlying22 (.own 2)) ?_
        refine s_lt t_cmp ?_
        refine s_nil ?_
        refine xs_then ?_
        refine k_cond (decide ((i : Int) < (P.length : Int))) (fun c73 => ?_) (fun c73 => ?_)
        ·
          have p74 := of_decide_eq_true c73
          refine k_skip ?_
          refine xs_then ?_
          refine k_seq ?_
          refine k_block ?_
          refine k_seq ?_
          refine k_draw ?_
          refine s_lt (t_loadA 8 #[ov, rv]) ?_
          refine s_lt (t_pure (.pointer (some ⟨qb, 0, none⟩))) ?_
          refine s_lt (t_pure (.pointer (some ⟨qb, 0, none⟩))) ?_
          refine s_lt (t_pure (.pointer (some ⟨qb, 1, none⟩))) ?_
          refine s_lt (t_load 0 pq72) ?_
          refine s_lt (t_pure (.int .i64 (i : Int))) ?_
          refine s_lt (t_index iTy_ok Try.underlying22 (.own 2) (i : Int) i (by omega) (by (try simp only [List.length_nil, List.length_cons, List.length_append, List.length_take, List.length_drop, List.length_set, List.length_replicate, List.length_reverse, bits_len]); omega) (by omega)) ?_
          obtain ⟨y75, hy76⟩ : ∃ y, P[i]? = some y := ⟨_, List.getElem?_eq_getElem (by (try simp only [List.length_nil, List.length_cons, List.length_append, List.length_take, List.length_drop, List.length_set, List.length_replicate, List.length_reverse, bits_len]); omega)⟩
          refine s_lt (t_loadE iTy_ok (.own 2) hy76) ?_
          refine s_vcall (fun _ h => rhasg_s (hg.up h) y75) ?_
          rintro _ rfl
          refine s_nil ?_
          refine x_dynS (fun _ h => by kernel_rfl) ?_
          refine xs_then ?_
          refine k_cond (decide (y75 ∈ l.map Ob.id)) (fun c77 => ?_) (fun c77 => ?_)
          ·
            have p78 := of_decide_eq_true c77
            refine k_draw ?_
            refine s_lt (t_pure (.pointer (some ⟨g67, 1, none⟩))) ?_
            refine s_lt (t_load 3 mx) ?_
            refine s_lt (t_pure (.pointer (some ⟨qb, 0, none⟩))) ?_
            refine s_lt (t_pure (.pointer (some ⟨qb, 0, none⟩))) ?_
            refine s_lt (t_pure (.pointer (some ⟨qb, 1, none⟩))) ?_
            refine s_lt (t_load 0 pq72) ?_
            refine s_lt (t_pure (.int .i64 (i : Int))) ?_
            refine s_lt (t_index iTy_ok Try.underlying22 (.own 2) (i : Int) i (by omega) (by (try simp only [List.length_nil, List.length_cons, List.length_append, List.length_take, List.length_drop, List.length_set, List.length_replicate, List.length_reverse, bits_len]); omega) (by omega)) ?_
            refine s_lt (t_loadE iTy_ok (.own 2) hy76) ?_
            refine s_buildSlice (e := 3) [(0, .int .i64 y75)] #[.int .i64 y75] (fun g79 => ?_) (hb := by kernel_rfl)
            refine s_append (L := (R ++ hasL l (P.take i))) 5 iTy_ok Try.underlying22 (.lit 0 iTy_ok [y75]) (by show _ * 8 ≤ _; (try simp only [List.length_nil, List.length_cons, List.length_append, List.length_take, List.length_drop, List.length_set, List.length_replicate, List.length_reverse, bits_len]); omega) (by (try simp only [List.length_nil, List.length_cons, List.length_append, List.length_take, List.length_drop, List.length_set, List.length_replicate, List.length_reverse, bits_len]); omega) (fun v80 => ?_)
            refine s_fact (fun H h => ((Acc.own (T := iTy) (L := ((R ++ hasL l (P.take i)) ++ [y75])) 5 rfl) H h).form) (fun hf81 => ?_)
            refine s_lt (t_pure (.pointer (some ⟨g67, 1, none⟩))) ?_
            refine s_store (u := v80) (m := 1) 4 #[ov10, v80] ?_ (hm := by (obtain ⟨_, _, e0⟩ := hf81; rw [e0]; rfl)) (h1 := by (obtain ⟨_, _, e0⟩ := hf81; rw [e0]; rfl)) (ha' := by (obtain ⟨_, _, e0⟩ := hf81; rw [e0]; rfl))
            refine s_nil ?_
            refine x_dynS (fun _ h => by kernel_rfl) ?_
            refine xs_block ?_
            refine xs_then ?_
            refine k_reg ?_
            refine s_lt (t_pure (.int .i64 (i : Int))) ?_
            refine s_lt (t_add (i : Int) 1 (by (try simp only [List.length_nil, List.length_cons, List.length_append, List.length_take, List.length_drop, List.length_set, List.length_replicate, List.length_reverse, bits_len]); omega)) ?_
            refine s_lt (t_pure (.int .i64 ((i : Int) + 1))) ?_
            refine s_nil ?_
            refine xs_mem (fun _ h => rq_shut (h.re [1, 1, 1] [])) ?_
            rw [List.append_assoc, has_yes (l := l) hy76 p78]
            exact xs_round (v80, i + 1) (by show P.length - (i + 1) < P.length - i; omega) (by show i + 1 ≤ P.length; omega) (sub_of rfl ⟨⟨rfl, rfl⟩, ⟨⟨rfl, rfl⟩, ⟨⟨rfl, rfl⟩, ⟨⟨rfl, rfl⟩, ⟨⟨rfl, rfl⟩, ⟨⟨rfl, rfl⟩, ⟨⟨rfl, rfl⟩, ⟨⟨rfl, rfl⟩, trivial⟩⟩⟩⟩⟩⟩⟩⟩) (fun _ h => h.re [2, 2, 2, 2, 0, 1, 1] [7])
          ·
            have p82 := of_decide_eq_false c77
            refine k_skip ?_
            refine xs_block ?_
            refine xs_then ?_
            refine k_reg ?_
            refine s_lt (t_pure (.int .i64 (i : Int))) ?_
            refine s_lt (t_add (i : Int) 1 (by (try simp only [List.length_nil, List.length_cons, List.length_append, List.length_take, List.length_drop, List.length_set, List.length_replicate, List.length_reverse, bits_len]); omega)) ?_
            refine s_lt (t_pure (.int .i64 ((i : Int) + 1))) ?_
            refine s_nil ?_
            refine xs_mem (fun _ h => rq_shut (h.re [0, 0, 0] [])) ?_
            rw [has_no (l := l) hy76 p82]
            exact xs_round (mx, i + 1) (by show P.length - (i + 1) < P.length - i; omega) (by show i + 1 ≤ P.length; omega) (sub_of rfl ⟨⟨rfl, rfl⟩, ⟨⟨rfl, rfl⟩, ⟨⟨rfl, rfl⟩, ⟨⟨rfl, rfl⟩, ⟨⟨rfl, rfl⟩, ⟨⟨rfl, rfl⟩, ⟨⟨rfl, rfl⟩, ⟨⟨rfl, rfl⟩, trivial⟩⟩⟩⟩⟩⟩⟩⟩) (fun _ h => h.re [1, 1, 1, 1, 0, 0, 0] [])
        ·
          have p83 := of_decide_eq_false c73
          refine k_exit ?_
          rw [List.take_of_length_le (show P.length ≤ i by omega)]
          have hhl := has_len l P
          refine xs_exit ?_
          refine xs_exit ?_
          refine xs_here ?_
          refine xs_then ?_
          refine k_seq ?_
          refine k_reg ?_
          refine s_lt (t_loadA 3 #[ov10, mx]) ?_
          have hu1 := unv_len hl13; have hu2 := unv_small hl13 hsm; have hu3 := pot_le l12 hu2 []
          refine s_pcall (fun _ h => rAlive_s (gr_more (h.zfrF 6) (h.knS 4)) (by omega) (by omega) hu2 (by rw [List.length_append]; omega)) ?_
          rintro _ _ ⟨v84, rfl, rfl⟩
          refine s_fact (fun H h => ((Acc.own (T := iTy) (L := (aliveR l12 (R ++ hasL l P))) 0 rfl) H h).form) (fun hf85 => ?_)
          have hbb : (aliveR l12 (R ++ hasL l P)) = cycB l R reg pend := by rw [has_alive hl13, hP]; exact cycB_of hl13
          rw [hbb]
          have hbl := cycB_len l R reg pend
          refine s_lt (t_pure (.tuple #[v84, .int .i64 (errI (chk 0 l12))])) ?_
          refine s_lt (t_pure v84) ?_
          refine s_lt (t_pure (.int .i64 (errI (chk 0 l12)))) ?_
          refine s_lt (t_pure v84) ?_
          refine s_lt (t_pure (.int .i64 (errI (chk 0 l12)))) ?_
          refine s_nil ?_
          refine xs_then ?_
          refine k_seq ?_
          refine k_reg ?_
          refine s_lt (t_loadA 6 #[ov10, rv11]) ?_
          refine s_lt (t_pure v84) ?_
          refine s_pcall (fun _ h => rClear_s (GrA.kn (h.zfrF 7)) (Acc.kn (.own 0) h) (by have := cycB_len l R reg pend; omega) (by omega) (by omega) hu2) ?_
          rintro _ _ ⟨ov86, rv87, l88, R89, rfl, hl90, hR91, rfl⟩
          refine s_lt (t_pure (.tuple #[.agg #[ov86, rv87], .int .i64 (errI (chk 0 l12 && ascA 0 (cycB l R reg pend)))])) ?_
          refine s_lt (t_pure (.agg #[ov86, rv87])) ?_
          refine s_lt (t_pure (.int .i64 (errI (chk 0 l12 && ascA 0 (cycB l R reg pend))))) ?_
          refine s_alloc (.agg #[(.slice none 0 0), (.slice none 0 0)]) #[(.slice none 0 0), (.slice none 0 0)] (fun g92 => ?_)
          refine s_fact (fun H h => ((show Acc _ _ ObT _ _ from (accF 1)) H h).form) (fun hf93 => ?_)
          refine s_fact (fun H h => ((show Acc _ _ iTy _ _ from (accR 1)) H h).form) (fun hf94 => ?_)
          refine s_store (u := .agg #[ov86, rv87]) (m := 2) 0 #[ov86, rv87] ?_ (hm := by (obtain ⟨_, _, e0⟩ := hf93; obtain ⟨_, _, e1⟩ := hf94; rw [e0, e1]; rfl)) (h1 := by (obtain ⟨_, _, e0⟩ := hf93; obtain ⟨_, _, e1⟩ := hf94; rw [e0, e1]; rfl)) (ha' := by (obtain ⟨_, _, e0⟩ := hf93; obtain ⟨_, _, e1⟩ := hf94; rw [e0, e1]; rfl))
          refine s_lt (t_pure (.int .i64 (errI (chk 0 l12 && ascA 0 (cycB l R reg pend))))) ?_
          refine s_nil ?_
          refine xs_then ?_
          refine k_seq ?_
          refine k_reg ?_
          refine s_buildSlice (e := 3) [] #[] (fun g95 => ?_) (hb := by kernel_rfl)
          refine s_lt (t_pure (.pointer (some ⟨g1, 1, none⟩))) ?_
          refine s_lt (t_load 12 rv) ?_
          refine s_mem (fun _ h => Holds.slice 0 h iTy_ok []) ?_
          refine s_append (L := []) 0 iTy_ok Try.underlying22 (.zn hg.roots) (by show _ * 8 ≤ _; (try simp only [List.length_nil, List.length_cons, List.length_append, List.length_take, List.length_drop, List.length_set, List.length_replicate, List.length_reverse, bits_len]); omega) (by (try simp only [List.length_nil, List.length_cons, List.length_append, List.length_take, List.length_drop, List.length_set, List.length_replicate, List.length_reverse, bits_len]); omega) (fun v96 => ?_)
          rw [List.nil_append]
          refine s_fact (fun H h => ((Acc.own (T := iTy) (L := R) 0 rfl) H h).form) (fun hf97 => ?_)
          refine s_lt (show Lt _ _ _ _ _ (.agg #[(.slice none 0 0), v96]) from by obtain ⟨_, _, e⟩ := hf97; rw [e]; clear e; exact t_kern _) ?_
          refine s_alloc (.agg #[(.slice none 0 0), (.slice none 0 0)]) #[(.slice none 0 0), (.slice none 0 0)] (fun g98 => ?_)
          refine s_store (u := .agg #[(.slice none 0 0), v96]) (m := 2) 0 #[(.slice none 0 0), v96] ?_ (hm := by (obtain ⟨_, _, e0⟩ := hf97; rw [e0]; rfl)) (h1 := by (obtain ⟨_, _, e0⟩ := hf97; rw [e0]; rfl)) (ha' := by (obtain ⟨_, _, e0⟩ := hf97; rw [e0]; rfl))
          refine s_nil ?_
          refine xs_then ?_
          refine k_seq ?_
          refine k_reg ?_
          refine s_buildSlice (e := 3) [] #[] (fun g99 => ?_) (hb := by kernel_rfl)
          refine s_lt (t_pure (.slice (some ⟨g99, 0, none⟩) 0 0)) ?_
          refine s_nil ?_
          refine xs_then ?_
          refine k_seq ?_
          refine k_seq ?_
          refine k_reg ?_
          refine s_lt (t_pure (.int .i64 0)) ?_
          refine s_nil ?_
          refine xs_then ?_
          refine k_block ?_
          refine k_mem (fun _ h => rq_shut (h.re [6, 6, 6] [])) ?_
          refine k_mem (Bs := rqA qb (stayL (aliveR l R) reg) P :: blkA g99 #[] 3 :: blkA g98 #[(.slice none 0 0), v96] 44 :: own iTy v96 R :: blkA g92 #[ov86, rv87] 44 :: frz (GrA ov86 rv87 l88 R89) :: own iTy v84 (cycB l R reg pend) :: blkA g2 #[(.slice none 0 0), (.slice none 0 0)] 44 :: F) (fun _ h => h.re [0, 0, 0, 0, 0, 0, 0, 4] [8, 8, 8, 8, 8]) ?_
          have hok : (chk 0 l12 && ascA 0 (cycB l R reg pend)) = true := by rw [unv_chk hl13, hc, cycB_asc R reg pend hc]; rfl
          rw [hok, if_pos rfl] at hl90 hR91; have hlen := len_of_map hl90; have hu1b := unv_len hl13
          refine k_mem (fun _ h => Holds.slice 1 h iTy_ok []) ?_
          refine k_mem (Bs := rqA qb (stayL (aliveR l R) reg) P :: own iTy (.slice (some ⟨g99, 0, none⟩) 0 0) (freeL (cycB l R reg pend) ((l88.take 0).map Ob.c)) :: blkA g98 #[(.slice none 0 0), v96] 44 :: own iTy v96 R :: blkA g92 #[ov86, rv87] 44 :: frz (GrA ov86 rv87 l88 R89) :: own iTy v84 (cycB l R reg pend) :: blkA g2 #[(.slice none 0 0), (.slice none 0 0)] 44 :: F) (fun _ h => h) ?_
          refine k_mem (fun _ h => Holds.nilS (T := ObT) h) ?_
          refine k_loop (ι := Value × List Ob × Value × Nat) (fun (ox, N, fx, k) => k ≤ l88.length ∧ N.map Ob.c = lastL (cycB l R reg pend) ((l88.take k).map Ob.c) ∧ (∀ x ∈ N, x ∈ l88) ∧ N.length ≤ k) (fun (ox, N, fx, k) => [(4, .pointer (some ⟨g2, 0, none⟩)), (5, (.slice none 0 0)), (6, .int .i64 0), (13, v84), (15, .pointer (some ⟨g92, 0, none⟩)), (17, .pointer (some ⟨g98, 0, none⟩)), (18, fx), (19, .int .i64 (k : Int))]) (fun (ox, N, fx, k) => own ObT ox N :: rqA qb (stayL (aliveR l R) reg) P :: own iTy fx (freeL (cycB l R reg pend) ((l88.take k).map Ob.c)) :: blkA g98 #[ox, v96] 44 :: own iTy v96 R :: blkA g92 #[ov86, rv87] 44 :: frz (GrA ov86 rv87 l88 R89) :: own iTy v84 (cycB l R reg pend) :: blkA g2 #[(.slice none 0 0), (.slice none 0 0)] 44 :: F) (fun (ox, N, fx, k) => l88.length - k) (.slice none 0 0, [], (.slice (some ⟨g99, 0, none⟩) 0 0), 0) ⟨Nat.zero_le _, rfl, by simp, Nat.le_refl _⟩ (sub_of rfl ⟨⟨rfl, rfl⟩, ⟨⟨rfl, rfl⟩, ⟨⟨rfl, rfl⟩, ⟨⟨rfl, rfl⟩, ⟨⟨rfl, rfl⟩, ⟨⟨rfl, rfl⟩, ⟨⟨rfl, rfl⟩, ⟨⟨rfl, rfl⟩, trivial⟩⟩⟩⟩⟩⟩⟩⟩) (fun _ h => h.re [0, 0, 0, 0, 0, 0, 0, 0, 0] []) ?_
          rintro ⟨ox, N, fx, k⟩ hi100
          replace hi100 : k ≤ l88.length ∧ N.map Ob.c = lastL (cycB l R reg pend) ((l88.take k).map Ob.c) ∧ (∀ x ∈ N, x ∈ l88) ∧ N.length ≤ k := hi100
          show SK _ _ _ _ _ [(4, .pointer (some ⟨g2, 0, none⟩)), (5, (.slice none 0 0)), (6, .int .i64 0), (13, v84), (15, .pointer (some ⟨g92, 0, none⟩)), (17, .pointer (some ⟨g98, 0, none⟩)), (18, fx), (19, .int .i64 (k : Int))] _ (own ObT ox N :: rqA qb (stayL (aliveR l R) reg) P :: own iTy fx (freeL (cycB l R reg pend) ((l88.take k).map Ob.c)) :: blkA g98 #[ox, v96] 44 :: own iTy v96 R :: blkA g92 #[ov86, rv87] 44 :: frz (GrA ov86 rv87 l88 R89) :: own iTy v84 (cycB l R reg pend) :: blkA g2 #[(.slice none 0 0), (.slice none 0 0)] 44 :: F)
          have hNl := hi100.2.2.2; have hfl := free_len (cycB l R reg pend) ((l88.take k).map Ob.c); rw [List.length_map, List.length_take] at hfl
          refine k_seq ?_
          refine k_seq ?_
          refine k_reg ?_
          refine s_lt (t_pure (.int .i64 (k : Int))) ?_
          refine s_lt (t_pure (.pointer (some ⟨g92, 0, none⟩))) ?_
          refine s_lt (t_load 5 ov86) ?_
          refine s_lt (t_len ObT_ok Try.underlying42 (accF 6)) ?_
          refine s_lt t_cmp ?_
          refine s_nil ?_
          refine xs_then ?_
          refine k_cond (decide ((k : Int) < (l88.length : Int))) (fun c101 => ?_) (fun c101 => ?_)
          ·
            have p102 := of_decide_eq_true c101
            refine k_skip ?_
            refine xs_then ?_
            refine k_seq ?_
            refine k_block ?_
            refine k_seq ?_
            refine k_reg ?_
            refine s_lt (t_pure v84) ?_
            refine s_lt (t_pure (.pointer (some ⟨g92, 0, none⟩))) ?_
            refine s_lt (t_load 5 ov86) ?_
            refine s_lt (t_pure (.int .i64 (k : Int))) ?_
            refine s_lt (t_index ObT_ok Try.underlying42 (accF 6) (k : Int) k (by omega) (by (try simp only [List.length_nil, List.length_cons, List.length_append, List.length_take, List.length_drop, List.length_set, List.length_replicate, List.length_reverse, bits_len]); omega) (by omega)) ?_
            refine s_lt (t_pure (.pointer (some (elemAt ObT.size ov86 k)))) ?_
            obtain ⟨y103, hy104⟩ : ∃ y, l88[k]? = some y := ⟨_, List.getElem?_eq_getElem (by (try simp only [List.length_nil, List.length_cons, List.length_append, List.length_take, List.length_drop, List.length_set, List.length_replicate, List.length_reverse, bits_len]); omega)⟩
            refine s_lt (t_loadF 0 ObT_ok (accF 6) hy104) ?_
            refine s_vcall (fun _ h => rin_s (L := (cycB l R reg pend)) (Acc.kn (.own 7) h) y103.id) ?_
            rintro _ rfl
            refine s_nil ?_
            refine xs_then ?_
            refine k_cond (decide (y103.id ∈ (cycB l R reg pend))) (fun c105 => ?_) (fun c105 => ?_)
            ·
              have p106 := of_decide_eq_true c105
              refine k_draw ?_
              refine s_lt (t_pure (.pointer (some ⟨g98, 0, none⟩))) ?_
              refine s_lt (t_load 3 ox) ?_
              refine s_lt (t_pure (.pointer (some ⟨g92, 0, none⟩))) ?_
              refine s_lt (t_load 5 ov86) ?_
              refine s_lt (t_pure (.int .i64 (k : Int))) ?_
              refine s_lt (t_index ObT_ok Try.underlying42 (accF 6) (k : Int) k (by omega) (by (try simp only [List.length_nil, List.length_cons, List.length_append, List.length_take, List.length_drop, List.length_set, List.length_replicate, List.length_reverse, bits_len]); omega) (by omega)) ?_
              refine s_lt (t_loadE ObT_ok (accF 6) hy104) ?_
              refine s_buildSlice (e := 74) [(0, .agg #[.int .i64 y103.id, .int .i64 y103.size, .int .i64 y103.weak, y103.rv.v, y103.ev.v])] #[.int .i64 y103.id, .int .i64 y103.size, .int .i64 y103.weak, y103.rv.v, y103.ev.v] (fun g107 => ?_) (hb := by kernel_rfl)
              refine s_append (L := N) 1 ObT_ok Try.underlying42 (.lit 0 ObT_ok [y103]) (by show _ * 72 ≤ _; (try simp only [List.length_nil, List.length_cons, List.length_append, List.length_take, List.length_drop, List.length_set, List.length_replicate, List.length_reverse, bits_len]); omega) (by (try simp only [List.length_nil, List.length_cons, List.length_append, List.length_take, List.length_drop, List.length_set, List.length_replicate, List.length_reverse, bits_len]); omega) (fun v108 => ?_)
              refine s_fact (fun H h => ((Acc.own (T := ObT) (L := (N ++ [y103])) 1 rfl) H h).form) (fun hf109 => ?_)
              refine s_lt (t_pure (.pointer (some ⟨g98, 0, none⟩))) ?_
              refine s_store (u := v108) (m := 1) 4 #[v108, v96] ?_ (hm := by (obtain ⟨_, _, e0⟩ := hf109; rw [e0]; rfl)) (h1 := by (obtain ⟨_, _, e0⟩ := hf109; rw [e0]; rfl)) (ha' := by (obtain ⟨_, _, e0⟩ := hf109; rw [e0]; rfl))
              refine s_nil ?_
              refine x_dynS (fun _ h => by kernel_rfl) ?_
              refine xs_block ?_
              refine xs_then ?_
              refine k_reg ?_
              refine s_lt (t_pure (.int .i64 (k : Int))) ?_
              refine s_lt (t_add (k : Int) 1 (by (try simp only [List.length_nil, List.length_cons, List.length_append, List.length_take, List.length_drop, List.length_set, List.length_replicate, List.length_reverse, bits_len]); omega)) ?_
              refine s_lt (t_pure (.int .i64 ((k : Int) + 1))) ?_
              refine s_nil ?_
              rw [free_no hy104 p106]
              exact xs_round (v108, N ++ [y103], fx, k + 1) (by show l88.length - (k + 1) < l88.length - k; omega) (by obtain ⟨hk1, hk2, hk3, hk4⟩ := hi100; exact ⟨by omega, last_yes hy104 p106 hk2, fun x hx => by rcases List.mem_append.1 hx with hx | hx; exact hk3 x hx; simp at hx; subst hx; exact List.mem_of_getElem? hy104, by rw [List.length_append]; simp only [List.length_singleton]; omega⟩) (sub_of rfl ⟨⟨rfl, rfl⟩, ⟨⟨rfl, rfl⟩, ⟨⟨rfl, rfl⟩, ⟨⟨rfl, rfl⟩, ⟨⟨rfl, rfl⟩, ⟨⟨rfl, rfl⟩, ⟨⟨rfl, rfl⟩, ⟨⟨rfl, rfl⟩, trivial⟩⟩⟩⟩⟩⟩⟩⟩) (fun _ h => h.re [1, 1, 1, 1, 1, 1, 1, 1, 1] [9])
            ·
              have p110 := of_decide_eq_false c105
              refine k_reg ?_
              refine s_lt (t_pure fx) ?_
              refine s_lt (t_pure (.pointer (some ⟨g92, 0, none⟩))) ?_
              refine s_lt (t_load 5 ov86) ?_
              refine s_lt (t_pure (.int .i64 (k : Int))) ?_
              refine s_lt (t_index ObT_ok Try.underlying42 (accF 6) (k : Int) k (by omega) (by (try simp only [List.length_nil, List.length_cons, List.length_append, List.length_take, List.length_drop, List.length_set, List.length_replicate, List.length_reverse, bits_len]); omega) (by omega)) ?_
              refine s_lt (t_pure (.pointer (some (elemAt ObT.size ov86 k)))) ?_
              refine s_lt (t_loadF 0 ObT_ok (accF 6) hy104) ?_
              refine s_buildSlice (e := 3) [(0, .int .i64 y103.id)] #[.int .i64 y103.id] (fun g111 => ?_) (hb := by kernel_rfl)
              refine s_append (L := (freeL (cycB l R reg pend) ((l88.take k).map Ob.c))) 3 iTy_ok Try.underlying22 (.lit 0 iTy_ok [y103.id]) (by show _ * 8 ≤ _; (try simp only [List.length_nil, List.length_cons, List.length_append, List.length_take, List.length_drop, List.length_set, List.length_replicate, List.length_reverse, bits_len]); omega) (by (try simp only [List.length_nil, List.length_cons, List.length_append, List.length_take, List.length_drop, List.length_set, List.length_replicate, List.length_reverse, bits_len]); omega) (fun v112 => ?_)
              refine s_fact (fun H h => ((Acc.own (T := iTy) (L := ((freeL (cycB l R reg pend) ((l88.take k).map Ob.c)) ++ [y103.id])) 3 rfl) H h).form) (fun hf113 => ?_)
              refine s_lt (t_pure v112) ?_
              refine s_nil ?_
              refine xs_block ?_
              refine xs_then ?_
              refine k_reg ?_
              refine s_lt (t_pure (.int .i64 (k : Int))) ?_
              refine s_lt (t_add (k : Int) 1 (by (try simp only [List.length_nil, List.length_cons, List.length_append, List.length_take, List.length_drop, List.length_set, List.length_replicate, List.length_reverse, bits_len]); omega)) ?_
              refine s_lt (t_pure (.int .i64 ((k : Int) + 1))) ?_
              refine s_nil ?_
              rw [free_yes hy104 p110]
              exact xs_round (ox, N, v112, k + 1) (by show l88.length - (k + 1) < l88.length - k; omega) (by obtain ⟨hk1, hk2, hk3, hk4⟩ := hi100; exact ⟨by omega, last_no hy104 p110 hk2, hk3, by omega⟩) (sub_of rfl ⟨⟨rfl, rfl⟩, ⟨⟨rfl, rfl⟩, ⟨⟨rfl, rfl⟩, ⟨⟨rfl, rfl⟩, ⟨⟨rfl, rfl⟩, ⟨⟨rfl, rfl⟩, ⟨⟨rfl, rfl⟩, ⟨⟨rfl, rfl⟩, trivial⟩⟩⟩⟩⟩⟩⟩⟩) (fun _ h => h.re [1, 1, 1, 1, 1, 1, 1, 1, 1] [9])
          ·
            have p114 := of_decide_eq_false c101
            refine k_exit ?_
            refine xs_exit ?_
            refine xs_exit ?_
            refine xs_here ?_
            refine xs_then ?_
            refine k_seq ?_
            refine k_reg ?_
            refine s_lt (t_loadA 3 #[ox, v96]) ?_
            refine s_lt (t_pure fx) ?_
            refine s_fact (fun H h => ((Acc.own (T := ObT) (L := N) 0 rfl) H h).form) (fun hf115 => ?_)
            refine s_store (u := .agg #[ox, v96]) (m := 2) 8 #[ox, v96] ?_ (hm := by (obtain ⟨_, _, e0⟩ := hf115; obtain ⟨_, _, e1⟩ := hf97; rw [e0, e1]; rfl)) (h1 := by (obtain ⟨_, _, e0⟩ := hf115; obtain ⟨_, _, e1⟩ := hf97; rw [e0, e1]; rfl)) (ha' := by (obtain ⟨_, _, e0⟩ := hf115; obtain ⟨_, _, e1⟩ := hf97; rw [e0, e1]; rfl))
            refine s_lt (t_pure fx) ?_
            refine s_lt (t_pure (.int .i64 0)) ?_
            refine s_nil ?_
            refine xs_then ?_
            refine k_ret ?_
            obtain ⟨hk1, hk2, hk3, hk4⟩ := hi100
            obtain rfl : k = l88.length := by omega
            rw [List.take_length, hl90] at hk2
            have hff : freeL (cycB l R reg pend) ((l88.take l88.length).map Ob.c) = cycF l R reg pend := by rw [List.take_length]; exact free_cyc hl13 hl90
            rw [hff]
            subst hP
            exact xs_fin [.agg #[ox, v96], fx, .int .i64 0] (rqA qb (cycR l R reg) (cycP l R reg pend) :: frz (GrA ox v96 N R) :: own iTy fx (cycF l R reg pend) :: F) (SI.agg 4 44 8 (SI.tmp 5 (SI.tmp 6 SI.nil))) (fun _ h => (gr_part2 hk3 (h.re [0, 3, 4, 0, 0] [5, 5, 5, 5])).re [1, 0] []) ⟨_, _, _, N, R, by rw [hc]; rfl, by rw [hc]; exact hk2.trans (cycO_of hl13), by rw [hc]; rfl, by rw [hc]; rfl⟩
    ·
      refine s_alloc (.agg #[(.slice none 0 0), (.slice none 0 0)]) #[(.slice none 0 0), (.slice none 0 0)] (fun g116 => ?_)
      refine s_nil (xs_held [1, 2, 3, 3, 3] ?_)
      refine h_stepS 2 ?_
      refine s_buildSlice (e := 3) [] #[] (fun g117 => ?_) (hb := by kernel_rfl)
      refine s_nil (xs_held [2, 3, 4, 4, 4] ?_)
      refine h_stepS 5 ?_
      refine s_mem (fun _ h => Holds.slice 0 h iTy_ok []) ?_
      refine s_append (L := []) 0 iTy_ok Try.underlying22 (accZR 3) (by show _ * 8 ≤ _; (try simp only [List.length_nil, List.length_cons, List.length_append, List.length_take, List.length_drop, List.length_set, List.length_replicate, List.length_reverse, bits_len]); omega) (by (try simp only [List.length_nil, List.length_cons, List.length_append, List.length_take, List.length_drop, List.length_set, List.length_replicate, List.length_reverse, bits_len]); omega) (fun v118 => ?_)
      rw [List.nil_append]
      refine s_fact (fun H h => ((Acc.own (T := iTy) (L := R) 0 rfl) H h).form) (fun hf119 => ?_)
      refine s_nil (xs_held [2, 3, 4, 4, 4] ?_)
      refine h_lt 6 rfl (np_then np_finS) [2, 3, 4, 4, 4] (fun _ => (show Lt _ _ _ _ _ (.agg #[ov10, v118]) from by obtain ⟨_, _, e⟩ := hf15; rw [e]; clear e; obtain ⟨_, _, e⟩ := hf119; rw [e]; clear e; exact t_kern _)) ?_
      refine h_stepS 8 ?_
      refine s_store (u := .agg #[ov10, v118]) (m := 2) 1 #[ov10, v118] ?_ (hm := by (obtain ⟨_, _, e0⟩ := hf15; obtain ⟨_, _, e1⟩ := hf119; rw [e0, e1]; rfl)) (h1 := by (obtain ⟨_, _, e0⟩ := hf15; obtain ⟨_, _, e1⟩ := hf119; rw [e0, e1]; rfl)) (ha' := by (obtain ⟨_, _, e0⟩ := hf15; obtain ⟨_, _, e1⟩ := hf119; rw [e0, e1]; rfl))
      refine s_nil (xs_held [2, 3, 4, 4, 4] ?_)
      refine h_doneS ?_
      refine xs_then ?_
      refine k_seq ?_
      refine k_seq ?_
      refine k_reg ?_
      refine s_lt (t_pure (.int .i64 0)) ?_
      refine s_nil ?_
      refine xs_then ?_
      refine k_block ?_
      refine k_mem (Bs := own iTy v118 R :: blkA g116 #[ov10, v118] 44 :: blkA g14 #[ov10, rv11] 44 :: zfr Z (GrA ov10 rv11 l12 R) :: rqA qb (stayL (aliveR l R) reg) P :: blkA g2 #[(.slice none 0 0), (.slice none 0 0)] 44 :: blkA g1 #[ov, rv] 44 :: F) (fun _ h => h.re [0, 0, 0, 0, 1, 2, 2] [7, 7]) ?_
      have hz0 : R ++ hasL l (P.take 0) = R := List.append_nil R
      refine k_mem (Bs := own iTy v118 (R ++ hasL l (P.take 0)) :: blkA g116 #[ov10, v118] 44 :: blkA g14 #[ov10, rv11] 44 :: zfr Z (GrA ov10 rv11 l12 R) :: rqA qb (stayL (aliveR l R) reg) P :: blkA g2 #[(.slice none 0 0), (.slice none 0 0)] 44 :: blkA g1 #[ov, rv] 44 :: F) (fun _ h => by rw [hz0]; exact h) ?_
      refine k_loop (ι := Value × Nat) (fun (mx, i) => i ≤ P.length) (fun (mx, i) => [(1, .pointer (some ⟨qb, 0, none⟩)), (2, .pointer (some ⟨g1, 0, none⟩)), (4, .pointer (some ⟨g2, 0, none⟩)), (5, (.slice none 0 0)), (6, .int .i64 0), (10, .pointer (some ⟨g14, 0, none⟩)), (11, .pointer (some ⟨g116, 0, none⟩)), (12, .int .i64 (i : Int))]) (fun (mx, i) => own iTy mx (R ++ hasL l (P.take i)) :: blkA g116 #[ov10, mx] 44 :: blkA g14 #[ov10, rv11] 44 :: zfr Z (GrA ov10 rv11 l12 R) :: rqA qb (stayL (aliveR l R) reg) P :: blkA g2 #[(.slice none 0 0), (.slice none 0 0)] 44 :: blkA g1 #[ov, rv] 44 :: F) (fun (mx, i) => P.length - i) (v118, 0) (Nat.zero_le _) (sub_of rfl ⟨⟨rfl, rfl⟩, ⟨⟨rfl, rfl⟩, ⟨⟨rfl, rfl⟩, ⟨⟨rfl, rfl⟩, ⟨⟨rfl, rfl⟩, ⟨⟨rfl, rfl⟩, ⟨⟨rfl, rfl⟩, ⟨⟨rfl, rfl⟩, trivial⟩⟩⟩⟩⟩⟩⟩⟩) (fun _ h => h.re [0, 0, 0, 0, 0, 0, 0] []) ?_
      rintro ⟨mx, i⟩ hi120
      replace hi120 : i ≤ P.length := hi120
      show SK _ _ _ _ _ [(1, .pointer (some ⟨qb, 0, none⟩)), (2, .pointer (some ⟨g1, 0, none⟩)), (4, .pointer (some ⟨g2, 0, none⟩)), (5, (.slice none 0 0)), (6, .int .i64 0), (10, .pointer (some ⟨g14, 0, none⟩)), (11, .pointer (some ⟨g116, 0, none⟩)), (12, .int .i64 (i : Int))] _ (own iTy mx (R ++ hasL l (P.take i)) :: blkA g116 #[ov10, mx] 44 :: blkA g14 #[ov10, rv11] 44 :: zfr Z (GrA ov10 rv11 l12 R) :: rqA qb (stayL (aliveR l R) reg) P :: blkA g2 #[(.slice none 0 0), (.slice none 0 0)] 44 :: blkA g1 #[ov, rv] 44 :: F)
      have hhl := has_len l (P.take i); rw [List.length_take] at hhl
      refine k_seq ?_
      refine k_seq ?_
      refine k_reg ?_
      refine s_lt (t_pure (.int .i64 (i : Int))) ?_
      refine s_lt (t_pure (.pointer (some ⟨qb, 0, none⟩))) ?_
      refine s_lt (t_pure (.pointer (some ⟨qb, 0, none⟩))) ?_
      refine s_lt (t_pure (.pointer (some ⟨qb, 1, none⟩))) ?_
      refine s_mem2 (fun H h => rq_open (h.re [4] [])) (fun rq121 pq122 hw => ?_)
      refine s_lt (t_load 0 pq122) ?_
      refine s_lt (t_len iTy_ok Try.underlying22 (.own 2)) ?_
      refine s_lt t_cmp ?_
      refine s_nil ?_
      refine xs_then ?_
      refine k_cond (decide ((i : Int) < (P.length : Int))) (fun c123 => ?_) (fun c123 => ?_)
      ·
        have p124 := of_decide_eq_true c123
        refine k_skip ?_
        refine xs_then ?_
        refine k_seq ?_
        refine k_block ?_
        refine k_seq ?_
        refine k_draw ?_
        refine s_lt (t_loadA 8 #[ov, rv]) ?_
        refine s_lt (t_pure (.pointer (some ⟨qb, 0, none⟩))) ?_
        refine s_lt (t_pure (.pointer (some ⟨qb, 0, none⟩))) ?_
        refine s_lt (t_pure (.pointer (some ⟨qb, 1, none⟩))) ?_
        refine s_lt (t_load 0 pq122) ?_
        refine s_lt (t_pure (.int .i64 (i : Int))) ?_
        refine s_lt (t_index iTy_ok Try.underlying22 (.own 2) (i : Int) i (by omega) (by (try simp only [List.length_nil, List.length_cons, List.length_append, List.length_take, List.length_drop, List.length_set, List.length_replicate, List.length_reverse, bits_len]); omega) (by omega)) ?_
        obtain ⟨y125, hy126⟩ : ∃ y, P[i]? = some y := ⟨_, List.getElem?_eq_getElem (by (try simp only [List.length_nil, List.length_cons, List.length_append, List.length_take, List.length_drop, List.length_set, List.length_replicate, List.length_reverse, bits_len]); omega)⟩
        refine s_lt (t_loadE iTy_ok (.own 2) hy126) ?_
        refine s_vcall (fun _ h => rhasg_s (hg.up h) y125) ?_
        rintro _ rfl
        refine s_nil ?_
        refine x_dynS (fun _ h => by kernel_rfl) ?_
        refine xs_then ?_
        refine k_cond (decide (y125 ∈ l.map Ob.id)) (fun c127 => ?_) (fun c127 => ?_)
        ·
          have p128 := of_decide_eq_true c127
          refine k_draw ?_
          refine s_lt (t_pure (.pointer (some ⟨g116, 1, none⟩))) ?_
          refine s_lt (t_load 4 mx) ?_
          refine s_lt (t_pure (.pointer (some ⟨qb, 0, none⟩))) ?_
          refine s_lt (t_pure (.pointer (some ⟨qb, 0, none⟩))) ?_
          refine s_lt (t_pure (.pointer (some ⟨qb, 1, none⟩))) ?_
          refine s_lt (t_load 0 pq122) ?_
          refine s_lt (t_pure (.int .i64 (i : Int))) ?_
          refine s_lt (t_index iTy_ok Try.underlying22 (.own 2) (i : Int) i (by omega) (by (try simp only [List.length_nil, List.length_cons, List.length_append, List.length_take, List.length_drop, List.length_set, List.length_replicate, List.length_reverse, bits_len]); omega) (by omega)) ?_
          refine s_lt (t_loadE iTy_ok (.own 2) hy126) ?_
          refine s_buildSlice (e := 3) [(0, .int .i64 y125)] #[.int .i64 y125] (fun g129 => ?_) (hb := by kernel_rfl)
          refine s_append (L := (R ++ hasL l (P.take i))) 4 iTy_ok Try.underlying22 (.lit 0 iTy_ok [y125]) (by show _ * 8 ≤ _; (try simp only [List.length_nil, List.length_cons, List.length_append, List.length_take, List.length_drop, List.length_set, List.length_replicate, List.length_reverse, bits_len]); omega) (by (try simp only [List.length_nil, List.length_cons, List.length_append, List.length_take, List.length_drop, List.length_set, List.length_replicate, List.length_reverse, bits_len]); omega) (fun v130 => ?_)
          refine s_fact (fun H h => ((Acc.own (T := iTy) (L := ((R ++ hasL l (P.take i)) ++ [y125])) 4 rfl) H h).form) (fun hf131 => ?_)
          refine s_lt (t_pure (.pointer (some ⟨g116, 1, none⟩))) ?_
          refine s_store (u := v130) (m := 1) 5 #[ov10, v130] ?_ (hm := by (obtain ⟨_, _, e0⟩ := hf131; rw [e0]; rfl)) (h1 := by (obtain ⟨_, _, e0⟩ := hf131; rw [e0]; rfl)) (ha' := by (obtain ⟨_, _, e0⟩ := hf131; rw [e0]; rfl))
          refine s_nil ?_
          refine x_dynS (fun _ h => by kernel_rfl) ?_
          refine xs_block ?_
          refine xs_then ?_
          refine k_reg ?_
          refine s_lt (t_pure (.int .i64 (i : Int))) ?_
          refine s_lt (t_add (i : Int) 1 (by (try simp only [List.length_nil, List.length_cons, List.length_append, List.length_take, List.length_drop, List.length_set, List.length_replicate, List.length_reverse, bits_len]); omega)) ?_
          refine s_lt (t_pure (.int .i64 ((i : Int) + 1))) ?_
          refine s_nil ?_
          refine xs_mem (fun _ h => rq_shut (h.re [1, 1, 1] [])) ?_
          rw [List.append_assoc, has_yes (l := l) hy126 p128]
          exact xs_round (v130, i + 1) (by show P.length - (i + 1) < P.length - i; omega) (by show i + 1 ≤ P.length; omega) (sub_of rfl ⟨⟨rfl, rfl⟩, ⟨⟨rfl, rfl⟩, ⟨⟨rfl, rfl⟩, ⟨⟨rfl, rfl⟩, ⟨⟨rfl, rfl⟩, ⟨⟨rfl, rfl⟩, ⟨⟨rfl, rfl⟩, ⟨⟨rfl, rfl⟩, trivial⟩⟩⟩⟩⟩⟩⟩⟩) (fun _ h => h.re [2, 2, 2, 2, 0, 1, 1] [7])
        ·
          have p132 := of_decide_eq_false c127
          refine k_skip ?_
          refine xs_block ?_
          refine xs_then ?_
          refine k_reg ?_
          refine s_lt (t_pure (.int .i64 (i : Int))) ?_
          refine s_lt (t_add (i : Int) 1 (by (try simp only [List.length_nil, List.length_cons, List.length_append, List.length_take, List.length_drop, List.length_set, List.length_replicate, List.length_reverse, bits_len]); omega)) ?_
          refine s_lt (t_pure (.int .i64 ((i : Int) + 1))) ?_
          refine s_nil ?_
          refine xs_mem (fun _ h => rq_shut (h.re [0, 0, 0] [])) ?_
          rw [has_no (l := l) hy126 p132]
          exact xs_round (mx, i + 1) (by show P.length - (i + 1) < P.length - i; omega) (by show i + 1 ≤ P.length; omega) (sub_of rfl ⟨⟨rfl, rfl⟩, ⟨⟨rfl, rfl⟩, ⟨⟨rfl, rfl⟩, ⟨⟨rfl, rfl⟩, ⟨⟨rfl, rfl⟩, ⟨⟨rfl, rfl⟩, ⟨⟨rfl, rfl⟩, ⟨⟨rfl, rfl⟩, trivial⟩⟩⟩⟩⟩⟩⟩⟩) (fun _ h => h.re [1, 1, 1, 1, 0, 0, 0] [])
      ·
        have p133 := of_decide_eq_false c123
        refine k_exit ?_
        rw [List.take_of_length_le (show P.length ≤ i by omega)]
        have hhl := has_len l P
        refine xs_exit ?_
        refine xs_exit ?_
        refine xs_here ?_
        refine xs_then ?_
        refine k_seq ?_
        refine k_reg ?_
        refine s_lt (t_loadA 4 #[ov10, mx]) ?_
        have hu1 := unv_len hl13; have hu2 := unv_small hl13 hsm; have hu3 := pot_le l12 hu2 []
        refine s_pcall (fun _ h => rAlive_s (gr_more (h.zfrF 6) (h.knS 3)) (by omega) (by omega) hu2 (by rw [List.length_append]; omega)) ?_
        rintro _ _ ⟨v134, rfl, rfl⟩
        refine s_fact (fun H h => ((Acc.own (T := iTy) (L := (aliveR l12 (R ++ hasL l P))) 0 rfl) H h).form) (fun hf135 => ?_)
        have hbb : (aliveR l12 (R ++ hasL l P)) = cycB l R reg pend := by rw [has_alive hl13, hP]; exact cycB_of hl13
        rw [hbb]
        have hbl := cycB_len l R reg pend
        refine s_lt (t_pure (.tuple #[v134, .int .i64 (errI (chk 0 l12))])) ?_
        refine s_lt (t_pure v134) ?_
        refine s_lt (t_pure (.int .i64 (errI (chk 0 l12)))) ?_
        refine s_lt (t_pure v134) ?_
        refine s_lt (t_pure (.int .i64 (errI (chk 0 l12)))) ?_
        refine s_nil ?_
        refine xs_then ?_
        refine k_seq ?_
        refine k_reg ?_
        refine s_lt (t_loadA 6 #[ov10, rv11]) ?_
        refine s_lt (t_pure v134) ?_
        refine s_pcall (fun _ h => rClear_s (GrA.kn (h.zfrF 7)) (Acc.kn (.own 0) h) (by have := cycB_len l R reg pend; omega) (by omega) (by omega) hu2) ?_
        rintro _ _ ⟨ov136, rv137, l138, R139, rfl, hl140, hR141, rfl⟩
        refine s_lt (t_pure (.tuple #[.agg #[ov136, rv137], .int .i64 (errI (chk 0 l12 && ascA 0 (cycB l R reg pend)))])) ?_
        refine s_lt (t_pure (.agg #[ov136, rv137])) ?_
        refine s_lt (t_pure (.int .i64 (errI (chk 0 l12 && ascA 0 (cycB l R reg pend))))) ?_
        refine s_alloc (.agg #[(.slice none 0 0), (.slice none 0 0)]) #[(.slice none 0 0), (.slice none 0 0)] (fun g142 => ?_)
        refine s_fact (fun H h => ((show Acc _ _ ObT _ _ from (accF 1)) H h).form) (fun hf143 => ?_)
        refine s_fact (fun H h => ((show Acc _ _ iTy _ _ from (accR 1)) H h).form) (fun hf144 => ?_)
        refine s_store (u := .agg #[ov136, rv137]) (m := 2) 0 #[ov136, rv137] ?_ (hm := by (obtain ⟨_, _, e0⟩ := hf143; obtain ⟨_, _, e1⟩ := hf144; rw [e0, e1]; rfl)) (h1 := by (obtain ⟨_, _, e0⟩ := hf143; obtain ⟨_, _, e1⟩ := hf144; rw [e0, e1]; rfl)) (ha' := by (obtain ⟨_, _, e0⟩ := hf143; obtain ⟨_, _, e1⟩ := hf144; rw [e0, e1]; rfl))
        refine s_lt (t_pure (.int .i64 (errI (chk 0 l12 && ascA 0 (cycB l R reg pend))))) ?_
        refine s_nil ?_
        refine xs_then ?_
        refine k_seq ?_
        refine k_reg ?_
        refine s_buildSlice (e := 3) [] #[] (fun g145 => ?_) (hb := by kernel_rfl)
        refine s_lt (t_pure (.pointer (some ⟨g1, 1, none⟩))) ?_
        refine s_lt (t_load 12 rv) ?_
        refine s_mem (fun _ h => Holds.slice 0 h iTy_ok []) ?_
        refine s_append (L := []) 0 iTy_ok Try.underlying22 (.zn hg.roots) (by show _ * 8 ≤ _; (try simp only [List.length_nil, List.length_cons, List.length_append, List.length_take, List.length_drop, List.length_set, List.length_replicate, List.length_reverse, bits_len]); omega) (by (try simp only [List.length_nil, List.length_cons, List.length_append, List.length_take, List.length_drop, List.length_set, List.length_replicate, List.length_reverse, bits_len]); omega) (fun v146 => ?_)
        rw [List.nil_append]
        refine s_fact (fun H h => ((Acc.own (T := iTy) (L := R) 0 rfl) H h).form) (fun hf147 => ?_)
        refine s_lt (show Lt _ _ _ _ _ (.agg #[(.slice none 0 0), v146]) from by obtain ⟨_, _, e⟩ := hf147; rw [e]; clear e; exact t_kern _) ?_
        refine s_alloc (.agg #[(.slice none 0 0), (.slice none 0 0)]) #[(.slice none 0 0), (.slice none 0 0)] (fun g148 => ?_)
        refine s_store (u := .agg #[(.slice none 0 0), v146]) (m := 2) 0 #[(.slice none 0 0), v146] ?_ (hm := by (obtain ⟨_, _, e0⟩ := hf147; rw [e0]; rfl)) (h1 := by (obtain ⟨_, _, e0⟩ := hf147; rw [e0]; rfl)) (ha' := by (obtain ⟨_, _, e0⟩ := hf147; rw [e0]; rfl))
        refine s_nil ?_
        refine xs_then ?_
        refine k_seq ?_
        refine k_reg ?_
        refine s_buildSlice (e := 3) [] #[] (fun g149 => ?_) (hb := by kernel_rfl)
        refine s_lt (t_pure (.slice (some ⟨g149, 0, none⟩) 0 0)) ?_
        refine s_nil ?_
        refine xs_then ?_
        refine k_seq ?_
        refine k_seq ?_
        refine k_reg ?_
        refine s_lt (t_pure (.int .i64 0)) ?_
        refine s_nil ?_
        refine xs_then ?_
        refine k_block ?_
        refine k_mem (fun _ h => rq_shut (h.re [6, 6, 6] [])) ?_
        refine k_mem (Bs := rqA qb (stayL (aliveR l R) reg) P :: blkA g149 #[] 3 :: blkA g148 #[(.slice none 0 0), v146] 44 :: own iTy v146 R :: blkA g142 #[ov136, rv137] 44 :: frz (GrA ov136 rv137 l138 R139) :: own iTy v134 (cycB l R reg pend) :: blkA g2 #[(.slice none 0 0), (.slice none 0 0)] 44 :: F) (fun _ h => h.re [0, 0, 0, 0, 0, 0, 0, 4] [8, 8, 8, 8, 8]) ?_
        have hok : (chk 0 l12 && ascA 0 (cycB l R reg pend)) = true := by rw [unv_chk hl13, hc, cycB_asc R reg pend hc]; rfl
        rw [hok, if_pos rfl] at hl140 hR141; have hlen := len_of_map hl140; have hu1b := unv_len hl13
        refine k_mem (fun _ h => Holds.slice 1 h iTy_ok []) ?_
        refine k_mem (Bs := rqA qb (stayL (aliveR l R) reg) P :: own iTy (.slice (some ⟨g149, 0, none⟩) 0 0) (freeL (cycB l R reg pend) ((l138.take 0).map Ob.c)) :: blkA g148 #[(.slice none 0 0), v146] 44 :: own iTy v146 R :: blkA g142 #[ov136, rv137] 44 :: frz (GrA ov136 rv137 l138 R139) :: own iTy v134 (cycB l R reg pend) :: blkA g2 #[(.slice none 0 0), (.slice none 0 0)] 44 :: F) (fun _ h => h) ?_
        refine k_mem (fun _ h => Holds.nilS (T := ObT) h) ?_
        refine k_loop (ι := Value × List Ob × Value × Nat) (fun (ox, N, fx, k) => k ≤ l138.length ∧ N.map Ob.c = lastL (cycB l R reg pend) ((l138.take k).map Ob.c) ∧ (∀ x ∈ N, x ∈ l138) ∧ N.length ≤ k) (fun (ox, N, fx, k) => [(4, .pointer (some ⟨g2, 0, none⟩)), (5, (.slice none 0 0)), (6, .int .i64 0), (13, v134), (15, .pointer (some ⟨g142, 0, none⟩)), (17, .pointer (some ⟨g148, 0, none⟩)), (18, fx), (19, .int .i64 (k : Int))]) (fun (ox, N, fx, k) => own ObT ox N :: rqA qb (stayL (aliveR l R) reg) P :: own iTy fx (freeL (cycB l R reg pend) ((l138.take k).map Ob.c)) :: blkA g148 #[ox, v146] 44 :: own iTy v146 R :: blkA g142 #[ov136, rv137] 44 :: frz (GrA ov136 rv137 l138 R139) :: own iTy v134 (cycB l R reg pend) :: blkA g2 #[(.slice none 0 0), (.slice none 0 0)] 44 :: F) (fun (ox, N, fx, k) => l138.length - k) (.slice none 0 0, [], (.slice (some ⟨g149, 0, none⟩) 0 0), 0) ⟨Nat.zero_le _, rfl, by simp, Nat.le_refl _⟩ (sub_of rfl ⟨⟨rfl, rfl⟩, ⟨⟨rfl, rfl⟩, ⟨⟨rfl, rfl⟩, ⟨⟨rfl, rfl⟩, ⟨⟨rfl, rfl⟩, ⟨⟨rfl, rfl⟩, ⟨⟨rfl, rfl⟩, ⟨⟨rfl, rfl⟩, trivial⟩⟩⟩⟩⟩⟩⟩⟩) (fun _ h => h.re [0, 0, 0, 0, 0, 0, 0, 0, 0] []) ?_
        rintro ⟨ox, N, fx, k⟩ hi150
        replace hi150 : k ≤ l138.length ∧ N.map Ob.c = lastL (cycB l R reg pend) ((l138.take k).map Ob.c) ∧ (∀ x ∈ N, x ∈ l138) ∧ N.length ≤ k := hi150
        show SK _ _ _ _ _ [(4, .pointer (some ⟨g2, 0, none⟩)), (5, (.slice none 0 0)), (6, .int .i64 0), (13, v134), (15, .pointer (some ⟨g142, 0, none⟩)), (17, .pointer (some ⟨g148, 0, none⟩)), (18, fx), (19, .int .i64 (k : Int))] _ (own ObT ox N :: rqA qb (stayL (aliveR l R) reg) P :: own iTy fx (freeL (cycB l R reg pend) ((l138.take k).map Ob.c)) :: blkA g148 #[ox, v146] 44 :: own iTy v146 R :: blkA g142 #[ov136, rv137] 44 :: frz (GrA ov136 rv137 l138 R139) :: own iTy v134 (cycB l R reg pend) :: blkA g2 #[(.slice none 0 0), (.slice none 0 0)] 44 :: F)
        have hNl := hi150.2.2.2; have hfl := free_len (cycB l R reg pend) ((l138.take k).map Ob.c); rw [List.length_map, List.length_take] at hfl
        refine k_seq ?_
        refine k_seq ?_
        refine k_reg ?_
        refine s_lt (t_pure (.int .i64 (k : Int))) ?_
        refine s_lt (t_pure (.pointer (some ⟨g142, 0, none⟩))) ?_
        refine s_lt (t_load 5 ov136) ?_
        refine s_lt (t_len ObT_ok Try.underlying42 (accF 6)) ?_
        refine s_lt t_cmp ?_
        refine s_nil ?_
        refine xs_then ?_
        refine k_cond (decide ((k : Int) < (l138.length : Int))) (fun c151 => ?_) (fun c151 => ?_)
        ·
          have p152 := of_decide_eq_true c151
          refine k_skip ?_
          refine xs_then ?_
          refine k_seq ?_
          refine k_block ?_
          refine k_seq ?_
          refine k_reg ?_
          refine s_lt (t_pure v134) ?_
          refine s_lt (t_pure (.pointer (some ⟨g142, 0, none⟩))) ?_
          refine s_lt (t_load 5 ov136) ?_
          refine s_lt (t_pure (.int .i64 (k : Int))) ?_
          refine s_lt (t_index ObT_ok Try.underlying42 (accF 6) (k : Int) k (by omega) (by (try simp only [List.length_nil, List.length_cons, List.length_append, List.length_take, List.length_drop, List.length_set, List.length_replicate, List.length_reverse, bits_len]); omega) (by omega)) ?_
          refine s_lt (t_pure (.pointer (some (elemAt ObT.size ov136 k)))) ?_
          obtain ⟨y153, hy154⟩ : ∃ y, l138[k]? = some y := ⟨_, List.getElem?_eq_getElem (by (try simp only [List.length_nil, List.length_cons, List.length_append, List.length_take, List.length_drop, List.length_set, List.length_replicate, List.length_reverse, bits_len]); omega)⟩
          refine s_lt (t_loadF 0 ObT_ok (accF 6) hy154) ?_
          refine s_vcall (fun _ h => rin_s (L := (cycB l R reg pend)) (Acc.kn (.own 7) h) y153.id) ?_
          rintro _ rfl
          refine s_nil ?_
          refine xs_then ?_
          refine k_cond (decide (y153.id ∈ (cycB l R reg pend))) (fun c155 => ?_) (fun c155 => ?_)
          ·
            have p156 := of_decide_eq_true c155
            refine k_draw ?_
            refine s_lt (t_pure (.pointer (some ⟨g148, 0, none⟩))) ?_
            refine s_lt (t_load 3 ox) ?_
            refine s_lt (t_pure (.pointer (some ⟨g142, 0, none⟩))) ?_
            refine s_lt (t_load 5 ov136) ?_
            refine s_lt (t_pure (.int .i64 (k : Int))) ?_
            refine s_lt (t_index ObT_ok Try.underlying42 (accF 6) (k : Int) k (by omega) (by (try simp only [List.length_nil, List.length_cons, List.length_append, List.length_take, List.length_drop, List.length_set, List.length_replicate, List.length_reverse, bits_len]); omega) (by omega)) ?_
            refine s_lt (t_loadE ObT_ok (accF 6) hy154) ?_
            refine s_buildSlice (e := 74) [(0, .agg #[.int .i64 y153.id, .int .i64 y153.size, .int .i64 y153.weak, y153.rv.v, y153.ev.v])] #[.int .i64 y153.id, .int .i64 y153.size, .int .i64 y153.weak, y153.rv.v, y153.ev.v] (fun g157 => ?_) (hb := by kernel_rfl)
            refine s_append (L := N) 1 ObT_ok Try.underlying42 (.lit 0 ObT_ok [y153]) (by show _ * 72 ≤ _; (try simp only [List.length_nil, List.length_cons, List.length_append, List.length_take, List.length_drop, List.length_set, List.length_replicate, List.length_reverse, bits_len]); omega) (by (try simp only [List.length_nil, List.length_cons, List.length_append, List.length_take, List.length_drop, List.length_set, List.length_replicate, List.length_reverse, bits_len]); omega) (fun v158 => ?_)
            refine s_fact (fun H h => ((Acc.own (T := ObT) (L := (N ++ [y153])) 1 rfl) H h).form) (fun hf159 => ?_)
            refine s_lt (t_pure (.pointer (some ⟨g148, 0, none⟩))) ?_
            refine s_store (u := v158) (m := 1) 4 #[v158, v146] ?_ (hm := by (obtain ⟨_, _, e0⟩ := hf159; rw [e0]; rfl)) (h1 := by (obtain ⟨_, _, e0⟩ := hf159; rw [e0]; rfl)) (ha' := by (obtain ⟨_, _, e0⟩ := hf159; rw [e0]; rfl))
            refine s_nil ?_
            refine x_dynS (fun _ h => by kernel_rfl) ?_
            refine xs_block ?_
            refine xs_then ?_
            refine k_reg ?_
            refine s_lt (t_pure (.int .i64 (k : Int))) ?_
            refine s_lt (t_add (k : Int) 1 (by (try simp only [List.length_nil, List.length_cons, List.length_append, List.length_take, List.length_drop, List.length_set, List.length_replicate, List.length_reverse, bits_len]); omega)) ?_
            refine s_lt (t_pure (.int .i64 ((k : Int) + 1))) ?_
            refine s_nil ?_
            rw [free_no hy154 p156]
            exact xs_round (v158, N ++ [y153], fx, k + 1) (by show l138.length - (k + 1) < l138.length - k; omega) (by obtain ⟨hk1, hk2, hk3, hk4⟩ := hi150; exact ⟨by omega, last_yes hy154 p156 hk2, fun x hx => by rcases List.mem_append.1 hx with hx | hx; exact hk3 x hx; simp at hx; subst hx; exact List.mem_of_getElem? hy154, by rw [List.length_append]; simp only [List.length_singleton]; omega⟩) (sub_of rfl ⟨⟨rfl, rfl⟩, ⟨⟨rfl, rfl⟩, ⟨⟨rfl, rfl⟩, ⟨⟨rfl, rfl⟩, ⟨⟨rfl, rfl⟩, ⟨⟨rfl, rfl⟩, ⟨⟨rfl, rfl⟩, ⟨⟨rfl, rfl⟩, trivial⟩⟩⟩⟩⟩⟩⟩⟩) (fun _ h => h.re [1, 1, 1, 1, 1, 1, 1, 1, 1] [9])
          ·
            have p160 := of_decide_eq_false c155
            refine k_reg ?_
            refine s_lt (t_pure fx) ?_
            refine s_lt (t_pure (.pointer (some ⟨g142, 0, none⟩))) ?_
            refine s_lt (t_load 5 ov136) ?_
            refine s_lt (t_pure (.int .i64 (k : Int))) ?_
            refine s_lt (t_index ObT_ok Try.underlying42 (accF 6) (k : Int) k (by omega) (by (try simp only [List.length_nil, List.length_cons, List.length_append, List.length_take, List.length_drop, List.length_set, List.length_replicate, List.length_reverse, bits_len]); omega) (by omega)) ?_
            refine s_lt (t_pure (.pointer (some (elemAt ObT.size ov136 k)))) ?_
            refine s_lt (t_loadF 0 ObT_ok (accF 6) hy154) ?_
            refine s_buildSlice (e := 3) [(0, .int .i64 y153.id)] #[.int .i64 y153.id] (fun g161 => ?_) (hb := by kernel_rfl)
            refine s_append (L := (freeL (cycB l R reg pend) ((l138.take k).map Ob.c))) 3 iTy_ok Try.underlying22 (.lit 0 iTy_ok [y153.id]) (by show _ * 8 ≤ _; (try simp only [List.length_nil, List.length_cons, List.length_append, List.length_take, List.length_drop, List.length_set, List.length_replicate, List.length_reverse, bits_len]); omega) (by (try simp only [List.length_nil, List.length_cons, List.length_append, List.length_take, List.length_drop, List.length_set, List.length_replicate, List.length_reverse, bits_len]); omega) (fun v162 => ?_)
            refine s_fact (fun H h => ((Acc.own (T := iTy) (L := ((freeL (cycB l R reg pend) ((l138.take k).map Ob.c)) ++ [y153.id])) 3 rfl) H h).form) (fun hf163 => ?_)
            refine s_lt (t_pure v162) ?_
            refine s_nil ?_
            refine xs_block ?_
            refine xs_then ?_
            refine k_reg ?_
            refine s_lt (t_pure (.int .i64 (k : Int))) ?_
            refine s_lt (t_add (k : Int) 1 (by (try simp only [List.length_nil, List.length_cons, List.length_append, List.length_take, List.length_drop, List.length_set, List.length_replicate, List.length_reverse, bits_len]); omega)) ?_
            refine s_lt (t_pure (.int .i64 ((k : Int) + 1))) ?_
            refine s_nil ?_
            rw [free_yes hy154 p160]
            exact xs_round (ox, N, v162, k + 1) (by show l138.length - (k + 1) < l138.length - k; omega) (by obtain ⟨hk1, hk2, hk3, hk4⟩ := hi150; exact ⟨by omega, last_no hy154 p160 hk2, hk3, by omega⟩) (sub_of rfl ⟨⟨rfl, rfl⟩, ⟨⟨rfl, rfl⟩, ⟨⟨rfl, rfl⟩, ⟨⟨rfl, rfl⟩, ⟨⟨rfl, rfl⟩, ⟨⟨rfl, rfl⟩, ⟨⟨rfl, rfl⟩, ⟨⟨rfl, rfl⟩, trivial⟩⟩⟩⟩⟩⟩⟩⟩) (fun _ h => h.re [1, 1, 1, 1, 1, 1, 1, 1, 1] [9])
        ·
          have p164 := of_decide_eq_false c151
          refine k_exit ?_
          refine xs_exit ?_
          refine xs_exit ?_
          refine xs_here ?_
          refine xs_then ?_
          refine k_seq ?_
          refine k_reg ?_
          refine s_lt (t_loadA 3 #[ox, v146]) ?_
          refine s_lt (t_pure fx) ?_
          refine s_fact (fun H h => ((Acc.own (T := ObT) (L := N) 0 rfl) H h).form) (fun hf165 => ?_)
          refine s_store (u := .agg #[ox, v146]) (m := 2) 8 #[ox, v146] ?_ (hm := by (obtain ⟨_, _, e0⟩ := hf165; obtain ⟨_, _, e1⟩ := hf147; rw [e0, e1]; rfl)) (h1 := by (obtain ⟨_, _, e0⟩ := hf165; obtain ⟨_, _, e1⟩ := hf147; rw [e0, e1]; rfl)) (ha' := by (obtain ⟨_, _, e0⟩ := hf165; obtain ⟨_, _, e1⟩ := hf147; rw [e0, e1]; rfl))
          refine s_lt (t_pure fx) ?_
          refine s_lt (t_pure (.int .i64 0)) ?_
          refine s_nil ?_
          refine xs_then ?_
          refine k_ret ?_
          obtain ⟨hk1, hk2, hk3, hk4⟩ := hi150
          obtain rfl : k = l138.length := by omega
          rw [List.take_length, hl140] at hk2
          have hff : freeL (cycB l R reg pend) ((l138.take l138.length).map Ob.c) = cycF l R reg pend := by rw [List.take_length]; exact free_cyc hl13 hl140
          rw [hff]
          subst hP
          exact xs_fin [.agg #[ox, v146], fx, .int .i64 0] (rqA qb (cycR l R reg) (cycP l R reg pend) :: frz (GrA ox v146 N R) :: own iTy fx (cycF l R reg pend) :: F) (SI.agg 4 44 8 (SI.tmp 5 (SI.tmp 6 SI.nil))) (fun _ h => (gr_part2 hk3 (h.re [0, 3, 4, 0, 0] [5, 5, 5, 5])).re [1, 0] []) ⟨_, _, _, N, R, by rw [hc]; rfl, by rw [hc]; exact hk2.trans (cycO_of hl13), by rw [hc]; rfl, by rw [hc]; rfl⟩
end Go.Proofs.Ytipmkaabogocfaa
