/-
  FinalizerCalls walked; the queues of a list. Each law says its conditions.
-/
import Derived.Test.YtipmkaabogocfaaF9
set_option linter.unusedSimpArgs false
set_option linter.unusedVariables false
set_option maxRecDepth 100000
set_option maxHeartbeats 2000000
namespace Go.Proofs.Ytipmkaabogocfaa
open Go.Hp Go.J Go.S
open Go.Mem (Ty KTy blk elemAt pre suf blk_pre blk_suf aget aset strK aggDesc)
theorem h_step3 {P : Program} {w0 : World} {Q : Exit → Act → World → Prop} {n : Nat} {E : Env} {H : Heap} {o o' o'' : Oper} {l : List Oper} {S : Heap → Prop} {fuel : Nat} {listed : Array Bool} (i j m : Nat) (hi : l[i]? = some o) (hj : l[j]? = some o') (hm : l[m]? = some o'') (hr : Region.ready .any l.toArray listed = [i, j, m])
    (h : JL P w0 l.toArray (heldQ P l Q S fuel (listed.setIfInBounds i true)) n [o] E H)
    (h' : JL P w0 l.toArray (heldQ P l Q S fuel (listed.setIfInBounds j true)) n [o'] E H)
    (h'' : JL P w0 l.toArray (heldQ P l Q S fuel (listed.setIfInBounds m true)) n [o''] E H) : JH P w0 l Q n S (fuel + 1) listed E H := by
  intro a w hf ha
  refine wpAnyH_all hr (by simp) ?_
  intro k hk
  simp only [List.mem_cons, List.not_mem_nil, or_false] at hk
  rcases hk with rfl | rfl | rfl
  · have := h a w hf ha
    unfold wpOp
    rw [show l.toArray[k]? = some o by simpa using hi]
    exact this
  · have := h' a w hf ha
    unfold wpOp
    rw [show l.toArray[k]? = some o' by simpa using hj]
    exact this
  · have := h'' a w hf ha
    unfold wpOp
    rw [show l.toArray[k]? = some o'' by simpa using hm]
    exact this
theorem h_stepS3 {P : Program} {w0 : World} {Q : Exit → Act → World → Prop} {n : Nat} {E : Env} {Z : Zone} {As : List Asr} {o o' o'' : Oper} {l : List Oper} {Ks : List Asr} {fuel : Nat} {listed : Array Bool} (i j m : Nat) (h : SL P w0 l.toArray (heldQ P l Q (HS Z Ks) fuel (listed.setIfInBounds i true)) n [o] E Z As) (h' : SL P w0 l.toArray (heldQ P l Q (HS Z Ks) fuel (listed.setIfInBounds j true)) n [o'] E Z As) (h'' : SL P w0 l.toArray (heldQ P l Q (HS Z Ks) fuel (listed.setIfInBounds m true)) n [o''] E Z As) (hi : l[i]? = some o := by rfl) (hj : l[j]? = some o' := by rfl) (hm : l[m]? = some o'' := by rfl) (hr : Region.ready .any l.toArray listed = [i, j, m] := by kernel_rfl) : SH P w0 l Q n Z Ks (fuel + 1) listed E As :=
  fun H hH => h_step3 i j m hi hj hm hr (h H hH) (h' H hH) (h'' H hH)
theorem sep_lens (A rg : List Int) : (sepL A rg).length + (stayL A rg).length = rg.length := by have := (sep_perm A rg).length_eq; rwa [List.length_append] at this
theorem add_len (rg : List Int) (id : Int) : (addL rg id).length ≤ rg.length + 1 := by
  unfold addL; split
  · omega
  · split
    · omega
    · simp
theorem pr_len (x : Cl) (rg pd : List Int) : (prR x rg).length + (prP x rg pd).length ≤ rg.length + pd.length + 1 := by
  have h1 := add_len rg x.id; have h2 := sep_lens x.alive rg; have h3 := sep_lens [] rg
  have h4 : pd.tail.length ≤ pd.length := by rw [List.length_tail]; omega
  unfold prR prP
  by_cases k0 : x.kind = 0
  · simp only [k0, if_true]; omega
  · by_cases k1 : x.kind = 1
    · simp [k1]
    · by_cases k2 : x.kind = 2
      · simp [k2]; omega
      · by_cases k3 : x.kind = 3
        · simp [k3]; omega
        · by_cases k4 : x.kind = 4
          · simp [k4]
          · by_cases k5 : x.kind = 5
            · simp [k5]
            · simp [k0, k1, k2, k3, k4, k5]; omega
theorem calls_w {Z : Zone} {lv : Value} {L : List Cl} (hL : Kn Z ClT lv L) (hC : ∀ x ∈ L, KnC Z x) : SF Try.prog 4 #[lv] Z [] fun r Bs => r = .bool true ∧ Bs = [] := by
  refine sf_enter Try.func4 59 [(0, lv)] (fun w0 => ?_)
  refine k_seq ?_
  refine k_reg ?_
  refine s_lt (t_pure (.bool false)) ?_
  refine s_nil ?_
  refine xs_then ?_
  refine k_seq ?_
  refine k_seq ?_
  refine k_reg ?_
  refine s_lt (t_pure lv) ?_
  refine s_pcall (fun _ h => long_s (hL.up h) (fun x hx => (hC x hx).up h)) ?_
  rintro _ _ ⟨lb1, rfl, hlb2, rfl⟩
  refine s_nil ?_
  refine xs_then ?_
  refine k_cond lb1 (fun c3 => ?_) (fun c3 => ?_)
  ·
    refine k_seq ?_
    refine k_reg ?_
    refine s_vcall (fun _ h => awake_s) ?_
    rintro _ rfl
    refine s_lt (t_pure (.bool true)) ?_
    refine s_nil ?_
    refine xs_then ?_
    refine k_ret ?_
    refine xs_ret ?_
    exact xs_fin [.bool true] [] (SI.tmp 2 SI.nil) (fun _ h => h.re [] []) ⟨rfl, rfl⟩
  ·
    obtain ⟨hL1, hL2⟩ := hlb2 c3
    refine k_skip ?_
    refine xs_then ?_
    refine k_seq ?_
    refine k_reg ?_
    refine s_pcall (fun _ h => qnew_s) ?_
    rintro _ _ ⟨q4, rfl, rfl⟩
    refine s_pcall (fun _ h => rqnew_s) ?_
    rintro _ _ ⟨p5, rfl, rfl⟩
    refine s_lt (t_pure (.pointer (some ⟨q4, 0, none⟩))) ?_
    refine s_lt (t_pure (.pointer (some ⟨p5, 0, none⟩))) ?_
    refine s_nil ?_
    refine xs_then ?_
    refine k_seq ?_
    refine k_seq ?_
    refine k_reg ?_
    refine s_lt (t_pure lv) ?_
    refine s_lt (t_len ClT_ok Try.underlying32 (.zn hL)) ?_
    refine s_lt (t_pure (.int .i64 0)) ?_
    refine s_nil ?_
    refine xs_then ?_
    refine k_block ?_
    refine k_loop (ι := List Int × List Int × Nat) (fun (rg, pd, i) => i ≤ L.length ∧ rg.length + pd.length ≤ i) (fun (rg, pd, i) => [(0, lv), (2, .bool false), (3, .pointer (some ⟨q4, 0, none⟩)), (4, .pointer (some ⟨p5, 0, none⟩)), (14, .int .i64 (L.length : Int)), (15, .int .i64 (i : Int))]) (fun (rg, pd, i) => [rqA p5 rg pd, qA q4 rg pd]) (fun (rg, pd, i) => L.length - i) ([], [], 0) ⟨Nat.zero_le _, Nat.le_refl _⟩ (sub_of rfl ⟨⟨rfl, rfl⟩, ⟨⟨rfl, rfl⟩, ⟨⟨rfl, rfl⟩, ⟨⟨rfl, rfl⟩, ⟨⟨rfl, rfl⟩, ⟨⟨rfl, rfl⟩, trivial⟩⟩⟩⟩⟩⟩) (fun _ h => h.re [0, 0] []) ?_
    rintro ⟨rg, pd, i⟩ hi6
    replace hi6 : i ≤ L.length ∧ rg.length + pd.length ≤ i := hi6
    show SK _ _ _ _ _ [(0, lv), (2, .bool false), (3, .pointer (some ⟨q4, 0, none⟩)), (4, .pointer (some ⟨p5, 0, none⟩)), (14, .int .i64 (L.length : Int)), (15, .int .i64 (i : Int))] _ [rqA p5 rg pd, qA q4 rg pd]
    have hln := hi6.2
    refine k_seq ?_
    refine k_reg ?_
    refine s_lt t_cmp ?_
    refine s_nil ?_
    refine xs_then ?_
    refine k_seq ?_
    refine k_cond (decide ((i : Int) < (L.length : Int))) (fun c7 => ?_) (fun c7 => ?_)
    ·
      have p8 := of_decide_eq_true c7
      refine k_skip ?_
      refine xs_then ?_
      refine k_seq ?_
      refine k_block ?_
      refine k_seq ?_
      refine k_reg ?_
      refine s_lt (t_pure (.int .i64 (i : Int))) ?_
      refine s_lt (t_pure (.int .i64 (i : Int))) ?_
      refine s_nil ?_
      refine xs_then ?_
      refine k_seq ?_
      refine k_held [] ?_
      refine h_lt 0 rfl (np_then (np_block (np_then (np_then (np_block (np_then np_finS)))))) [] (fun _ => (t_pure (.pointer (some ⟨q4, 0, none⟩)))) ?_
      refine h_lt 1 rfl (np_then (np_block (np_then (np_then (np_block (np_then np_finS)))))) [] (fun _ => (t_pure lv)) ?_
      refine h_lt 2 rfl (np_then (np_block (np_then (np_then (np_block (np_then np_finS)))))) [] (fun _ => (t_pure (.int .i64 (i : Int)))) ?_
      refine h_lt 3 rfl (np_then (np_block (np_then (np_then (np_block (np_then np_finS)))))) [] (fun _ => (t_index ClT_ok Try.underlying32 (.zn hL) (i : Int) i (by omega) (by (try simp only [List.length_nil, List.length_cons, List.length_append, List.length_take, List.length_drop, List.length_set, List.length_replicate, List.length_reverse, bits_len]); omega) (by omega))) ?_
      obtain ⟨y9, hy10⟩ : ∃ y, L[i]? = some y := ⟨_, List.getElem?_eq_getElem (by (try simp only [List.length_nil, List.length_cons, List.length_append, List.length_take, List.length_drop, List.length_set, List.length_replicate, List.length_reverse, bits_len]); omega)⟩
      have hk11 := hC y9 (List.mem_of_getElem? hy10)
      refine h_lt 4 rfl (np_then (np_block (np_then (np_then (np_block (np_then np_finS)))))) [] (fun _ => (t_loadE ClT_ok (.zn hL) hy10)) ?_
      refine h_lt 6 rfl (np_then (np_block (np_then (np_then (np_block (np_then np_finS)))))) [] (fun _ => (t_pure (.pointer (some ⟨p5, 0, none⟩)))) ?_
      refine h_lt 7 rfl (np_then (np_block (np_then (np_then (np_block (np_then np_finS)))))) [] (fun _ => (t_pure lv)) ?_
      refine h_lt 8 rfl (np_then (np_block (np_then (np_then (np_block (np_then np_finS)))))) [] (fun _ => (t_pure (.int .i64 (i : Int)))) ?_
      refine h_lt 9 rfl (np_then (np_block (np_then (np_then (np_block (np_then np_finS)))))) [] (fun _ => (t_index ClT_ok Try.underlying32 (.zn hL) (i : Int) i (by omega) (by (try simp only [List.length_nil, List.length_cons, List.length_append, List.length_take, List.length_drop, List.length_set, List.length_replicate, List.length_reverse, bits_len]); omega) (by omega))) ?_
      refine h_lt 10 rfl (np_then (np_block (np_then (np_then (np_block (np_then np_finS)))))) [] (fun _ => (t_loadE ClT_ok (.zn hL) hy10)) ?_
      refine h_stepS3 5 12 13 ?_ ?_ ?_
      ·
        refine s_call [1] (program_s (reg := rg) (pend := pd) hk11 (by first | omega | (simp only [List.length_nil]; omega) | decide) (by first | omega | (simp only [List.length_nil]; omega) | decide)) ?_
        rintro _ _ ⟨lv12, rfl, rfl⟩
        refine s_fact (fun H h => ((Acc.own (T := iTy) (L := (prL y9 rg pd)) 1 rfl) H h).form) (fun hf13 => ?_)
        refine s_nil (xs_held [] ?_)
        refine h_stepS3 11 12 13 ?_ ?_ ?_
        ·
          refine s_call [2] (document_s (reg := rg) (pend := pd) hk11 (by first | omega | (simp only [List.length_nil]; omega) | decide) (by first | omega | (simp only [List.length_nil]; omega) | decide)) ?_
          rintro _ _ ⟨lv14, rfl, rfl⟩
          refine s_fact (fun H h => ((Acc.own (T := iTy) (L := (prL y9 rg pd)) 1 rfl) H h).form) (fun hf15 => ?_)
          refine s_nil (xs_held [] ?_)
          refine h_stepS2 12 13 ?_ ?_
          ·
            refine s_alloc (.agg #[(.slice none 0 0), .int .i64 0, .bool false, .int .i64 0]) #[(.slice none 0 0), .int .i64 0, .bool false, .int .i64 0] (fun g16 => ?_)
            refine s_nil (xs_held [] ?_)
            refine h_stepS 13 ?_
            refine s_alloc (.agg #[(.slice none 0 0), .int .i64 0, .bool false, .int .i64 0]) #[(.slice none 0 0), .int .i64 0, .bool false, .int .i64 0] (fun g17 => ?_)
            refine s_nil (xs_held [] ?_)
            refine h_stepS 14 ?_
            refine s_store (u := .agg #[lv12, .int .i64 (prN y9 pd), .bool (prB y9 rg pd), .int .i64 (prE y9 rg)]) (m := 4) 1 #[lv12, .int .i64 (prN y9 pd), .bool (prB y9 rg pd), .int .i64 (prE y9 rg)] ?_ (hm := by (obtain ⟨_, _, e0⟩ := hf13; rw [e0]; rfl)) (h1 := by (obtain ⟨_, _, e0⟩ := hf13; rw [e0]; rfl)) (ha' := by (obtain ⟨_, _, e0⟩ := hf13; rw [e0]; rfl))
            refine s_nil (xs_held [] ?_)
            refine h_stepS 15 ?_
            refine s_store (u := .agg #[lv14, .int .i64 (prN y9 pd), .bool (prB y9 rg pd), .int .i64 (prE y9 rg)]) (m := 4) 0 #[lv14, .int .i64 (prN y9 pd), .bool (prB y9 rg pd), .int .i64 (prE y9 rg)] ?_ (hm := by (obtain ⟨_, _, e0⟩ := hf15; rw [e0]; rfl)) (h1 := by (obtain ⟨_, _, e0⟩ := hf15; rw [e0]; rfl)) (ha' := by (obtain ⟨_, _, e0⟩ := hf15; rw [e0]; rfl))
            refine s_nil (xs_held [] ?_)
            refine h_doneS ?_
            refine xs_then ?_
            refine k_seq ?_
            refine k_reg ?_
            refine s_lt (t_pure (.pointer (some ⟨g16, 0, none⟩))) ?_
            refine s_lt (t_load 1 lv12) ?_
            refine s_lt (t_pure (.pointer (some ⟨g17, 0, none⟩))) ?_
            refine s_lt (t_load 0 lv14) ?_
            refine s_vcall (fun _ h => ints_s (Acc.kn (.own 5) h) (Acc.kn (.own 3) h)) ?_
            rintro u19 e18
            obtain rfl : u19 = .bool true := e18.trans (congrArg Value.bool (decide_eq_true rfl))
            refine s_lt (t_pure (.bool false)) ?_
            refine s_lt (t_pure (.bool false)) ?_
            refine s_lt (t_pure (.pointer (some ⟨g16, 1, none⟩))) ?_
            refine s_lt (t_load 1 (.int .i64 (prN y9 pd))) ?_
            refine s_lt (t_pure (.pointer (some ⟨g17, 1, none⟩))) ?_
            refine s_lt (t_load 0 (.int .i64 (prN y9 pd))) ?_
            refine s_lt (Lt.to t_cmp (congrArg Value.bool (decide_eq_false (fun h => h rfl) : (decide ((prN y9 pd) ≠ (prN y9 pd))) = false))) ?_
            refine s_lt (t_pure (.bool false)) ?_
            refine s_lt (t_pure (.bool false)) ?_
            refine s_lt (t_pure (.pointer (some ⟨g16, 2, none⟩))) ?_
            refine s_lt (t_load 1 (.bool (prB y9 rg pd))) ?_
            refine s_lt (t_pure (.pointer (some ⟨g17, 2, none⟩))) ?_
            refine s_lt (t_load 0 (.bool (prB y9 rg pd))) ?_
            refine s_lt (Lt.to (t_pure (.bool ((prB y9 rg pd) != (prB y9 rg pd)))) (congrArg Value.bool (by simp : ((prB y9 rg pd) != (prB y9 rg pd)) = false))) ?_
            refine s_lt (t_pure (.bool false)) ?_
            refine s_lt (t_pure (.bool false)) ?_
            refine s_lt (t_pure (.pointer (some ⟨g16, 3, none⟩))) ?_
            refine s_lt (t_load 1 (.int .i64 (prE y9 rg))) ?_
            refine s_lt (t_pure (.pointer (some ⟨g17, 3, none⟩))) ?_
            refine s_lt (t_load 0 (.int .i64 (prE y9 rg))) ?_
            refine s_lt (Lt.to t_cmp (congrArg Value.bool (decide_eq_false (fun h => h rfl) : (decide ((prE y9 rg) ≠ (prE y9 rg))) = false))) ?_
            refine s_lt (t_pure (.bool false)) ?_
            refine s_nil ?_
            refine xs_then ?_
            refine k_false ?_
            refine k_skip ?_
            refine xs_block ?_
            refine xs_then ?_
            refine k_reg ?_
            refine s_lt (t_add (i : Int) 1 (by (try simp only [List.length_nil, List.length_cons, List.length_append, List.length_take, List.length_drop, List.length_set, List.length_replicate, List.length_reverse, bits_len]); omega)) ?_
            refine s_lt (t_pure (.int .i64 ((i : Int) + 1))) ?_
            refine s_nil ?_
            exact xs_round (prR y9 rg, prP y9 rg pd, i + 1) (by show L.length - (i + 1) < L.length - i; omega) (by obtain ⟨hi1, hi2⟩ := hi6; have := pr_len y9 rg pd; exact ⟨by omega, by omega⟩) (sub_of rfl ⟨⟨rfl, rfl⟩, ⟨⟨rfl, rfl⟩, ⟨⟨rfl, rfl⟩, ⟨⟨rfl, rfl⟩, ⟨⟨rfl, rfl⟩, ⟨⟨rfl, rfl⟩, trivial⟩⟩⟩⟩⟩⟩) (fun _ h => h.re [2, 3] [2, 2, 2, 2])
          ·
            refine s_alloc (.agg #[(.slice none 0 0), .int .i64 0, .bool false, .int .i64 0]) #[(.slice none 0 0), .int .i64 0, .bool false, .int .i64 0] (fun g20 => ?_)
            refine s_nil (xs_held [] ?_)
            refine h_stepS 12 ?_
            refine s_alloc (.agg #[(.slice none 0 0), .int .i64 0, .bool false, .int .i64 0]) #[(.slice none 0 0), .int .i64 0, .bool false, .int .i64 0] (fun g21 => ?_)
            refine s_nil (xs_held [] ?_)
            refine h_stepS 14 ?_
            refine s_store (u := .agg #[lv12, .int .i64 (prN y9 pd), .bool (prB y9 rg pd), .int .i64 (prE y9 rg)]) (m := 4) 0 #[lv12, .int .i64 (prN y9 pd), .bool (prB y9 rg pd), .int .i64 (prE y9 rg)] ?_ (hm := by (obtain ⟨_, _, e0⟩ := hf13; rw [e0]; rfl)) (h1 := by (obtain ⟨_, _, e0⟩ := hf13; rw [e0]; rfl)) (ha' := by (obtain ⟨_, _, e0⟩ := hf13; rw [e0]; rfl))
            refine s_nil (xs_held [] ?_)
            refine h_stepS 15 ?_
            refine s_store (u := .agg #[lv14, .int .i64 (prN y9 pd), .bool (prB y9 rg pd), .int .i64 (prE y9 rg)]) (m := 4) 1 #[lv14, .int .i64 (prN y9 pd), .bool (prB y9 rg pd), .int .i64 (prE y9 rg)] ?_ (hm := by (obtain ⟨_, _, e0⟩ := hf15; rw [e0]; rfl)) (h1 := by (obtain ⟨_, _, e0⟩ := hf15; rw [e0]; rfl)) (ha' := by (obtain ⟨_, _, e0⟩ := hf15; rw [e0]; rfl))
            refine s_nil (xs_held [] ?_)
            refine h_doneS ?_
            refine xs_then ?_
            refine k_seq ?_
            refine k_reg ?_
            refine s_lt (t_pure (.pointer (some ⟨g21, 0, none⟩))) ?_
            refine s_lt (t_load 0 lv12) ?_
            refine s_lt (t_pure (.pointer (some ⟨g20, 0, none⟩))) ?_
            refine s_lt (t_load 1 lv14) ?_
            refine s_vcall (fun _ h => ints_s (Acc.kn (.own 5) h) (Acc.kn (.own 3) h)) ?_
            rintro u23 e22
            obtain rfl : u23 = .bool true := e22.trans (congrArg Value.bool (decide_eq_true rfl))
            refine s_lt (t_pure (.bool false)) ?_
            refine s_lt (t_pure (.bool false)) ?_
            refine s_lt (t_pure (.pointer (some ⟨g21, 1, none⟩))) ?_
            refine s_lt (t_load 0 (.int .i64 (prN y9 pd))) ?_
            refine s_lt (t_pure (.pointer (some ⟨g20, 1, none⟩))) ?_
            refine s_lt (t_load 1 (.int .i64 (prN y9 pd))) ?_
            refine s_lt (Lt.to t_cmp (congrArg Value.bool (decide_eq_false (fun h => h rfl) : (decide ((prN y9 pd) ≠ (prN y9 pd))) = false))) ?_
            refine s_lt (t_pure (.bool false)) ?_
            refine s_lt (t_pure (.bool false)) ?_
            refine s_lt (t_pure (.pointer (some ⟨g21, 2, none⟩))) ?_
            refine s_lt (t_load 0 (.bool (prB y9 rg pd))) ?_
            refine s_lt (t_pure (.pointer (some ⟨g20, 2, none⟩))) ?_
            refine s_lt (t_load 1 (.bool (prB y9 rg pd))) ?_
            refine s_lt (Lt.to (t_pure (.bool ((prB y9 rg pd) != (prB y9 rg pd)))) (congrArg Value.bool (by simp : ((prB y9 rg pd) != (prB y9 rg pd)) = false))) ?_
            refine s_lt (t_pure (.bool false)) ?_
            refine s_lt (t_pure (.bool false)) ?_
            refine s_lt (t_pure (.pointer (some ⟨g21, 3, none⟩))) ?_
            refine s_lt (t_load 0 (.int .i64 (prE y9 rg))) ?_
            refine s_lt (t_pure (.pointer (some ⟨g20, 3, none⟩))) ?_
            refine s_lt (t_load 1 (.int .i64 (prE y9 rg))) ?_
            refine s_lt (Lt.to t_cmp (congrArg Value.bool (decide_eq_false (fun h => h rfl) : (decide ((prE y9 rg) ≠ (prE y9 rg))) = false))) ?_
            refine s_lt (t_pure (.bool false)) ?_
            refine s_nil ?_
            refine xs_then ?_
            refine k_false ?_
            refine k_skip ?_
            refine xs_block ?_
            refine xs_then ?_
            refine k_reg ?_
            refine s_lt (t_add (i : Int) 1 (by (try simp only [List.length_nil, List.length_cons, List.length_append, List.length_take, List.length_drop, List.length_set, List.length_replicate, List.length_reverse, bits_len]); omega)) ?_
            refine s_lt (t_pure (.int .i64 ((i : Int) + 1))) ?_
            refine s_nil ?_
            exact xs_round (prR y9 rg, prP y9 rg pd, i + 1) (by show L.length - (i + 1) < L.length - i; omega) (by obtain ⟨hi1, hi2⟩ := hi6; have := pr_len y9 rg pd; exact ⟨by omega, by omega⟩) (sub_of rfl ⟨⟨rfl, rfl⟩, ⟨⟨rfl, rfl⟩, ⟨⟨rfl, rfl⟩, ⟨⟨rfl, rfl⟩, ⟨⟨rfl, rfl⟩, ⟨⟨rfl, rfl⟩, trivial⟩⟩⟩⟩⟩⟩) (fun _ h => h.re [2, 3] [2, 2, 2, 2])
        ·
          refine s_alloc (.agg #[(.slice none 0 0), .int .i64 0, .bool false, .int .i64 0]) #[(.slice none 0 0), .int .i64 0, .bool false, .int .i64 0] (fun g24 => ?_)
          refine s_nil (xs_held [] ?_)
          refine h_stepS2 11 13 ?_ ?_
          ·
            refine s_call [3] (document_s (reg := rg) (pend := pd) hk11 (by first | omega | (simp only [List.length_nil]; omega) | decide) (by first | omega | (simp only [List.length_nil]; omega) | decide)) ?_
            rintro _ _ ⟨lv25, rfl, rfl⟩
            refine s_fact (fun H h => ((Acc.own (T := iTy) (L := (prL y9 rg pd)) 1 rfl) H h).form) (fun hf26 => ?_)
            refine s_nil (xs_held [] ?_)
            refine h_stepS 13 ?_
            refine s_alloc (.agg #[(.slice none 0 0), .int .i64 0, .bool false, .int .i64 0]) #[(.slice none 0 0), .int .i64 0, .bool false, .int .i64 0] (fun g27 => ?_)
            refine s_nil (xs_held [] ?_)
            refine h_stepS 14 ?_
            refine s_store (u := .agg #[lv12, .int .i64 (prN y9 pd), .bool (prB y9 rg pd), .int .i64 (prE y9 rg)]) (m := 4) 3 #[lv12, .int .i64 (prN y9 pd), .bool (prB y9 rg pd), .int .i64 (prE y9 rg)] ?_ (hm := by (obtain ⟨_, _, e0⟩ := hf13; rw [e0]; rfl)) (h1 := by (obtain ⟨_, _, e0⟩ := hf13; rw [e0]; rfl)) (ha' := by (obtain ⟨_, _, e0⟩ := hf13; rw [e0]; rfl))
            refine s_nil (xs_held [] ?_)
            refine h_stepS 15 ?_
            refine s_store (u := .agg #[lv25, .int .i64 (prN y9 pd), .bool (prB y9 rg pd), .int .i64 (prE y9 rg)]) (m := 4) 0 #[lv25, .int .i64 (prN y9 pd), .bool (prB y9 rg pd), .int .i64 (prE y9 rg)] ?_ (hm := by (obtain ⟨_, _, e0⟩ := hf26; rw [e0]; rfl)) (h1 := by (obtain ⟨_, _, e0⟩ := hf26; rw [e0]; rfl)) (ha' := by (obtain ⟨_, _, e0⟩ := hf26; rw [e0]; rfl))
            refine s_nil (xs_held [] ?_)
            refine h_doneS ?_
            refine xs_then ?_
            refine k_seq ?_
            refine k_reg ?_
            refine s_lt (t_pure (.pointer (some ⟨g24, 0, none⟩))) ?_
            refine s_lt (t_load 3 lv12) ?_
            refine s_lt (t_pure (.pointer (some ⟨g27, 0, none⟩))) ?_
            refine s_lt (t_load 0 lv25) ?_
            refine s_vcall (fun _ h => ints_s (Acc.kn (.own 5) h) (Acc.kn (.own 2) h)) ?_
            rintro u29 e28
            obtain rfl : u29 = .bool true := e28.trans (congrArg Value.bool (decide_eq_true rfl))
            refine s_lt (t_pure (.bool false)) ?_
            refine s_lt (t_pure (.bool false)) ?_
            refine s_lt (t_pure (.pointer (some ⟨g24, 1, none⟩))) ?_
            refine s_lt (t_load 3 (.int .i64 (prN y9 pd))) ?_
            refine s_lt (t_pure (.pointer (some ⟨g27, 1, none⟩))) ?_
            refine s_lt (t_load 0 (.int .i64 (prN y9 pd))) ?_
            refine s_lt (Lt.to t_cmp (congrArg Value.bool (decide_eq_false (fun h => h rfl) : (decide ((prN y9 pd) ≠ (prN y9 pd))) = false))) ?_
            refine s_lt (t_pure (.bool false)) ?_
            refine s_lt (t_pure (.bool false)) ?_
            refine s_lt (t_pure (.pointer (some ⟨g24, 2, none⟩))) ?_
            refine s_lt (t_load 3 (.bool (prB y9 rg pd))) ?_
            refine s_lt (t_pure (.pointer (some ⟨g27, 2, none⟩))) ?_
            refine s_lt (t_load 0 (.bool (prB y9 rg pd))) ?_
            refine s_lt (Lt.to (t_pure (.bool ((prB y9 rg pd) != (prB y9 rg pd)))) (congrArg Value.bool (by simp : ((prB y9 rg pd) != (prB y9 rg pd)) = false))) ?_
            refine s_lt (t_pure (.bool false)) ?_
            refine s_lt (t_pure (.bool false)) ?_
            refine s_lt (t_pure (.pointer (some ⟨g24, 3, none⟩))) ?_
            refine s_lt (t_load 3 (.int .i64 (prE y9 rg))) ?_
            refine s_lt (t_pure (.pointer (some ⟨g27, 3, none⟩))) ?_
            refine s_lt (t_load 0 (.int .i64 (prE y9 rg))) ?_
            refine s_lt (Lt.to t_cmp (congrArg Value.bool (decide_eq_false (fun h => h rfl) : (decide ((prE y9 rg) ≠ (prE y9 rg))) = false))) ?_
            refine s_lt (t_pure (.bool false)) ?_
            refine s_nil ?_
            refine xs_then ?_
            refine k_false ?_
            refine k_skip ?_
            refine xs_block ?_
            refine xs_then ?_
            refine k_reg ?_
            refine s_lt (t_add (i : Int) 1 (by (try simp only [List.length_nil, List.length_cons, List.length_append, List.length_take, List.length_drop, List.length_set, List.length_replicate, List.length_reverse, bits_len]); omega)) ?_
            refine s_lt (t_pure (.int .i64 ((i : Int) + 1))) ?_
            refine s_nil ?_
            exact xs_round (prR y9 rg, prP y9 rg pd, i + 1) (by show L.length - (i + 1) < L.length - i; omega) (by obtain ⟨hi1, hi2⟩ := hi6; have := pr_len y9 rg pd; exact ⟨by omega, by omega⟩) (sub_of rfl ⟨⟨rfl, rfl⟩, ⟨⟨rfl, rfl⟩, ⟨⟨rfl, rfl⟩, ⟨⟨rfl, rfl⟩, ⟨⟨rfl, rfl⟩, ⟨⟨rfl, rfl⟩, trivial⟩⟩⟩⟩⟩⟩) (fun _ h => h.re [1, 3] [2, 2, 2, 2])
          ·
            refine s_alloc (.agg #[(.slice none 0 0), .int .i64 0, .bool false, .int .i64 0]) #[(.slice none 0 0), .int .i64 0, .bool false, .int .i64 0] (fun g30 => ?_)
            refine s_nil (xs_held [] ?_)
            refine h_stepS 11 ?_
            refine s_call [4] (document_s (reg := rg) (pend := pd) hk11 (by first | omega | (simp only [List.length_nil]; omega) | decide) (by first | omega | (simp only [List.length_nil]; omega) | decide)) ?_
            rintro _ _ ⟨lv31, rfl, rfl⟩
            refine s_fact (fun H h => ((Acc.own (T := iTy) (L := (prL y9 rg pd)) 1 rfl) H h).form) (fun hf32 => ?_)
            refine s_nil (xs_held [] ?_)
            refine h_stepS 14 ?_
            refine s_store (u := .agg #[lv12, .int .i64 (prN y9 pd), .bool (prB y9 rg pd), .int .i64 (prE y9 rg)]) (m := 4) 3 #[lv12, .int .i64 (prN y9 pd), .bool (prB y9 rg pd), .int .i64 (prE y9 rg)] ?_ (hm := by (obtain ⟨_, _, e0⟩ := hf13; rw [e0]; rfl)) (h1 := by (obtain ⟨_, _, e0⟩ := hf13; rw [e0]; rfl)) (ha' := by (obtain ⟨_, _, e0⟩ := hf13; rw [e0]; rfl))
            refine s_nil (xs_held [] ?_)
            refine h_stepS 15 ?_
            refine s_store (u := .agg #[lv31, .int .i64 (prN y9 pd), .bool (prB y9 rg pd), .int .i64 (prE y9 rg)]) (m := 4) 2 #[lv31, .int .i64 (prN y9 pd), .bool (prB y9 rg pd), .int .i64 (prE y9 rg)] ?_ (hm := by (obtain ⟨_, _, e0⟩ := hf32; rw [e0]; rfl)) (h1 := by (obtain ⟨_, _, e0⟩ := hf32; rw [e0]; rfl)) (ha' := by (obtain ⟨_, _, e0⟩ := hf32; rw [e0]; rfl))
            refine s_nil (xs_held [] ?_)
            refine h_doneS ?_
            refine xs_then ?_
            refine k_seq ?_
            refine k_reg ?_
            refine s_lt (t_pure (.pointer (some ⟨g24, 0, none⟩))) ?_
            refine s_lt (t_load 3 lv12) ?_
            refine s_lt (t_pure (.pointer (some ⟨g30, 0, none⟩))) ?_
            refine s_lt (t_load 2 lv31) ?_
            refine s_vcall (fun _ h => ints_s (Acc.kn (.own 5) h) (Acc.kn (.own 1) h)) ?_
            rintro u34 e33
            obtain rfl : u34 = .bool true := e33.trans (congrArg Value.bool (decide_eq_true rfl))
            refine s_lt (t_pure (.bool false)) ?_
            refine s_lt (t_pure (.bool false)) ?_
            refine s_lt (t_pure (.pointer (some ⟨g24, 1, none⟩))) ?_
            refine s_lt (t_load 3 (.int .i64 (prN y9 pd))) ?_
            refine s_lt (t_pure (.pointer (some ⟨g30, 1, none⟩))) ?_
            refine s_lt (t_load 2 (.int .i64 (prN y9 pd))) ?_
            refine s_lt (Lt.to t_cmp (congrArg Value.bool (decide_eq_false (fun h => h rfl) : (decide ((prN y9 pd) ≠ (prN y9 pd))) = false))) ?_
            refine s_lt (t_pure (.bool false)) ?_
            refine s_lt (t_pure (.bool false)) ?_
            refine s_lt (t_pure (.pointer (some ⟨g24, 2, none⟩))) ?_
            refine s_lt (t_load 3 (.bool (prB y9 rg pd))) ?_
            refine s_lt (t_pure (.pointer (some ⟨g30, 2, none⟩))) ?_
            refine s_lt (t_load 2 (.bool (prB y9 rg pd))) ?_
            refine s_lt (Lt.to (t_pure (.bool ((prB y9 rg pd) != (prB y9 rg pd)))) (congrArg Value.bool (by simp : ((prB y9 rg pd) != (prB y9 rg pd)) = false))) ?_
            refine s_lt (t_pure (.bool false)) ?_
            refine s_lt (t_pure (.bool false)) ?_
            refine s_lt (t_pure (.pointer (some ⟨g24, 3, none⟩))) ?_
            refine s_lt (t_load 3 (.int .i64 (prE y9 rg))) ?_
            refine s_lt (t_pure (.pointer (some ⟨g30, 3, none⟩))) ?_
            refine s_lt (t_load 2 (.int .i64 (prE y9 rg))) ?_
            refine s_lt (Lt.to t_cmp (congrArg Value.bool (decide_eq_false (fun h => h rfl) : (decide ((prE y9 rg) ≠ (prE y9 rg))) = false))) ?_
            refine s_lt (t_pure (.bool false)) ?_
            refine s_nil ?_
            refine xs_then ?_
            refine k_false ?_
            refine k_skip ?_
            refine xs_block ?_
            refine xs_then ?_
            refine k_reg ?_
            refine s_lt (t_add (i : Int) 1 (by (try simp only [List.length_nil, List.length_cons, List.length_append, List.length_take, List.length_drop, List.length_set, List.length_replicate, List.length_reverse, bits_len]); omega)) ?_
            refine s_lt (t_pure (.int .i64 ((i : Int) + 1))) ?_
            refine s_nil ?_
            exact xs_round (prR y9 rg, prP y9 rg pd, i + 1) (by show L.length - (i + 1) < L.length - i; omega) (by obtain ⟨hi1, hi2⟩ := hi6; have := pr_len y9 rg pd; exact ⟨by omega, by omega⟩) (sub_of rfl ⟨⟨rfl, rfl⟩, ⟨⟨rfl, rfl⟩, ⟨⟨rfl, rfl⟩, ⟨⟨rfl, rfl⟩, ⟨⟨rfl, rfl⟩, ⟨⟨rfl, rfl⟩, trivial⟩⟩⟩⟩⟩⟩) (fun _ h => h.re [0, 3] [2, 2, 2, 2])
        ·
          refine s_alloc (.agg #[(.slice none 0 0), .int .i64 0, .bool false, .int .i64 0]) #[(.slice none 0 0), .int .i64 0, .bool false, .int .i64 0] (fun g35 => ?_)
          refine s_nil (xs_held [] ?_)
          refine h_stepS2 11 12 ?_ ?_
          ·
            refine s_call [3] (document_s (reg := rg) (pend := pd) hk11 (by first | omega | (simp only [List.length_nil]; omega) | decide) (by first | omega | (simp only [List.length_nil]; omega) | decide)) ?_
            rintro _ _ ⟨lv36, rfl, rfl⟩
            refine s_fact (fun H h => ((Acc.own (T := iTy) (L := (prL y9 rg pd)) 1 rfl) H h).form) (fun hf37 => ?_)
            refine s_nil (xs_held [] ?_)
            refine h_stepS 12 ?_
            refine s_alloc (.agg #[(.slice none 0 0), .int .i64 0, .bool false, .int .i64 0]) #[(.slice none 0 0), .int .i64 0, .bool false, .int .i64 0] (fun g38 => ?_)
            refine s_nil (xs_held [] ?_)
            refine h_stepS 14 ?_
            refine s_store (u := .agg #[lv12, .int .i64 (prN y9 pd), .bool (prB y9 rg pd), .int .i64 (prE y9 rg)]) (m := 4) 0 #[lv12, .int .i64 (prN y9 pd), .bool (prB y9 rg pd), .int .i64 (prE y9 rg)] ?_ (hm := by (obtain ⟨_, _, e0⟩ := hf13; rw [e0]; rfl)) (h1 := by (obtain ⟨_, _, e0⟩ := hf13; rw [e0]; rfl)) (ha' := by (obtain ⟨_, _, e0⟩ := hf13; rw [e0]; rfl))
            refine s_nil (xs_held [] ?_)
            refine h_stepS 15 ?_
            refine s_store (u := .agg #[lv36, .int .i64 (prN y9 pd), .bool (prB y9 rg pd), .int .i64 (prE y9 rg)]) (m := 4) 3 #[lv36, .int .i64 (prN y9 pd), .bool (prB y9 rg pd), .int .i64 (prE y9 rg)] ?_ (hm := by (obtain ⟨_, _, e0⟩ := hf37; rw [e0]; rfl)) (h1 := by (obtain ⟨_, _, e0⟩ := hf37; rw [e0]; rfl)) (ha' := by (obtain ⟨_, _, e0⟩ := hf37; rw [e0]; rfl))
            refine s_nil (xs_held [] ?_)
            refine h_doneS ?_
            refine xs_then ?_
            refine k_seq ?_
            refine k_reg ?_
            refine s_lt (t_pure (.pointer (some ⟨g38, 0, none⟩))) ?_
            refine s_lt (t_load 0 lv12) ?_
            refine s_lt (t_pure (.pointer (some ⟨g35, 0, none⟩))) ?_
            refine s_lt (t_load 3 lv36) ?_
            refine s_vcall (fun _ h => ints_s (Acc.kn (.own 5) h) (Acc.kn (.own 2) h)) ?_
            rintro u40 e39
            obtain rfl : u40 = .bool true := e39.trans (congrArg Value.bool (decide_eq_true rfl))
            refine s_lt (t_pure (.bool false)) ?_
            refine s_lt (t_pure (.bool false)) ?_
            refine s_lt (t_pure (.pointer (some ⟨g38, 1, none⟩))) ?_
            refine s_lt (t_load 0 (.int .i64 (prN y9 pd))) ?_
            refine s_lt (t_pure (.pointer (some ⟨g35, 1, none⟩))) ?_
            refine s_lt (t_load 3 (.int .i64 (prN y9 pd))) ?_
            refine s_lt (Lt.to t_cmp (congrArg Value.bool (decide_eq_false (fun h => h rfl) : (decide ((prN y9 pd) ≠ (prN y9 pd))) = false))) ?_
            refine s_lt (t_pure (.bool false)) ?_
            refine s_lt (t_pure (.bool false)) ?_
            refine s_lt (t_pure (.pointer (some ⟨g38, 2, none⟩))) ?_
            refine s_lt (t_load 0 (.bool (prB y9 rg pd))) ?_
            refine s_lt (t_pure (.pointer (some ⟨g35, 2, none⟩))) ?_
            refine s_lt (t_load 3 (.bool (prB y9 rg pd))) ?_
            refine s_lt (Lt.to (t_pure (.bool ((prB y9 rg pd) != (prB y9 rg pd)))) (congrArg Value.bool (by simp : ((prB y9 rg pd) != (prB y9 rg pd)) = false))) ?_
            refine s_lt (t_pure (.bool false)) ?_
            refine s_lt (t_pure (.bool false)) ?_
            refine s_lt (t_pure (.pointer (some ⟨g38, 3, none⟩))) ?_
            refine s_lt (t_load 0 (.int .i64 (prE y9 rg))) ?_
            refine s_lt (t_pure (.pointer (some ⟨g35, 3, none⟩))) ?_
            refine s_lt (t_load 3 (.int .i64 (prE y9 rg))) ?_
            refine s_lt (Lt.to t_cmp (congrArg Value.bool (decide_eq_false (fun h => h rfl) : (decide ((prE y9 rg) ≠ (prE y9 rg))) = false))) ?_
            refine s_lt (t_pure (.bool false)) ?_
            refine s_nil ?_
            refine xs_then ?_
            refine k_false ?_
            refine k_skip ?_
            refine xs_block ?_
            refine xs_then ?_
            refine k_reg ?_
            refine s_lt (t_add (i : Int) 1 (by (try simp only [List.length_nil, List.length_cons, List.length_append, List.length_take, List.length_drop, List.length_set, List.length_replicate, List.length_reverse, bits_len]); omega)) ?_
            refine s_lt (t_pure (.int .i64 ((i : Int) + 1))) ?_
            refine s_nil ?_
            exact xs_round (prR y9 rg, prP y9 rg pd, i + 1) (by show L.length - (i + 1) < L.length - i; omega) (by obtain ⟨hi1, hi2⟩ := hi6; have := pr_len y9 rg pd; exact ⟨by omega, by omega⟩) (sub_of rfl ⟨⟨rfl, rfl⟩, ⟨⟨rfl, rfl⟩, ⟨⟨rfl, rfl⟩, ⟨⟨rfl, rfl⟩, ⟨⟨rfl, rfl⟩, ⟨⟨rfl, rfl⟩, trivial⟩⟩⟩⟩⟩⟩) (fun _ h => h.re [1, 3] [2, 2, 2, 2])
          ·
            refine s_alloc (.agg #[(.slice none 0 0), .int .i64 0, .bool false, .int .i64 0]) #[(.slice none 0 0), .int .i64 0, .bool false, .int .i64 0] (fun g41 => ?_)
            refine s_nil (xs_held [] ?_)
            refine h_stepS 11 ?_
            refine s_call [4] (document_s (reg := rg) (pend := pd) hk11 (by first | omega | (simp only [List.length_nil]; omega) | decide) (by first | omega | (simp only [List.length_nil]; omega) | decide)) ?_
            rintro _ _ ⟨lv42, rfl, rfl⟩
            refine s_fact (fun H h => ((Acc.own (T := iTy) (L := (prL y9 rg pd)) 1 rfl) H h).form) (fun hf43 => ?_)
            refine s_nil (xs_held [] ?_)
            refine h_stepS 14 ?_
            refine s_store (u := .agg #[lv12, .int .i64 (prN y9 pd), .bool (prB y9 rg pd), .int .i64 (prE y9 rg)]) (m := 4) 2 #[lv12, .int .i64 (prN y9 pd), .bool (prB y9 rg pd), .int .i64 (prE y9 rg)] ?_ (hm := by (obtain ⟨_, _, e0⟩ := hf13; rw [e0]; rfl)) (h1 := by (obtain ⟨_, _, e0⟩ := hf13; rw [e0]; rfl)) (ha' := by (obtain ⟨_, _, e0⟩ := hf13; rw [e0]; rfl))
            refine s_nil (xs_held [] ?_)
            refine h_stepS 15 ?_
            refine s_store (u := .agg #[lv42, .int .i64 (prN y9 pd), .bool (prB y9 rg pd), .int .i64 (prE y9 rg)]) (m := 4) 3 #[lv42, .int .i64 (prN y9 pd), .bool (prB y9 rg pd), .int .i64 (prE y9 rg)] ?_ (hm := by (obtain ⟨_, _, e0⟩ := hf43; rw [e0]; rfl)) (h1 := by (obtain ⟨_, _, e0⟩ := hf43; rw [e0]; rfl)) (ha' := by (obtain ⟨_, _, e0⟩ := hf43; rw [e0]; rfl))
            refine s_nil (xs_held [] ?_)
            refine h_doneS ?_
            refine xs_then ?_
            refine k_seq ?_
            refine k_reg ?_
            refine s_lt (t_pure (.pointer (some ⟨g41, 0, none⟩))) ?_
            refine s_lt (t_load 2 lv12) ?_
            refine s_lt (t_pure (.pointer (some ⟨g35, 0, none⟩))) ?_
            refine s_lt (t_load 3 lv42) ?_
            refine s_vcall (fun _ h => ints_s (Acc.kn (.own 5) h) (Acc.kn (.own 1) h)) ?_
            rintro u45 e44
            obtain rfl : u45 = .bool true := e44.trans (congrArg Value.bool (decide_eq_true rfl))
            refine s_lt (t_pure (.bool false)) ?_
            refine s_lt (t_pure (.bool false)) ?_
            refine s_lt (t_pure (.pointer (some ⟨g41, 1, none⟩))) ?_
            refine s_lt (t_load 2 (.int .i64 (prN y9 pd))) ?_
            refine s_lt (t_pure (.pointer (some ⟨g35, 1, none⟩))) ?_
            refine s_lt (t_load 3 (.int .i64 (prN y9 pd))) ?_
            refine s_lt (Lt.to t_cmp (congrArg Value.bool (decide_eq_false (fun h => h rfl) : (decide ((prN y9 pd) ≠ (prN y9 pd))) = false))) ?_
            refine s_lt (t_pure (.bool false)) ?_
            refine s_lt (t_pure (.bool false)) ?_
            refine s_lt (t_pure (.pointer (some ⟨g41, 2, none⟩))) ?_
            refine s_lt (t_load 2 (.bool (prB y9 rg pd))) ?_
            refine s_lt (t_pure (.pointer (some ⟨g35, 2, none⟩))) ?_
            refine s_lt (t_load 3 (.bool (prB y9 rg pd))) ?_
            refine s_lt (Lt.to (t_pure (.bool ((prB y9 rg pd) != (prB y9 rg pd)))) (congrArg Value.bool (by simp : ((prB y9 rg pd) != (prB y9 rg pd)) = false))) ?_
            refine s_lt (t_pure (.bool false)) ?_
            refine s_lt (t_pure (.bool false)) ?_
            refine s_lt (t_pure (.pointer (some ⟨g41, 3, none⟩))) ?_
            refine s_lt (t_load 2 (.int .i64 (prE y9 rg))) ?_
            refine s_lt (t_pure (.pointer (some ⟨g35, 3, none⟩))) ?_
            refine s_lt (t_load 3 (.int .i64 (prE y9 rg))) ?_
            refine s_lt (Lt.to t_cmp (congrArg Value.bool (decide_eq_false (fun h => h rfl) : (decide ((prE y9 rg) ≠ (prE y9 rg))) = false))) ?_
            refine s_lt (t_pure (.bool false)) ?_
            refine s_nil ?_
            refine xs_then ?_
            refine k_false ?_
            refine k_skip ?_
            refine xs_block ?_
            refine xs_then ?_
            refine k_reg ?_
            refine s_lt (t_add (i : Int) 1 (by (try simp only [List.length_nil, List.length_cons, List.length_append, List.length_take, List.length_drop, List.length_set, List.length_replicate, List.length_reverse, bits_len]); omega)) ?_
            refine s_lt (t_pure (.int .i64 ((i : Int) + 1))) ?_
            refine s_nil ?_
            exact xs_round (prR y9 rg, prP y9 rg pd, i + 1) (by show L.length - (i + 1) < L.length - i; omega) (by obtain ⟨hi1, hi2⟩ := hi6; have := pr_len y9 rg pd; exact ⟨by omega, by omega⟩) (sub_of rfl ⟨⟨rfl, rfl⟩, ⟨⟨rfl, rfl⟩, ⟨⟨rfl, rfl⟩, ⟨⟨rfl, rfl⟩, ⟨⟨rfl, rfl⟩, ⟨⟨rfl, rfl⟩, trivial⟩⟩⟩⟩⟩⟩) (fun _ h => h.re [0, 3] [2, 2, 2, 2])
      ·
        refine s_alloc (.agg #[(.slice none 0 0), .int .i64 0, .bool false, .int .i64 0]) #[(.slice none 0 0), .int .i64 0, .bool false, .int .i64 0] (fun g46 => ?_)
        refine s_nil (xs_held [] ?_)
        refine h_stepS2 5 13 ?_ ?_
        ·
          refine s_call [2] (program_s (reg := rg) (pend := pd) hk11 (by first | omega | (simp only [List.length_nil]; omega) | decide) (by first | omega | (simp only [List.length_nil]; omega) | decide)) ?_
          rintro _ _ ⟨lv47, rfl, rfl⟩
          refine s_fact (fun H h => ((Acc.own (T := iTy) (L := (prL y9 rg pd)) 1 rfl) H h).form) (fun hf48 => ?_)
          refine s_nil (xs_held [] ?_)
          refine h_stepS2 11 13 ?_ ?_
          ·
            refine s_call [3] (document_s (reg := rg) (pend := pd) hk11 (by first | omega | (simp only [List.length_nil]; omega) | decide) (by first | omega | (simp only [List.length_nil]; omega) | decide)) ?_
            rintro _ _ ⟨lv49, rfl, rfl⟩
            refine s_fact (fun H h => ((Acc.own (T := iTy) (L := (prL y9 rg pd)) 1 rfl) H h).form) (fun hf50 => ?_)
            refine s_nil (xs_held [] ?_)
            refine h_stepS 13 ?_
            refine s_alloc (.agg #[(.slice none 0 0), .int .i64 0, .bool false, .int .i64 0]) #[(.slice none 0 0), .int .i64 0, .bool false, .int .i64 0] (fun g51 => ?_)
            refine s_nil (xs_held [] ?_)
            refine h_stepS 14 ?_
            refine s_store (u := .agg #[lv47, .int .i64 (prN y9 pd), .bool (prB y9 rg pd), .int .i64 (prE y9 rg)]) (m := 4) 5 #[lv47, .int .i64 (prN y9 pd), .bool (prB y9 rg pd), .int .i64 (prE y9 rg)] ?_ (hm := by (obtain ⟨_, _, e0⟩ := hf48; rw [e0]; rfl)) (h1 := by (obtain ⟨_, _, e0⟩ := hf48; rw [e0]; rfl)) (ha' := by (obtain ⟨_, _, e0⟩ := hf48; rw [e0]; rfl))
            refine s_nil (xs_held [] ?_)
            refine h_stepS 15 ?_
            refine s_store (u := .agg #[lv49, .int .i64 (prN y9 pd), .bool (prB y9 rg pd), .int .i64 (prE y9 rg)]) (m := 4) 0 #[lv49, .int .i64 (prN y9 pd), .bool (prB y9 rg pd), .int .i64 (prE y9 rg)] ?_ (hm := by (obtain ⟨_, _, e0⟩ := hf50; rw [e0]; rfl)) (h1 := by (obtain ⟨_, _, e0⟩ := hf50; rw [e0]; rfl)) (ha' := by (obtain ⟨_, _, e0⟩ := hf50; rw [e0]; rfl))
            refine s_nil (xs_held [] ?_)
            refine h_doneS ?_
            refine xs_then ?_
            refine k_seq ?_
            refine k_reg ?_
            refine s_lt (t_pure (.pointer (some ⟨g46, 0, none⟩))) ?_
            refine s_lt (t_load 5 lv47) ?_
            refine s_lt (t_pure (.pointer (some ⟨g51, 0, none⟩))) ?_
            refine s_lt (t_load 0 lv49) ?_
            refine s_vcall (fun _ h => ints_s (Acc.kn (.own 4) h) (Acc.kn (.own 2) h)) ?_
            rintro u53 e52
            obtain rfl : u53 = .bool true := e52.trans (congrArg Value.bool (decide_eq_true rfl))
            refine s_lt (t_pure (.bool false)) ?_
            refine s_lt (t_pure (.bool false)) ?_
            refine s_lt (t_pure (.pointer (some ⟨g46, 1, none⟩))) ?_
            refine s_lt (t_load 5 (.int .i64 (prN y9 pd))) ?_
            refine s_lt (t_pure (.pointer (some ⟨g51, 1, none⟩))) ?_
            refine s_lt (t_load 0 (.int .i64 (prN y9 pd))) ?_
            refine s_lt (Lt.to t_cmp (congrArg Value.bool (decide_eq_false (fun h => h rfl) : (decide ((prN y9 pd) ≠ (prN y9 pd))) = false))) ?_
            refine s_lt (t_pure (.bool false)) ?_
            refine s_lt (t_pure (.bool false)) ?_
            refine s_lt (t_pure (.pointer (some ⟨g46, 2, none⟩))) ?_
            refine s_lt (t_load 5 (.bool (prB y9 rg pd))) ?_
            refine s_lt (t_pure (.pointer (some ⟨g51, 2, none⟩))) ?_
            refine s_lt (t_load 0 (.bool (prB y9 rg pd))) ?_
            refine s_lt (Lt.to (t_pure (.bool ((prB y9 rg pd) != (prB y9 rg pd)))) (congrArg Value.bool (by simp : ((prB y9 rg pd) != (prB y9 rg pd)) = false))) ?_
            refine s_lt (t_pure (.bool false)) ?_
            refine s_lt (t_pure (.bool false)) ?_
            refine s_lt (t_pure (.pointer (some ⟨g46, 3, none⟩))) ?_
            refine s_lt (t_load 5 (.int .i64 (prE y9 rg))) ?_
            refine s_lt (t_pure (.pointer (some ⟨g51, 3, none⟩))) ?_
            refine s_lt (t_load 0 (.int .i64 (prE y9 rg))) ?_
            refine s_lt (Lt.to t_cmp (congrArg Value.bool (decide_eq_false (fun h => h rfl) : (decide ((prE y9 rg) ≠ (prE y9 rg))) = false))) ?_
            refine s_lt (t_pure (.bool false)) ?_
            refine s_nil ?_
            refine xs_then ?_
            refine k_false ?_
            refine k_skip ?_
            refine xs_block ?_
            refine xs_then ?_
            refine k_reg ?_
            refine s_lt (t_add (i : Int) 1 (by (try simp only [List.length_nil, List.length_cons, List.length_append, List.length_take, List.length_drop, List.length_set, List.length_replicate, List.length_reverse, bits_len]); omega)) ?_
            refine s_lt (t_pure (.int .i64 ((i : Int) + 1))) ?_
            refine s_nil ?_
            exact xs_round (prR y9 rg, prP y9 rg pd, i + 1) (by show L.length - (i + 1) < L.length - i; omega) (by obtain ⟨hi1, hi2⟩ := hi6; have := pr_len y9 rg pd; exact ⟨by omega, by omega⟩) (sub_of rfl ⟨⟨rfl, rfl⟩, ⟨⟨rfl, rfl⟩, ⟨⟨rfl, rfl⟩, ⟨⟨rfl, rfl⟩, ⟨⟨rfl, rfl⟩, ⟨⟨rfl, rfl⟩, trivial⟩⟩⟩⟩⟩⟩) (fun _ h => h.re [1, 2] [2, 2, 2, 2])
          ·
            refine s_alloc (.agg #[(.slice none 0 0), .int .i64 0, .bool false, .int .i64 0]) #[(.slice none 0 0), .int .i64 0, .bool false, .int .i64 0] (fun g54 => ?_)
            refine s_nil (xs_held [] ?_)
            refine h_stepS 11 ?_
            refine s_call [4] (document_s (reg := rg) (pend := pd) hk11 (by first | omega | (simp only [List.length_nil]; omega) | decide) (by first | omega | (simp only [List.length_nil]; omega) | decide)) ?_
            rintro _ _ ⟨lv55, rfl, rfl⟩
            refine s_fact (fun H h => ((Acc.own (T := iTy) (L := (prL y9 rg pd)) 1 rfl) H h).form) (fun hf56 => ?_)
            refine s_nil (xs_held [] ?_)
            refine h_stepS 14 ?_
            refine s_store (u := .agg #[lv47, .int .i64 (prN y9 pd), .bool (prB y9 rg pd), .int .i64 (prE y9 rg)]) (m := 4) 5 #[lv47, .int .i64 (prN y9 pd), .bool (prB y9 rg pd), .int .i64 (prE y9 rg)] ?_ (hm := by (obtain ⟨_, _, e0⟩ := hf48; rw [e0]; rfl)) (h1 := by (obtain ⟨_, _, e0⟩ := hf48; rw [e0]; rfl)) (ha' := by (obtain ⟨_, _, e0⟩ := hf48; rw [e0]; rfl))
            refine s_nil (xs_held [] ?_)
            refine h_stepS 15 ?_
            refine s_store (u := .agg #[lv55, .int .i64 (prN y9 pd), .bool (prB y9 rg pd), .int .i64 (prE y9 rg)]) (m := 4) 2 #[lv55, .int .i64 (prN y9 pd), .bool (prB y9 rg pd), .int .i64 (prE y9 rg)] ?_ (hm := by (obtain ⟨_, _, e0⟩ := hf56; rw [e0]; rfl)) (h1 := by (obtain ⟨_, _, e0⟩ := hf56; rw [e0]; rfl)) (ha' := by (obtain ⟨_, _, e0⟩ := hf56; rw [e0]; rfl))
            refine s_nil (xs_held [] ?_)
            refine h_doneS ?_
            refine xs_then ?_
            refine k_seq ?_
            refine k_reg ?_
            refine s_lt (t_pure (.pointer (some ⟨g46, 0, none⟩))) ?_
            refine s_lt (t_load 5 lv47) ?_
            refine s_lt (t_pure (.pointer (some ⟨g54, 0, none⟩))) ?_
            refine s_lt (t_load 2 lv55) ?_
            refine s_vcall (fun _ h => ints_s (Acc.kn (.own 4) h) (Acc.kn (.own 1) h)) ?_
            rintro u58 e57
            obtain rfl : u58 = .bool true := e57.trans (congrArg Value.bool (decide_eq_true rfl))
            refine s_lt (t_pure (.bool false)) ?_
            refine s_lt (t_pure (.bool false)) ?_
            refine s_lt (t_pure (.pointer (some ⟨g46, 1, none⟩))) ?_
            refine s_lt (t_load 5 (.int .i64 (prN y9 pd))) ?_
            refine s_lt (t_pure (.pointer (some ⟨g54, 1, none⟩))) ?_
            refine s_lt (t_load 2 (.int .i64 (prN y9 pd))) ?_
            refine s_lt (Lt.to t_cmp (congrArg Value.bool (decide_eq_false (fun h => h rfl) : (decide ((prN y9 pd) ≠ (prN y9 pd))) = false))) ?_
            refine s_lt (t_pure (.bool false)) ?_
            refine s_lt (t_pure (.bool false)) ?_
            refine s_lt (t_pure (.pointer (some ⟨g46, 2, none⟩))) ?_
            refine s_lt (t_load 5 (.bool (prB y9 rg pd))) ?_
            refine s_lt (t_pure (.pointer (some ⟨g54, 2, none⟩))) ?_
            refine s_lt (t_load 2 (.bool (prB y9 rg pd))) ?_
            refine s_lt (Lt.to (t_pure (.bool ((prB y9 rg pd) != (prB y9 rg pd)))) (congrArg Value.bool (by simp : ((prB y9 rg pd) != (prB y9 rg pd)) = false))) ?_
            refine s_lt (t_pure (.bool false)) ?_
            refine s_lt (t_pure (.bool false)) ?_
            refine s_lt (t_pure (.pointer (some ⟨g46, 3, none⟩))) ?_
            refine s_lt (t_load 5 (.int .i64 (prE y9 rg))) ?_
            refine s_lt (t_pure (.pointer (some ⟨g54, 3, none⟩))) ?_
            refine s_lt (t_load 2 (.int .i64 (prE y9 rg))) ?_
            refine s_lt (Lt.to t_cmp (congrArg Value.bool (decide_eq_false (fun h => h rfl) : (decide ((prE y9 rg) ≠ (prE y9 rg))) = false))) ?_
            refine s_lt (t_pure (.bool false)) ?_
            refine s_nil ?_
            refine xs_then ?_
            refine k_false ?_
            refine k_skip ?_
            refine xs_block ?_
            refine xs_then ?_
            refine k_reg ?_
            refine s_lt (t_add (i : Int) 1 (by (try simp only [List.length_nil, List.length_cons, List.length_append, List.length_take, List.length_drop, List.length_set, List.length_replicate, List.length_reverse, bits_len]); omega)) ?_
            refine s_lt (t_pure (.int .i64 ((i : Int) + 1))) ?_
            refine s_nil ?_
            exact xs_round (prR y9 rg, prP y9 rg pd, i + 1) (by show L.length - (i + 1) < L.length - i; omega) (by obtain ⟨hi1, hi2⟩ := hi6; have := pr_len y9 rg pd; exact ⟨by omega, by omega⟩) (sub_of rfl ⟨⟨rfl, rfl⟩, ⟨⟨rfl, rfl⟩, ⟨⟨rfl, rfl⟩, ⟨⟨rfl, rfl⟩, ⟨⟨rfl, rfl⟩, ⟨⟨rfl, rfl⟩, trivial⟩⟩⟩⟩⟩⟩) (fun _ h => h.re [0, 2] [2, 2, 2, 2])
        ·
          refine s_alloc (.agg #[(.slice none 0 0), .int .i64 0, .bool false, .int .i64 0]) #[(.slice none 0 0), .int .i64 0, .bool false, .int .i64 0] (fun g59 => ?_)
          refine s_nil (xs_held [] ?_)
          refine h_stepS 5 ?_
          refine s_call [3] (program_s (reg := rg) (pend := pd) hk11 (by first | omega | (simp only [List.length_nil]; omega) | decide) (by first | omega | (simp only [List.length_nil]; omega) | decide)) ?_
          rintro _ _ ⟨lv60, rfl, rfl⟩
          refine s_fact (fun H h => ((Acc.own (T := iTy) (L := (prL y9 rg pd)) 1 rfl) H h).form) (fun hf61 => ?_)
          refine s_nil (xs_held [] ?_)
          refine h_stepS 11 ?_
          refine s_call [4] (document_s (reg := rg) (pend := pd) hk11 (by first | omega | (simp only [List.length_nil]; omega) | decide) (by first | omega | (simp only [List.length_nil]; omega) | decide)) ?_
          rintro _ _ ⟨lv62, rfl, rfl⟩
          refine s_fact (fun H h => ((Acc.own (T := iTy) (L := (prL y9 rg pd)) 1 rfl) H h).form) (fun hf63 => ?_)
          refine s_nil (xs_held [] ?_)
          refine h_stepS 14 ?_
          refine s_store (u := .agg #[lv60, .int .i64 (prN y9 pd), .bool (prB y9 rg pd), .int .i64 (prE y9 rg)]) (m := 4) 5 #[lv60, .int .i64 (prN y9 pd), .bool (prB y9 rg pd), .int .i64 (prE y9 rg)] ?_ (hm := by (obtain ⟨_, _, e0⟩ := hf61; rw [e0]; rfl)) (h1 := by (obtain ⟨_, _, e0⟩ := hf61; rw [e0]; rfl)) (ha' := by (obtain ⟨_, _, e0⟩ := hf61; rw [e0]; rfl))
          refine s_nil (xs_held [] ?_)
          refine h_stepS 15 ?_
          refine s_store (u := .agg #[lv62, .int .i64 (prN y9 pd), .bool (prB y9 rg pd), .int .i64 (prE y9 rg)]) (m := 4) 4 #[lv62, .int .i64 (prN y9 pd), .bool (prB y9 rg pd), .int .i64 (prE y9 rg)] ?_ (hm := by (obtain ⟨_, _, e0⟩ := hf63; rw [e0]; rfl)) (h1 := by (obtain ⟨_, _, e0⟩ := hf63; rw [e0]; rfl)) (ha' := by (obtain ⟨_, _, e0⟩ := hf63; rw [e0]; rfl))
          refine s_nil (xs_held [] ?_)
          refine h_doneS ?_
          refine xs_then ?_
          refine k_seq ?_
          refine k_reg ?_
          refine s_lt (t_pure (.pointer (some ⟨g46, 0, none⟩))) ?_
          refine s_lt (t_load 5 lv60) ?_
          refine s_lt (t_pure (.pointer (some ⟨g59, 0, none⟩))) ?_
          refine s_lt (t_load 4 lv62) ?_
          refine s_vcall (fun _ h => ints_s (Acc.kn (.own 3) h) (Acc.kn (.own 1) h)) ?_
          rintro u65 e64
          obtain rfl : u65 = .bool true := e64.trans (congrArg Value.bool (decide_eq_true rfl))
          refine s_lt (t_pure (.bool false)) ?_
          refine s_lt (t_pure (.bool false)) ?_
          refine s_lt (t_pure (.pointer (some ⟨g46, 1, none⟩))) ?_
          refine s_lt (t_load 5 (.int .i64 (prN y9 pd))) ?_
          refine s_lt (t_pure (.pointer (some ⟨g59, 1, none⟩))) ?_
          refine s_lt (t_load 4 (.int .i64 (prN y9 pd))) ?_
          refine s_lt (Lt.to t_cmp (congrArg Value.bool (decide_eq_false (fun h => h rfl) : (decide ((prN y9 pd) ≠ (prN y9 pd))) = false))) ?_
          refine s_lt (t_pure (.bool false)) ?_
          refine s_lt (t_pure (.bool false)) ?_
          refine s_lt (t_pure (.pointer (some ⟨g46, 2, none⟩))) ?_
          refine s_lt (t_load 5 (.bool (prB y9 rg pd))) ?_
          refine s_lt (t_pure (.pointer (some ⟨g59, 2, none⟩))) ?_
          refine s_lt (t_load 4 (.bool (prB y9 rg pd))) ?_
          refine s_lt (Lt.to (t_pure (.bool ((prB y9 rg pd) != (prB y9 rg pd)))) (congrArg Value.bool (by simp : ((prB y9 rg pd) != (prB y9 rg pd)) = false))) ?_
          refine s_lt (t_pure (.bool false)) ?_
          refine s_lt (t_pure (.bool false)) ?_
          refine s_lt (t_pure (.pointer (some ⟨g46, 3, none⟩))) ?_
          refine s_lt (t_load 5 (.int .i64 (prE y9 rg))) ?_
          refine s_lt (t_pure (.pointer (some ⟨g59, 3, none⟩))) ?_
          refine s_lt (t_load 4 (.int .i64 (prE y9 rg))) ?_
          refine s_lt (Lt.to t_cmp (congrArg Value.bool (decide_eq_false (fun h => h rfl) : (decide ((prE y9 rg) ≠ (prE y9 rg))) = false))) ?_
          refine s_lt (t_pure (.bool false)) ?_
          refine s_nil ?_
          refine xs_then ?_
          refine k_false ?_
          refine k_skip ?_
          refine xs_block ?_
          refine xs_then ?_
          refine k_reg ?_
          refine s_lt (t_add (i : Int) 1 (by (try simp only [List.length_nil, List.length_cons, List.length_append, List.length_take, List.length_drop, List.length_set, List.length_replicate, List.length_reverse, bits_len]); omega)) ?_
          refine s_lt (t_pure (.int .i64 ((i : Int) + 1))) ?_
          refine s_nil ?_
          exact xs_round (prR y9 rg, prP y9 rg pd, i + 1) (by show L.length - (i + 1) < L.length - i; omega) (by obtain ⟨hi1, hi2⟩ := hi6; have := pr_len y9 rg pd; exact ⟨by omega, by omega⟩) (sub_of rfl ⟨⟨rfl, rfl⟩, ⟨⟨rfl, rfl⟩, ⟨⟨rfl, rfl⟩, ⟨⟨rfl, rfl⟩, ⟨⟨rfl, rfl⟩, ⟨⟨rfl, rfl⟩, trivial⟩⟩⟩⟩⟩⟩) (fun _ h => h.re [0, 1] [2, 2, 2, 2])
      ·
        refine s_alloc (.agg #[(.slice none 0 0), .int .i64 0, .bool false, .int .i64 0]) #[(.slice none 0 0), .int .i64 0, .bool false, .int .i64 0] (fun g66 => ?_)
        refine s_nil (xs_held [] ?_)
        refine h_stepS2 5 12 ?_ ?_
        ·
          refine s_call [2] (program_s (reg := rg) (pend := pd) hk11 (by first | omega | (simp only [List.length_nil]; omega) | decide) (by first | omega | (simp only [List.length_nil]; omega) | decide)) ?_
          rintro _ _ ⟨lv67, rfl, rfl⟩
          refine s_fact (fun H h => ((Acc.own (T := iTy) (L := (prL y9 rg pd)) 1 rfl) H h).form) (fun hf68 => ?_)
          refine s_nil (xs_held [] ?_)
          refine h_stepS2 11 12 ?_ ?_
          ·
            refine s_call [3] (document_s (reg := rg) (pend := pd) hk11 (by first | omega | (simp only [List.length_nil]; omega) | decide) (by first | omega | (simp only [List.length_nil]; omega) | decide)) ?_
            rintro _ _ ⟨lv69, rfl, rfl⟩
            refine s_fact (fun H h => ((Acc.own (T := iTy) (L := (prL y9 rg pd)) 1 rfl) H h).form) (fun hf70 => ?_)
            refine s_nil (xs_held [] ?_)
            refine h_stepS 12 ?_
            refine s_alloc (.agg #[(.slice none 0 0), .int .i64 0, .bool false, .int .i64 0]) #[(.slice none 0 0), .int .i64 0, .bool false, .int .i64 0] (fun g71 => ?_)
            refine s_nil (xs_held [] ?_)
            refine h_stepS 14 ?_
            refine s_store (u := .agg #[lv67, .int .i64 (prN y9 pd), .bool (prB y9 rg pd), .int .i64 (prE y9 rg)]) (m := 4) 0 #[lv67, .int .i64 (prN y9 pd), .bool (prB y9 rg pd), .int .i64 (prE y9 rg)] ?_ (hm := by (obtain ⟨_, _, e0⟩ := hf68; rw [e0]; rfl)) (h1 := by (obtain ⟨_, _, e0⟩ := hf68; rw [e0]; rfl)) (ha' := by (obtain ⟨_, _, e0⟩ := hf68; rw [e0]; rfl))
            refine s_nil (xs_held [] ?_)
            refine h_stepS 15 ?_
            refine s_store (u := .agg #[lv69, .int .i64 (prN y9 pd), .bool (prB y9 rg pd), .int .i64 (prE y9 rg)]) (m := 4) 5 #[lv69, .int .i64 (prN y9 pd), .bool (prB y9 rg pd), .int .i64 (prE y9 rg)] ?_ (hm := by (obtain ⟨_, _, e0⟩ := hf70; rw [e0]; rfl)) (h1 := by (obtain ⟨_, _, e0⟩ := hf70; rw [e0]; rfl)) (ha' := by (obtain ⟨_, _, e0⟩ := hf70; rw [e0]; rfl))
            refine s_nil (xs_held [] ?_)
            refine h_doneS ?_
            refine xs_then ?_
            refine k_seq ?_
            refine k_reg ?_
            refine s_lt (t_pure (.pointer (some ⟨g71, 0, none⟩))) ?_
            refine s_lt (t_load 0 lv67) ?_
            refine s_lt (t_pure (.pointer (some ⟨g66, 0, none⟩))) ?_
            refine s_lt (t_load 5 lv69) ?_
            refine s_vcall (fun _ h => ints_s (Acc.kn (.own 4) h) (Acc.kn (.own 2) h)) ?_
            rintro u73 e72
            obtain rfl : u73 = .bool true := e72.trans (congrArg Value.bool (decide_eq_true rfl))
            refine s_lt (t_pure (.bool false)) ?_
            refine s_lt (t_pure (.bool false)) ?_
            refine s_lt (t_pure (.pointer (some ⟨g71, 1, none⟩))) ?_
            refine s_lt (t_load 0 (.int .i64 (prN y9 pd))) ?_
            refine s_lt (t_pure (.pointer (some ⟨g66, 1, none⟩))) ?_
            refine s_lt (t_load 5 (.int .i64 (prN y9 pd))) ?_
            refine s_lt (Lt.to t_cmp (congrArg Value.bool (decide_eq_false (fun h => h rfl) : (decide ((prN y9 pd) ≠ (prN y9 pd))) = false))) ?_
            refine s_lt (t_pure (.bool false)) ?_
            refine s_lt (t_pure (.bool false)) ?_
            refine s_lt (t_pure (.pointer (some ⟨g71, 2, none⟩))) ?_
            refine s_lt (t_load 0 (.bool (prB y9 rg pd))) ?_
            refine s_lt (t_pure (.pointer (some ⟨g66, 2, none⟩))) ?_
            refine s_lt (t_load 5 (.bool (prB y9 rg pd))) ?_
            refine s_lt (Lt.to (t_pure (.bool ((prB y9 rg pd) != (prB y9 rg pd)))) (congrArg Value.bool (by simp : ((prB y9 rg pd) != (prB y9 rg pd)) = false))) ?_
            refine s_lt (t_pure (.bool false)) ?_
            refine s_lt (t_pure (.bool false)) ?_
            refine s_lt (t_pure (.pointer (some ⟨g71, 3, none⟩))) ?_
            refine s_lt (t_load 0 (.int .i64 (prE y9 rg))) ?_
            refine s_lt (t_pure (.pointer (some ⟨g66, 3, none⟩))) ?_
            refine s_lt (t_load 5 (.int .i64 (prE y9 rg))) ?_
            refine s_lt (Lt.to t_cmp (congrArg Value.bool (decide_eq_false (fun h => h rfl) : (decide ((prE y9 rg) ≠ (prE y9 rg))) = false))) ?_
            refine s_lt (t_pure (.bool false)) ?_
            refine s_nil ?_
            refine xs_then ?_
            refine k_false ?_
            refine k_skip ?_
            refine xs_block ?_
            refine xs_then ?_
            refine k_reg ?_
            refine s_lt (t_add (i : Int) 1 (by (try simp only [List.length_nil, List.length_cons, List.length_append, List.length_take, List.length_drop, List.length_set, List.length_replicate, List.length_reverse, bits_len]); omega)) ?_
            refine s_lt (t_pure (.int .i64 ((i : Int) + 1))) ?_
            refine s_nil ?_
            exact xs_round (prR y9 rg, prP y9 rg pd, i + 1) (by show L.length - (i + 1) < L.length - i; omega) (by obtain ⟨hi1, hi2⟩ := hi6; have := pr_len y9 rg pd; exact ⟨by omega, by omega⟩) (sub_of rfl ⟨⟨rfl, rfl⟩, ⟨⟨rfl, rfl⟩, ⟨⟨rfl, rfl⟩, ⟨⟨rfl, rfl⟩, ⟨⟨rfl, rfl⟩, ⟨⟨rfl, rfl⟩, trivial⟩⟩⟩⟩⟩⟩) (fun _ h => h.re [1, 2] [2, 2, 2, 2])
          ·
            refine s_alloc (.agg #[(.slice none 0 0), .int .i64 0, .bool false, .int .i64 0]) #[(.slice none 0 0), .int .i64 0, .bool false, .int .i64 0] (fun g74 => ?_)
            refine s_nil (xs_held [] ?_)
            refine h_stepS 11 ?_
            refine s_call [4] (document_s (reg := rg) (pend := pd) hk11 (by first | omega | (simp only [List.length_nil]; omega) | decide) (by first | omega | (simp only [List.length_nil]; omega) | decide)) ?_
            rintro _ _ ⟨lv75, rfl, rfl⟩
            refine s_fact (fun H h => ((Acc.own (T := iTy) (L := (prL y9 rg pd)) 1 rfl) H h).form) (fun hf76 => ?_)
            refine s_nil (xs_held [] ?_)
            refine h_stepS 14 ?_
            refine s_store (u := .agg #[lv67, .int .i64 (prN y9 pd), .bool (prB y9 rg pd), .int .i64 (prE y9 rg)]) (m := 4) 2 #[lv67, .int .i64 (prN y9 pd), .bool (prB y9 rg pd), .int .i64 (prE y9 rg)] ?_ (hm := by (obtain ⟨_, _, e0⟩ := hf68; rw [e0]; rfl)) (h1 := by (obtain ⟨_, _, e0⟩ := hf68; rw [e0]; rfl)) (ha' := by (obtain ⟨_, _, e0⟩ := hf68; rw [e0]; rfl))
            refine s_nil (xs_held [] ?_)
            refine h_stepS 15 ?_
            refine s_store (u := .agg #[lv75, .int .i64 (prN y9 pd), .bool (prB y9 rg pd), .int .i64 (prE y9 rg)]) (m := 4) 5 #[lv75, .int .i64 (prN y9 pd), .bool (prB y9 rg pd), .int .i64 (prE y9 rg)] ?_ (hm := by (obtain ⟨_, _, e0⟩ := hf76; rw [e0]; rfl)) (h1 := by (obtain ⟨_, _, e0⟩ := hf76; rw [e0]; rfl)) (ha' := by (obtain ⟨_, _, e0⟩ := hf76; rw [e0]; rfl))
            refine s_nil (xs_held [] ?_)
            refine h_doneS ?_
            refine xs_then ?_
            refine k_seq ?_
            refine k_reg ?_
            refine s_lt (t_pure (.pointer (some ⟨g74, 0, none⟩))) ?_
            refine s_lt (t_load 2 lv67) ?_
            refine s_lt (t_pure (.pointer (some ⟨g66, 0, none⟩))) ?_
            refine s_lt (t_load 5 lv75) ?_
            refine s_vcall (fun _ h => ints_s (Acc.kn (.own 4) h) (Acc.kn (.own 1) h)) ?_
            rintro u78 e77
            obtain rfl : u78 = .bool true := e77.trans (congrArg Value.bool (decide_eq_true rfl))
            refine s_lt (t_pure (.bool false)) ?_
            refine s_lt (t_pure (.bool false)) ?_
            refine s_lt (t_pure (.pointer (some ⟨g74, 1, none⟩))) ?_
            refine s_lt (t_load 2 (.int .i64 (prN y9 pd))) ?_
            refine s_lt (t_pure (.pointer (some ⟨g66, 1, none⟩))) ?_
            refine s_lt (t_load 5 (.int .i64 (prN y9 pd))) ?_
            refine s_lt (Lt.to t_cmp (congrArg Value.bool (decide_eq_false (fun h => h rfl) : (decide ((prN y9 pd) ≠ (prN y9 pd))) = false))) ?_
            refine s_lt (t_pure (.bool false)) ?_
            refine s_lt (t_pure (.bool false)) ?_
            refine s_lt (t_pure (.pointer (some ⟨g74, 2, none⟩))) ?_
            refine s_lt (t_load 2 (.bool (prB y9 rg pd))) ?_
            refine s_lt (t_pure (.pointer (some ⟨g66, 2, none⟩))) ?_
            refine s_lt (t_load 5 (.bool (prB y9 rg pd))) ?_
            refine s_lt (Lt.to (t_pure (.bool ((prB y9 rg pd) != (prB y9 rg pd)))) (congrArg Value.bool (by simp : ((prB y9 rg pd) != (prB y9 rg pd)) = false))) ?_
            refine s_lt (t_pure (.bool false)) ?_
            refine s_lt (t_pure (.bool false)) ?_
            refine s_lt (t_pure (.pointer (some ⟨g74, 3, none⟩))) ?_
            refine s_lt (t_load 2 (.int .i64 (prE y9 rg))) ?_
            refine s_lt (t_pure (.pointer (some ⟨g66, 3, none⟩))) ?_
            refine s_lt (t_load 5 (.int .i64 (prE y9 rg))) ?_
            refine s_lt (Lt.to t_cmp (congrArg Value.bool (decide_eq_false (fun h => h rfl) : (decide ((prE y9 rg) ≠ (prE y9 rg))) = false))) ?_
            refine s_lt (t_pure (.bool false)) ?_
            refine s_nil ?_
            refine xs_then ?_
            refine k_false ?_
            refine k_skip ?_
            refine xs_block ?_
            refine xs_then ?_
            refine k_reg ?_
            refine s_lt (t_add (i : Int) 1 (by (try simp only [List.length_nil, List.length_cons, List.length_append, List.length_take, List.length_drop, List.length_set, List.length_replicate, List.length_reverse, bits_len]); omega)) ?_
            refine s_lt (t_pure (.int .i64 ((i : Int) + 1))) ?_
            refine s_nil ?_
            exact xs_round (prR y9 rg, prP y9 rg pd, i + 1) (by show L.length - (i + 1) < L.length - i; omega) (by obtain ⟨hi1, hi2⟩ := hi6; have := pr_len y9 rg pd; exact ⟨by omega, by omega⟩) (sub_of rfl ⟨⟨rfl, rfl⟩, ⟨⟨rfl, rfl⟩, ⟨⟨rfl, rfl⟩, ⟨⟨rfl, rfl⟩, ⟨⟨rfl, rfl⟩, ⟨⟨rfl, rfl⟩, trivial⟩⟩⟩⟩⟩⟩) (fun _ h => h.re [0, 2] [2, 2, 2, 2])
        ·
          refine s_alloc (.agg #[(.slice none 0 0), .int .i64 0, .bool false, .int .i64 0]) #[(.slice none 0 0), .int .i64 0, .bool false, .int .i64 0] (fun g79 => ?_)
          refine s_nil (xs_held [] ?_)
          refine h_stepS 5 ?_
          refine s_call [3] (program_s (reg := rg) (pend := pd) hk11 (by first | omega | (simp only [List.length_nil]; omega) | decide) (by first | omega | (simp only [List.length_nil]; omega) | decide)) ?_
          rintro _ _ ⟨lv80, rfl, rfl⟩
          refine s_fact (fun H h => ((Acc.own (T := iTy) (L := (prL y9 rg pd)) 1 rfl) H h).form) (fun hf81 => ?_)
          refine s_nil (xs_held [] ?_)
          refine h_stepS 11 ?_
          refine s_call [4] (document_s (reg := rg) (pend := pd) hk11 (by first | omega | (simp only [List.length_nil]; omega) | decide) (by first | omega | (simp only [List.length_nil]; omega) | decide)) ?_
          rintro _ _ ⟨lv82, rfl, rfl⟩
          refine s_fact (fun H h => ((Acc.own (T := iTy) (L := (prL y9 rg pd)) 1 rfl) H h).form) (fun hf83 => ?_)
          refine s_nil (xs_held [] ?_)
          refine h_stepS 14 ?_
          refine s_store (u := .agg #[lv80, .int .i64 (prN y9 pd), .bool (prB y9 rg pd), .int .i64 (prE y9 rg)]) (m := 4) 4 #[lv80, .int .i64 (prN y9 pd), .bool (prB y9 rg pd), .int .i64 (prE y9 rg)] ?_ (hm := by (obtain ⟨_, _, e0⟩ := hf81; rw [e0]; rfl)) (h1 := by (obtain ⟨_, _, e0⟩ := hf81; rw [e0]; rfl)) (ha' := by (obtain ⟨_, _, e0⟩ := hf81; rw [e0]; rfl))
          refine s_nil (xs_held [] ?_)
          refine h_stepS 15 ?_
          refine s_store (u := .agg #[lv82, .int .i64 (prN y9 pd), .bool (prB y9 rg pd), .int .i64 (prE y9 rg)]) (m := 4) 5 #[lv82, .int .i64 (prN y9 pd), .bool (prB y9 rg pd), .int .i64 (prE y9 rg)] ?_ (hm := by (obtain ⟨_, _, e0⟩ := hf83; rw [e0]; rfl)) (h1 := by (obtain ⟨_, _, e0⟩ := hf83; rw [e0]; rfl)) (ha' := by (obtain ⟨_, _, e0⟩ := hf83; rw [e0]; rfl))
          refine s_nil (xs_held [] ?_)
          refine h_doneS ?_
          refine xs_then ?_
          refine k_seq ?_
          refine k_reg ?_
          refine s_lt (t_pure (.pointer (some ⟨g79, 0, none⟩))) ?_
          refine s_lt (t_load 4 lv80) ?_
          refine s_lt (t_pure (.pointer (some ⟨g66, 0, none⟩))) ?_
          refine s_lt (t_load 5 lv82) ?_
          refine s_vcall (fun _ h => ints_s (Acc.kn (.own 3) h) (Acc.kn (.own 1) h)) ?_
          rintro u85 e84
          obtain rfl : u85 = .bool true := e84.trans (congrArg Value.bool (decide_eq_true rfl))
          refine s_lt (t_pure (.bool false)) ?_
          refine s_lt (t_pure (.bool false)) ?_
          refine s_lt (t_pure (.pointer (some ⟨g79, 1, none⟩))) ?_
          refine s_lt (t_load 4 (.int .i64 (prN y9 pd))) ?_
          refine s_lt (t_pure (.pointer (some ⟨g66, 1, none⟩))) ?_
          refine s_lt (t_load 5 (.int .i64 (prN y9 pd))) ?_
          refine s_lt (Lt.to t_cmp (congrArg Value.bool (decide_eq_false (fun h => h rfl) : (decide ((prN y9 pd) ≠ (prN y9 pd))) = false))) ?_
          refine s_lt (t_pure (.bool false)) ?_
          refine s_lt (t_pure (.bool false)) ?_
          refine s_lt (t_pure (.pointer (some ⟨g79, 2, none⟩))) ?_
          refine s_lt (t_load 4 (.bool (prB y9 rg pd))) ?_
          refine s_lt (t_pure (.pointer (some ⟨g66, 2, none⟩))) ?_
          refine s_lt (t_load 5 (.bool (prB y9 rg pd))) ?_
          refine s_lt (Lt.to (t_pure (.bool ((prB y9 rg pd) != (prB y9 rg pd)))) (congrArg Value.bool (by simp : ((prB y9 rg pd) != (prB y9 rg pd)) = false))) ?_
          refine s_lt (t_pure (.bool false)) ?_
          refine s_lt (t_pure (.bool false)) ?_
          refine s_lt (t_pure (.pointer (some ⟨g79, 3, none⟩))) ?_
          refine s_lt (t_load 4 (.int .i64 (prE y9 rg))) ?_
          refine s_lt (t_pure (.pointer (some ⟨g66, 3, none⟩))) ?_
          refine s_lt (t_load 5 (.int .i64 (prE y9 rg))) ?_
          refine s_lt (Lt.to t_cmp (congrArg Value.bool (decide_eq_false (fun h => h rfl) : (decide ((prE y9 rg) ≠ (prE y9 rg))) = false))) ?_
          refine s_lt (t_pure (.bool false)) ?_
          refine s_nil ?_
          refine xs_then ?_
          refine k_false ?_
          refine k_skip ?_
          refine xs_block ?_
          refine xs_then ?_
          refine k_reg ?_
          refine s_lt (t_add (i : Int) 1 (by (try simp only [List.length_nil, List.length_cons, List.length_append, List.length_take, List.length_drop, List.length_set, List.length_replicate, List.length_reverse, bits_len]); omega)) ?_
          refine s_lt (t_pure (.int .i64 ((i : Int) + 1))) ?_
          refine s_nil ?_
          exact xs_round (prR y9 rg, prP y9 rg pd, i + 1) (by show L.length - (i + 1) < L.length - i; omega) (by obtain ⟨hi1, hi2⟩ := hi6; have := pr_len y9 rg pd; exact ⟨by omega, by omega⟩) (sub_of rfl ⟨⟨rfl, rfl⟩, ⟨⟨rfl, rfl⟩, ⟨⟨rfl, rfl⟩, ⟨⟨rfl, rfl⟩, ⟨⟨rfl, rfl⟩, ⟨⟨rfl, rfl⟩, trivial⟩⟩⟩⟩⟩⟩) (fun _ h => h.re [0, 1] [2, 2, 2, 2])
    ·
      have p86 := of_decide_eq_false c7
      refine k_exit ?_
      refine xs_exit ?_
      refine xs_exit ?_
      refine xs_here ?_
      refine xs_then ?_
      refine k_seq ?_
      refine k_reg ?_
      refine s_vcall (fun _ h => awake_s) ?_
      rintro _ rfl
      refine s_lt (t_pure (.bool true)) ?_
      refine s_nil ?_
      refine xs_then ?_
      refine k_ret ?_
      exact xs_fin [.bool true] [] (SI.tmp 2 SI.nil) (fun _ h => h.re [] [0, 0]) ⟨rfl, rfl⟩
end Go.Proofs.Ytipmkaabogocfaa
