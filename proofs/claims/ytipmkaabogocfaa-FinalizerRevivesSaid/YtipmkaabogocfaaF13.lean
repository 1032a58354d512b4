/-
  FinalizerRevives walked. No condition but that the arguments are what the types say.
-/
import Derived.Test.YtipmkaabogocfaaF11
import Derived.Test.YtipmkaabogocfaaFV
set_option linter.unusedSimpArgs false
set_option linter.unusedVariables false
set_option maxRecDepth 100000
set_option maxHeartbeats 2000000
namespace Go.Proofs.Ytipmkaabogocfaa
open Go.Hp Go.J Go.S
open Go.Mem (Ty KTy blk elemAt pre suf blk_pre blk_suf aget aset strK aggDesc)
theorem findI_at {l : List Ob} {i : Nat} {y : Ob} {id : Int} (h : l[i]? = some y) (e : y.id = id) (hn : ∀ o ∈ l.take i, o.id ≠ id) : findI l id = (i : Int) := by
  unfold findI
  have : (l.map Ob.id).findIdx? (fun x => decide (x = id)) = some i := by
    rw [List.findIdx?_eq_some_iff_getElem]
    obtain ⟨hi, e1⟩ := List.getElem?_eq_some_iff.1 h
    refine ⟨by simpa using hi, by simp [e1, e], fun j hj => ?_⟩
    have hm : l[j] ∈ l.take i := by rw [List.mem_take_iff_getElem]; exact ⟨j, by omega, rfl⟩
    simpa using hn _ hm
  rw [this]
theorem findI_no {l : List Ob} {id : Int} (hn : ∀ o ∈ l, o.id ≠ id) : findI l id = -1 := findI_none fun h => by
  obtain ⟨o, ho, e⟩ := List.mem_map.1 h
  exact hn o ho e
theorem find_is {l : List Ob} (h : Asc l) {id : Int} (hf : ¬ findI l id < 0) : ∃ (i : Nat) (o : Ob), l[i]? = some o ∧ fnd l id = some o ∧ findI l id = (i : Int) := by
  rcases find_cases h id with ⟨_, e⟩ | ⟨i, o, h1, _, h3, h4⟩
  · rw [e] at hf; exact absurd (by decide) hf
  · exact ⟨i, o, h1, h3, h4⟩
theorem findl_s {Z : Zone} {ov rv : Value} {l : List Ob} {R : List Int} (hg : KnG Z ov rv l R) (id : Int) : SF Try.prog 33 #[.agg #[ov, rv], .int .i64 id] Z [] fun r Bs => r = .int .i64 (findI l id) ∧ Bs = [] := by
  refine sf_enter Try.func33 22 [(0, .agg #[ov, rv]), (1, .int .i64 id)] (fun w0 => ?_)
  refine k_fact (fun H h => (hg.obs.get h).len_le) (fun lA => ?_)
  refine k_seq ?_
  refine k_reg ?_
  refine s_box #[ov, rv] (fun g1 => ?_)
  refine s_lt (t_pure (.int .i64 0)) ?_
  refine s_nil ?_
  refine xs_then ?_
  refine k_seq ?_
  refine k_seq ?_
  refine k_reg ?_
  refine s_lt (t_pure (.pointer (some ⟨g1, 0, none⟩))) ?_
  refine s_lt (t_load 0 ov) ?_
  refine s_lt (t_len ObT_ok Try.underlying42 (.zn hg.obs)) ?_
  refine s_lt (t_pure (.int .i64 0)) ?_
  refine s_nil ?_
  refine xs_then ?_
  refine k_block ?_
  refine k_loop (ι := Nat) (fun i => i ≤ l.length ∧ ∀ o ∈ l.take i, o.id ≠ id) (fun i => [(1, .int .i64 id), (2, .pointer (some ⟨g1, 0, none⟩)), (4, .int .i64 0), (8, .int .i64 (l.length : Int)), (9, .int .i64 (i : Int))]) (fun i => [blkA g1 #[ov, rv] 44]) (fun i => l.length - i) 0 ⟨Nat.zero_le _, by simp⟩ (sub_of rfl ⟨⟨rfl, rfl⟩, ⟨⟨rfl, rfl⟩, ⟨⟨rfl, rfl⟩, ⟨⟨rfl, rfl⟩, ⟨⟨rfl, rfl⟩, trivial⟩⟩⟩⟩⟩) (fun _ h => h.re [0] []) ?_
  rintro i hi2
  show SK _ _ _ _ _ [(1, .int .i64 id), (2, .pointer (some ⟨g1, 0, none⟩)), (4, .int .i64 0), (8, .int .i64 (l.length : Int)), (9, .int .i64 (i : Int))] _ [blkA g1 #[ov, rv] 44]
  refine k_seq ?_
  refine k_reg ?_
  refine s_lt t_cmp ?_
  refine s_nil ?_
  refine xs_then ?_
  refine k_seq ?_
  refine k_cond (decide ((i : Int) < (l.length : Int))) (fun c3 => ?_) (fun c3 => ?_)
  ·
    have p4 := of_decide_eq_true c3
    refine k_skip ?_
    refine xs_then ?_
    refine k_seq ?_
    refine k_block ?_
    refine k_seq ?_
    refine k_reg ?_
    refine s_lt (t_pure (.int .i64 (i : Int))) ?_
    refine s_lt (t_pure (.int .i64 (i : Int))) ?_
    refine s_nil ?_
    refine xs_then ?_
    refine k_seq ?_
    refine k_reg ?_
    refine s_lt (t_pure (.pointer (some ⟨g1, 0, none⟩))) ?_
    refine s_lt (t_load 0 ov) ?_
    refine s_lt (t_pure (.int .i64 (i : Int))) ?_
    refine s_lt (t_index ObT_ok Try.underlying42 (.zn hg.obs) (i : Int) i (by omega) (by (try simp only [List.length_nil, List.length_cons, List.length_append, List.length_take, List.length_drop, List.length_set, List.length_replicate, List.length_reverse, bits_len]); omega) (by omega)) ?_
    refine s_lt (t_pure (.pointer (some (elemAt ObT.size ov i)))) ?_
    obtain ⟨y5, hy6⟩ : ∃ y, l[i]? = some y := ⟨_, List.getElem?_eq_getElem (by (try simp only [List.length_nil, List.length_cons, List.length_append, List.length_take, List.length_drop, List.length_set, List.length_replicate, List.length_reverse, bits_len]); omega)⟩
    have hk7 := hg.each y5 (List.mem_of_getElem? hy6)
    refine s_lt (t_loadF 0 ObT_ok (.zn hg.obs) hy6) ?_
    refine s_lt (t_pure (.int .i64 id)) ?_
    refine s_lt t_cmp ?_
    refine s_nil ?_
    refine xs_then ?_
    refine k_cond (decide (y5.id = id)) (fun c8 => ?_) (fun c8 => ?_)
    ·
      have p9 := of_decide_eq_true c8
      refine k_seq ?_
      refine k_reg ?_
      refine s_lt (t_pure (.int .i64 (i : Int))) ?_
      refine s_lt (t_pure (.int .i64 (i : Int))) ?_
      refine s_nil ?_
      refine xs_then ?_
      refine k_ret ?_
      refine xs_retBlock ?_
      refine xs_ret ?_
      refine xs_ret ?_
      refine xs_retBlock ?_
      refine xs_ret ?_
      refine xs_fin [.int .i64 (i : Int)] [] (SI.tmp 4 SI.nil) (fun _ h => h.re [] [0]) ⟨congrArg (Value.int .i64) ?_, rfl⟩
      exact (findI_at hy6 p9 hi2.2).symm
    ·
      have p10 := of_decide_eq_false c8
      refine k_skip ?_
      refine xs_block ?_
      refine xs_then ?_
      refine k_reg ?_
      refine s_lt (t_add (i : Int) 1 (by (try simp only [List.length_nil, List.length_cons, List.length_append, List.length_take, List.length_drop, List.length_set, List.length_replicate, List.length_reverse, bits_len]); omega)) ?_
      refine s_lt (t_pure (.int .i64 ((i : Int) + 1))) ?_
      refine s_nil ?_
      exact xs_round (i + 1) (by omega) (by obtain ⟨hi1, hi2⟩ := hi2; refine ⟨by omega, fun o ho => ?_⟩; rw [← take_snoc hy6] at ho; rcases List.mem_append.1 ho with ho | ho; exact hi2 o ho; simp at ho; subst ho; exact p10) (sub_of rfl ⟨⟨rfl, rfl⟩, ⟨⟨rfl, rfl⟩, ⟨⟨rfl, rfl⟩, ⟨⟨rfl, rfl⟩, ⟨⟨rfl, rfl⟩, trivial⟩⟩⟩⟩⟩) (fun _ h => h.re [0] [])
  ·
    have p11 := of_decide_eq_false c3
    refine k_exit ?_
    refine xs_exit ?_
    refine xs_exit ?_
    refine xs_here ?_
    refine xs_then ?_
    refine k_seq ?_
    refine k_reg ?_
    refine s_lt (t_pure (.int .i64 (-1))) ?_
    refine s_nil ?_
    refine xs_then ?_
    refine k_ret ?_
    refine xs_fin [.int .i64 (-1)] [] (SI.tmp 4 SI.nil) (fun _ h => h.re [] [0]) ⟨congrArg (Value.int .i64) ?_, rfl⟩
    exact (findI_no fun o ho => hi2.2 o (by rw [List.take_of_length_le (by omega)]; exact ho)).symm
theorem reach_s {Z : Zone} {ov rv : Value} {l : List Ob} {R : List Int} (hg : KnG Z ov rv l R) {lv : Value} {L : List Int} (hs : Asc l) (hp : pot l [] ≤ 1000000) (hL : Kn Z iTy lv L) (hl : L.length ≤ 1000000) : SF Try.prog 32 #[.agg #[ov, rv], lv] Z [] fun r Bs => ∃ M, (∀ x ∈ M, Rr l L x ∧ Is l x) ∧ M.length ≤ 1000000 ∧ Bs = [own iTy r M] := by
  refine sf_enter Try.func32 45 [(0, .agg #[ov, rv]), (1, lv)] (fun w0 => ?_)
  refine k_fact (fun H h => (hL.get h).len_le) (fun lA => ?_)
  refine k_seq ?_
  refine k_reg ?_
  refine s_box #[ov, rv] (fun g1 => ?_)
  refine s_lt (t_pure (.slice none 0 0)) ?_
  refine s_nil ?_
  refine xs_then ?_
  refine k_seq ?_
  refine k_reg ?_
  refine s_buildSlice (e := 3) [] #[] (fun g2 => ?_) (hb := by kernel_rfl)
  refine s_lt (t_pure (.slice (some ⟨g2, 0, none⟩) 0 0)) ?_
  refine s_nil ?_
  refine xs_then ?_
  refine k_seq ?_
  refine k_reg ?_
  refine s_buildSlice (e := 3) [] #[] (fun g3 => ?_) (hb := by kernel_rfl)
  refine s_lt (t_pure lv) ?_
  refine s_mem (fun _ h => Holds.slice 0 h iTy_ok []) ?_
  refine s_append (L := []) 0 iTy_ok Try.underlying22 (.zn hL) (by show _ * 8 ≤ _; (try simp only [List.length_nil, List.length_cons, List.length_append, List.length_take, List.length_drop, List.length_set, List.length_replicate, List.length_reverse, bits_len]); omega) (by (try simp only [List.length_nil, List.length_cons, List.length_append, List.length_take, List.length_drop, List.length_set, List.length_replicate, List.length_reverse, bits_len]); omega) (fun v4 => ?_)
  rw [List.nil_append]
  refine s_fact (fun H h => ((Acc.own (T := iTy) (L := L) 0 rfl) H h).form) (fun hf5 => ?_)
  refine s_lt (t_pure v4) ?_
  refine s_nil ?_
  refine xs_then ?_
  refine k_seq ?_
  refine k_block ?_
  refine k_mem (fun _ h => Holds.slice 1 h iTy_ok []) ?_
  refine k_mem (fun _ h => Holds.toO (h.re [0] [])) ?_
  refine k_loop (ι := List Int × List Int × Value × Value) (fun (M, W, ox, wx) => (∀ x ∈ M, Rr l L x ∧ Is l x) ∧ (∀ x ∈ W, Rr l L x) ∧ pot l M + W.length ≤ pot l [] + L.length ∧ M.length + pot l M ≤ pot l []) (fun (M, W, ox, wx) => [(2, .pointer (some ⟨g1, 0, none⟩)), (4, (.slice none 0 0)), (5, ox), (6, wx)]) (fun (M, W, ox, wx) => [ownO iTy wx W, own iTy ox M, blkA g1 #[ov, rv] 44]) (fun (M, W, ox, wx) => pot l M + W.length) ([], L, (.slice (some ⟨g2, 0, none⟩) 0 0), v4) ⟨by simp, fun x hx => .base hx, Nat.le_refl _, by show 0 + pot l [] ≤ pot l []; omega⟩ (sub_of rfl ⟨⟨rfl, rfl⟩, ⟨⟨rfl, rfl⟩, ⟨⟨rfl, rfl⟩, ⟨⟨rfl, rfl⟩, trivial⟩⟩⟩⟩) (fun _ h => h.re [0, 0, 0] []) ?_
  rintro ⟨M, W, ox, wx⟩ hi6
  replace hi6 : (∀ x ∈ M, Rr l L x ∧ Is l x) ∧ (∀ x ∈ W, Rr l L x) ∧ pot l M + W.length ≤ pot l [] + L.length ∧ M.length + pot l M ≤ pot l [] := hi6
  show SK _ _ _ _ _ [(2, .pointer (some ⟨g1, 0, none⟩)), (4, (.slice none 0 0)), (5, ox), (6, wx)] _ [ownO iTy wx W, own iTy ox M, blkA g1 #[ov, rv] 44]
  have hpm := pot_mono (M := []) (N := M) (by simp) l; have hbd := hi6.2.2.1; have hML := hi6.2.2.2
  refine k_seq ?_
  refine k_seq ?_
  refine k_reg ?_
  refine s_lt (t_pure wx) ?_
  refine s_lt (t_len iTy_ok Try.underlying22 (.ownO 0)) ?_
  refine s_lt t_cmp ?_
  refine s_nil ?_
  refine xs_then ?_
  refine k_cond (decide ((0 : Int) < (W.length : Int))) (fun c7 => ?_) (fun c7 => ?_)
  ·
    have p8 := of_decide_eq_true c7
    refine k_skip ?_
    refine xs_then ?_
    refine k_block ?_
    refine k_seq ?_
    refine k_reg ?_
    refine s_lt (t_pure wx) ?_
    refine s_lt (t_index iTy_ok Try.underlying22 (.ownO 0) 0 0 (by omega) (by (try simp only [List.length_nil, List.length_cons, List.length_append, List.length_take, List.length_drop, List.length_set, List.length_replicate, List.length_reverse, bits_len]); omega) (by omega)) ?_
    obtain ⟨y9, hy10⟩ : ∃ y, W[0]? = some y := ⟨_, List.getElem?_eq_getElem (by (try simp only [List.length_nil, List.length_cons, List.length_append, List.length_take, List.length_drop, List.length_set, List.length_replicate, List.length_reverse, bits_len]); omega)⟩
    refine s_lt (t_loadE iTy_ok (.ownO 0) hy10) ?_
    refine s_lt (t_pure (.int .i64 y9)) ?_
    refine s_nil ?_
    refine xs_then ?_
    refine k_seq ?_
    refine k_reg ?_
    refine s_lt (t_pure wx) ?_
    refine s_lt (t_suf iTy_ok Try.underlying22 (.ownO 0) 1 1 (by omega) (by (try simp only [List.length_nil, List.length_cons, List.length_append, List.length_take, List.length_drop, List.length_set, List.length_replicate, List.length_reverse, bits_len]); omega) (by omega)) ?_
    refine s_lt (t_pure (suf iTy.size wx 1)) ?_
    refine s_nil ?_
    refine xs_then ?_
    refine k_seq ?_
    refine k_reg ?_
    refine s_lt (t_loadA 2 #[ov, rv]) ?_
    refine s_lt (t_pure (.int .i64 y9)) ?_
    refine s_vcall (fun _ h => findl_s (hg.up h) y9) ?_
    rintro _ rfl
    refine s_lt (t_pure (.int .i64 (findI l y9))) ?_
    refine s_nil ?_
    refine xs_then ?_
    refine k_seq ?_
    refine k_seq ?_
    refine k_reg ?_
    refine s_lt (t_pure (.int .i64 (findI l y9))) ?_
    refine s_lt t_cmp ?_
    refine s_lt (t_pure (.bool (decide ((findI l y9) < 0)))) ?_
    refine s_fork 26 (decide ((findI l y9) < 0)) (fun c11 => ?_) (fun c11 => ?_)
    ·
      have p12 := of_decide_eq_true c11
      refine s_skip ?_
      refine s_skip ?_
      refine s_skip ?_
      refine s_skip ?_
      refine s_lt (t_pure (.bool true)) ?_
      refine s_nil ?_
      refine xs_then ?_
      refine k_true ?_
      refine k_exit ?_
      refine xs_exit ?_
      refine xs_here ?_
      refine xs_mem (fun _ h => Holds.sufO (i := 0) h iTy_ok 1 rfl (by omega)) ?_
      exact xs_round (M, W.drop 1, ox, (suf iTy.size wx 1)) (by show pot l M + (W.drop 1).length < pot l M + W.length; rw [List.length_drop]; omega) (by obtain ⟨hi1, hi2, hi3, hi4⟩ := hi6; exact ⟨hi1, fun x hx => hi2 x (List.mem_of_mem_drop hx), by rw [List.length_drop]; omega, hi4⟩) (sub_of rfl ⟨⟨rfl, rfl⟩, ⟨⟨rfl, rfl⟩, ⟨⟨rfl, rfl⟩, ⟨⟨rfl, rfl⟩, trivial⟩⟩⟩⟩) (fun _ h => h.re [0, 0, 0] [])
    ·
      have p13 := of_decide_eq_false c11
      obtain ⟨ix14, ob15, hx16, hf17, he18⟩ := find_is hs p13
      have hk19 := hg.each ob15 (List.mem_of_getElem? hx16)
      have hltx := (List.getElem?_eq_some_iff.1 hx16).1
      refine s_lt (t_pure ox) ?_
      refine s_lt (t_pure (.int .i64 y9)) ?_
      refine s_vcall (fun _ h => count_s (L := M) (Acc.kn (.own 1) h) y9 (by (try simp only [List.length_nil, List.length_cons, List.length_append, List.length_take, List.length_drop, List.length_set, List.length_replicate, List.length_reverse, bits_len]); omega)) ?_
      rintro _ rfl
      refine s_lt t_cmp ?_
      refine s_lt (t_pure (.bool (decide ((0 : Int) < (cntI M y9 : Int))))) ?_
      refine s_nil ?_
      refine xs_then ?_
      refine k_cond (decide ((0 : Int) < (cntI M y9 : Int))) (fun c20 => ?_) (fun c20 => ?_)
      ·
        have p21 := of_decide_eq_true c20
        refine k_exit ?_
        refine xs_exit ?_
        refine xs_here ?_
        refine xs_mem (fun _ h => Holds.sufO (i := 0) h iTy_ok 1 rfl (by omega)) ?_
        exact xs_round (M, W.drop 1, ox, (suf iTy.size wx 1)) (by show pot l M + (W.drop 1).length < pot l M + W.length; rw [List.length_drop]; omega) (by obtain ⟨hi1, hi2, hi3, hi4⟩ := hi6; exact ⟨hi1, fun x hx => hi2 x (List.mem_of_mem_drop hx), by rw [List.length_drop]; omega, hi4⟩) (sub_of rfl ⟨⟨rfl, rfl⟩, ⟨⟨rfl, rfl⟩, ⟨⟨rfl, rfl⟩, ⟨⟨rfl, rfl⟩, trivial⟩⟩⟩⟩) (fun _ h => h.re [0, 0, 0] [])
      ·
        have p22 := of_decide_eq_false c20
        have hnm : y9 ∉ M := fun hm => by have := (cnt_pos (L := M) (n := y9)).2 hm; omega
        have hpa := pot_add hnm hf17; have hkr : ob15.refs.length ≤ (keptO ob15).length := by unfold keptO; rw [List.length_append]; omega
        refine k_skip ?_
        refine xs_then ?_
        refine k_seq ?_
        refine k_reg ?_
        refine s_lt (t_pure ox) ?_
        refine s_lt (t_pure (.int .i64 y9)) ?_
        refine s_buildSlice (e := 3) [(0, .int .i64 y9)] #[.int .i64 y9] (fun g23 => ?_) (hb := by kernel_rfl)
        refine s_append (L := M) 2 iTy_ok Try.underlying22 (.lit 0 iTy_ok [y9]) (by show _ * 8 ≤ _; (try simp only [List.length_nil, List.length_cons, List.length_append, List.length_take, List.length_drop, List.length_set, List.length_replicate, List.length_reverse, bits_len]); omega) (by (try simp only [List.length_nil, List.length_cons, List.length_append, List.length_take, List.length_drop, List.length_set, List.length_replicate, List.length_reverse, bits_len]); omega) (fun v24 => ?_)
        refine s_fact (fun H h => ((Acc.own (T := iTy) (L := (M ++ [y9])) 2 rfl) H h).form) (fun hf25 => ?_)
        refine s_lt (t_pure v24) ?_
        refine s_nil ?_
        refine xs_then ?_
        refine k_reg ?_
        refine s_lt (t_pure (suf iTy.size wx 1)) ?_
        refine s_lt (t_pure (.pointer (some ⟨g1, 0, none⟩))) ?_
        refine s_lt (t_load 3 ov) ?_
        refine s_lt (t_pure (.int .i64 (findI l y9))) ?_
        refine s_lt (t_index ObT_ok Try.underlying42 (.zn hg.obs) (findI l y9) ix14 (by omega) (by (try simp only [List.length_nil, List.length_cons, List.length_append, List.length_take, List.length_drop, List.length_set, List.length_replicate, List.length_reverse, bits_len]); omega) (by omega)) ?_
        refine s_lt (t_pure (.pointer (some ((elemAt ObT.size ov ix14).add 3)))) ?_
        refine s_lt (t_loadF 3 ObT_ok (.zn hg.obs) hx16) ?_
        refine s_mem (fun _ h => Holds.sufO (i := 1) h iTy_ok 1 rfl (by (try simp only [List.length_nil, List.length_cons, List.length_append, List.length_take, List.length_drop, List.length_set, List.length_replicate, List.length_reverse, bits_len]); omega)) ?_
        refine s_appendO (L := (W.drop 1)) 1 iTy_ok Try.underlying22 (.zn hk19.1) (by show _ * 8 ≤ _; (try simp only [List.length_nil, List.length_cons, List.length_append, List.length_take, List.length_drop, List.length_set, List.length_replicate, List.length_reverse, bits_len]); omega) (by (try simp only [List.length_nil, List.length_cons, List.length_append, List.length_take, List.length_drop, List.length_set, List.length_replicate, List.length_reverse, bits_len]); omega) (fun v26 => ?_)
        refine s_fact (fun H h => ((Acc.ownO (T := iTy) (L := ((W.drop 1) ++ ob15.refs)) 1 rfl) H h).form) (fun hf27 => ?_)
        refine s_lt (t_pure v26) ?_
        refine s_nil ?_
        refine xs_block ?_
        exact xs_round (M ++ [y9], W.drop 1 ++ ob15.refs, v24, v26) (by show pot l (M ++ [y9]) + (W.drop 1 ++ ob15.refs).length < pot l M + W.length; rw [List.length_append, List.length_drop]; omega) (by obtain ⟨hi1, hi2, hi3, hi4⟩ := hi6; exact ⟨(fun x hx => by rcases List.mem_append.1 hx with hx | hx; exact hi1 x hx; simp at hx; subst hx; exact ⟨hi2 _ (List.mem_of_getElem? hy10), by rw [Is, hf17]; rfl⟩), (fun x hx => by rcases List.mem_append.1 hx with hx | hx; exact hi2 x (List.mem_of_mem_drop hx); exact .step (hi2 _ (List.mem_of_getElem? hy10)) hf17 hx), (by rw [List.length_append, List.length_drop]; omega), (by rw [List.length_append]; simp only [List.length_singleton]; omega)⟩) (sub_of rfl ⟨⟨rfl, rfl⟩, ⟨⟨rfl, rfl⟩, ⟨⟨rfl, rfl⟩, ⟨⟨rfl, rfl⟩, trivial⟩⟩⟩⟩) (fun _ h => h.re [1, 1, 1] [3])
  ·
    have p28 := of_decide_eq_false c7
    refine k_exit ?_
    refine xs_exit ?_
    refine xs_exit ?_
    refine xs_here ?_
    refine xs_then ?_
    refine k_seq ?_
    refine k_reg ?_
    refine s_lt (t_pure ox) ?_
    refine s_lt (t_pure ox) ?_
    refine s_nil ?_
    refine xs_then ?_
    refine k_ret ?_
    exact xs_fin [ox] [own iTy ox M] (SI.tmp 4 SI.nil) (fun _ h => h.re [1] [1, 1]) ⟨M, hi6.1, by omega, rfl⟩
end Go.Proofs.Ytipmkaabogocfaa
