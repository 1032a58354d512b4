/-
  The queue of the reference of layer 27; FinalizerCalls walked. Each law says its conditions.
-/
import Derived.Test.YtipmkaabogocfaaF8
set_option linter.unusedSimpArgs false
set_option linter.unusedVariables false
set_option maxRecDepth 100000
set_option maxHeartbeats 2000000
namespace Go.Proofs.Ytipmkaabogocfaa
open Go.Hp Go.J Go.S
open Go.Mem (Ty KTy blk elemAt pre suf blk_pre blk_suf aget aset strK aggDesc)
/-- A queue of the reference in memory. -/
def rqA (b : Nat) (reg pend : List Int) : Asr := exA fun rv => exA fun pv => stA True [blkA b #[rv, pv] 71, own iTy rv reg, own iTy pv pend]
theorem rq_open {b : Nat} {reg pend : List Int} {Z : Zone} {F : List Asr} {H : Heap} (h : Holds Z (rqA b reg pend :: F) H) : ∃ rv pv, True ∧ Holds Z (blkA b #[rv, pv] 71 :: own iTy rv reg :: own iTy pv pend :: F) H := by
  obtain ⟨a, h⟩ := h.open_ex
  obtain ⟨m, h⟩ := h.open_ex
  exact ⟨a, m, h.open_st⟩
theorem rq_shut {b : Nat} {reg pend : List Int} {Z : Zone} {F : List Asr} {H : Heap} {rv pv : Value} (h : Holds Z (blkA b #[rv, pv] 71 :: own iTy rv reg :: own iTy pv pend :: F) H) : Holds Z (rqA b reg pend :: F) H :=
  Holds.shut_ex rv (Holds.shut_ex pv (Holds.shut_st trivial h))
theorem Kn.nil0 {Z : Zone} {α : Type} {T : Ty α} : Kn Z T (.slice none 0 0) [] := fun _ _ => Sl.nil _ _
theorem drop_cons {reg : List Int} {k : Nat} {y : Int} (h : reg[k - 1]? = some y) (hk : 0 < k) : reg.drop (k - 1) = y :: reg.drop k := by
  obtain ⟨hi, e⟩ := List.getElem?_eq_some_iff.1 h
  have h1 : reg.drop (k - 1) = reg[k - 1] :: reg.drop (k - 1 + 1) := List.drop_eq_getElem_cons hi
  rw [h1, e, show k - 1 + 1 = k by omega]
theorem back_yes {A reg : List Int} {k : Nat} {y : Int} (h : reg[k - 1]? = some y) (hk : 0 < k) (hy : y ∉ A) : (lostL A (reg.drop k)).reverse ++ [y] = (lostL A (reg.drop (k - 1))).reverse := by
  rw [drop_cons h hk]; simp [lostL, hy]
theorem back_no {A reg : List Int} {k : Nat} {y : Int} (h : reg[k - 1]? = some y) (hk : 0 < k) (hy : y ∈ A) : (lostL A (reg.drop k)).reverse = (lostL A (reg.drop (k - 1))).reverse := by
  rw [drop_cons h hk]; simp [lostL, hy]
theorem stay1_yes {A L : List Int} {i : Nat} {y : Int} (h : L[i]? = some y) (hp : y ∈ A) : stayL A (L.take i) ++ [y] = stayL A (L.take (i + 1)) := (stay_yes h hp).1
theorem stay1_no {A L : List Int} {i : Nat} {y : Int} (h : L[i]? = some y) (hp : y ∉ A) : stayL A (L.take i) = stayL A (L.take (i + 1)) := (stay_no h hp).1
theorem rqnew_s {Z : Zone} : SF Try.prog 19 #[] Z [] fun r Bs => ∃ b, r = .pointer (some ⟨b, 0, none⟩) ∧ Bs = [rqA b [] []] := by
  refine sf_enter Try.func19 3 [] (fun w0 => ?_)
  refine k_seq ?_
  refine k_reg ?_
  refine s_lt (t_pure (.pointer none)) ?_
  refine s_nil ?_
  refine xs_then ?_
  refine k_seq ?_
  refine k_reg ?_
  refine s_lt (t_kern (.agg #[(.slice none 0 0), (.slice none 0 0)])) ?_
  refine s_box #[(.slice none 0 0), (.slice none 0 0)] (fun g1 => ?_)
  refine s_lt (t_pure (.pointer (some ⟨g1, 0, none⟩))) ?_
  refine s_nil ?_
  refine xs_then ?_
  refine k_ret ?_
  refine xs_fin [.pointer (some ⟨g1, 0, none⟩)] [rqA g1 [] []] (SI.tmp 0 SI.nil) (fun _ h => rq_shut (b := g1) (rv := .slice none 0 0) (pv := .slice none 0 0) ((Holds.nilS (T := iTy) (Holds.nilS (T := iTy) h)).re [2, 0] [])) ⟨g1, rfl, rfl⟩
theorem rin_s {Z : Zone} {lv : Value} {L : List Int} (hL : Kn Z iTy lv L) (n : Int) : SF Try.prog 53 #[lv, .int .i64 n] Z [] fun r Bs => r = .bool (decide (n ∈ L)) ∧ Bs = [] := by
  refine sf_enter Try.func53 18 [(0, lv), (1, .int .i64 n)] (fun w0 => ?_)
  refine k_fact (fun H h => (hL.get h).len_le) (fun lA => ?_)
  refine k_seq ?_
  refine k_reg ?_
  refine s_lt (t_pure (.bool false)) ?_
  refine s_nil ?_
  refine xs_then ?_
  refine k_seq ?_
  refine k_seq ?_
  refine k_reg ?_
  refine s_lt (t_pure (.int .i64 0)) ?_
  refine s_nil ?_
  refine xs_then ?_
  refine k_block ?_
  refine k_loop (ι := Nat) (fun i => i ≤ L.length ∧ n ∉ L.take i) (fun i => [(0, lv), (1, .int .i64 n), (4, .bool false), (5, .int .i64 (i : Int))]) (fun i => []) (fun i => L.length - i) 0 ⟨Nat.zero_le _, by simp⟩ (sub_of rfl ⟨⟨rfl, rfl⟩, ⟨⟨rfl, rfl⟩, ⟨⟨rfl, rfl⟩, ⟨⟨rfl, rfl⟩, trivial⟩⟩⟩⟩) (fun _ h => h.re [] []) ?_
  rintro i hi1
  show SK _ _ _ _ _ [(0, lv), (1, .int .i64 n), (4, .bool false), (5, .int .i64 (i : Int))] _ []
  refine k_seq ?_
  refine k_seq ?_
  refine k_reg ?_
  refine s_lt (t_pure (.int .i64 (i : Int))) ?_
  refine s_lt (t_pure lv) ?_
  refine s_lt (t_len iTy_ok Try.underlying22 (.zn hL)) ?_
  refine s_lt t_cmp ?_
  refine s_nil ?_
  refine xs_then ?_
  refine k_cond (decide ((i : Int) < (L.length : Int))) (fun c2 => ?_) (fun c2 => ?_)
  ·
    have p3 := of_decide_eq_true c2
    refine k_skip ?_
    refine xs_then ?_
    refine k_seq ?_
    refine k_block ?_
    refine k_seq ?_
    refine k_reg ?_
    refine s_lt (t_pure lv) ?_
    refine s_lt (t_pure (.int .i64 (i : Int))) ?_
    refine s_lt (t_index iTy_ok Try.underlying22 (.zn hL) (i : Int) i (by omega) (by (try simp only [List.length_nil, List.length_cons, List.length_append, List.length_take, List.length_drop, List.length_set, List.length_replicate, List.length_reverse, bits_len]); omega) (by omega)) ?_
    obtain ⟨y4, hy5⟩ : ∃ y, L[i]? = some y := ⟨_, List.getElem?_eq_getElem (by (try simp only [List.length_nil, List.length_cons, List.length_append, List.length_take, List.length_drop, List.length_set, List.length_replicate, List.length_reverse, bits_len]); omega)⟩
    refine s_lt (t_loadE iTy_ok (.zn hL) hy5) ?_
    refine s_lt (t_pure (.int .i64 n)) ?_
    refine s_lt t_cmp ?_
    refine s_nil ?_
    refine xs_then ?_
    refine k_cond (decide (y4 = n)) (fun c6 => ?_) (fun c6 => ?_)
    ·
      have p7 := of_decide_eq_true c6
      refine k_seq ?_
      refine k_reg ?_
      refine s_lt (t_pure (.bool true)) ?_
      refine s_nil ?_
      refine xs_then ?_
      refine k_ret ?_
      refine xs_retBlock ?_
      refine xs_ret ?_
      refine xs_ret ?_
      refine xs_retBlock ?_
      refine xs_ret ?_
      refine xs_fin [.bool true] [] (SI.tmp 4 SI.nil) (fun _ h => h.re [] []) ⟨congrArg Value.bool ?_, rfl⟩
      exact (decide_eq_true (by rw [← p7]; exact List.mem_of_getElem? hy5)).symm
    ·
      have p8 := of_decide_eq_false c6
      refine k_skip ?_
      refine xs_block ?_
      refine xs_then ?_
      refine k_reg ?_
      refine s_lt (t_pure (.int .i64 (i : Int))) ?_
      refine s_lt (t_add (i : Int) 1 (by (try simp only [List.length_nil, List.length_cons, List.length_append, List.length_take, List.length_drop, List.length_set, List.length_replicate, List.length_reverse, bits_len]); omega)) ?_
      refine s_lt (t_pure (.int .i64 ((i : Int) + 1))) ?_
      refine s_nil ?_
      exact xs_round (i + 1) (by omega) (by obtain ⟨hi1, hi2⟩ := hi1; refine ⟨by omega, ?_⟩; rw [← take_snoc hy5, List.mem_append, List.mem_singleton]; rintro (h | h); exact hi2 h; exact p8 h.symm) (sub_of rfl ⟨⟨rfl, rfl⟩, ⟨⟨rfl, rfl⟩, ⟨⟨rfl, rfl⟩, ⟨⟨rfl, rfl⟩, trivial⟩⟩⟩⟩) (fun _ h => h.re [] [])
  ·
    have p9 := of_decide_eq_false c2
    refine k_exit ?_
    refine xs_exit ?_
    refine xs_exit ?_
    refine xs_here ?_
    refine xs_then ?_
    refine k_seq ?_
    refine k_reg ?_
    refine s_lt (t_pure (.bool false)) ?_
    refine s_nil ?_
    refine xs_then ?_
    refine k_ret ?_
    refine xs_fin [.bool false] [] (SI.tmp 4 SI.nil) (fun _ h => h.re [] []) ⟨congrArg Value.bool ?_, rfl⟩
    exact (decide_eq_false (by have h := hi1.2; rwa [List.take_of_length_le (by omega)] at h)).symm
theorem radd_s {Z : Zone} {F : List Asr} {b : Nat} {reg pend : List Int} (id : Int) (hr : reg.length ≤ 90000) : SF Try.prog 40 #[.pointer (some ⟨b, 0, none⟩), .int .i64 id] Z (rqA b reg pend :: F) fun r Bs => r = .int .i64 (addI reg id) ∧ Bs = rqA b (addL reg id) pend :: F := by
  refine sf_enter Try.func40 25 [(0, .pointer (some ⟨b, 0, none⟩)), (1, .int .i64 id)] (fun w0 => ?_)
  refine k_seq ?_
  refine k_reg ?_
  refine s_lt (t_pure (.int .i64 0)) ?_
  refine s_nil ?_
  refine xs_then ?_
  refine k_seq ?_
  refine k_seq ?_
  refine k_reg ?_
  refine s_lt (t_pure (.pointer (some ⟨b, 0, none⟩))) ?_
  refine s_lt (t_pure (.bool false)) ?_
  refine s_nil ?_
  refine xs_then ?_
  refine k_false ?_
  refine k_skip ?_
  refine xs_then ?_
  refine k_seq ?_
  refine k_seq ?_
  refine k_reg ?_
  refine s_lt (t_pure (.int .i64 id)) ?_
  refine s_lt t_cmp ?_
  refine s_nil ?_
  refine xs_then ?_
  refine k_cond (decide (id < 1)) (fun c1 => ?_) (fun c1 => ?_)
  ·
    have p2 := of_decide_eq_true c1
    refine k_seq ?_
    refine k_reg ?_
    refine s_lt (t_pure (.int .i64 2)) ?_
    refine s_nil ?_
    refine xs_then ?_
    refine k_ret ?_
    refine xs_ret ?_
    have h1 : addI reg id = 2 := by simp [addI, p2]
    have h2 : addL reg id = reg := by simp [addL, p2]
    refine xs_fin [.int .i64 2] (rqA b reg pend :: F) (SI.tmp 4 SI.nil) (fun _ h => h.re [0] []) ?_
    rw [h1, h2]; exact ⟨rfl, rfl⟩
  ·
    have p3 := of_decide_eq_false c1
    refine k_skip ?_
    refine xs_then ?_
    refine k_seq ?_
    refine k_seq ?_
    refine k_reg ?_
    refine s_lt (t_pure (.pointer (some ⟨b, 0, none⟩))) ?_
    refine s_lt (t_pure (.pointer (some ⟨b, 0, none⟩))) ?_
    refine s_lt (t_pure (.pointer (some ⟨b, 0, none⟩))) ?_
    refine s_mem2 (fun H h => rq_open (h.re [0] [])) (fun rq4 pq5 hw => ?_)
    refine s_lt (t_load 0 rq4) ?_
    refine s_lt (t_pure (.int .i64 id)) ?_
    refine s_vcall (fun _ h => rin_s (L := reg) (Acc.kn (.own 1) h) id) ?_
    rintro _ rfl
    refine s_nil ?_
    refine xs_then ?_
    refine k_cond (decide (id ∈ reg)) (fun c6 => ?_) (fun c6 => ?_)
    ·
      have p7 := of_decide_eq_true c6
      refine k_seq ?_
      refine k_reg ?_
      refine s_lt (t_pure (.int .i64 10)) ?_
      refine s_nil ?_
      refine xs_then ?_
      refine k_ret ?_
      refine xs_ret ?_
      refine xs_mem (fun _ h => rq_shut (h.re [0, 0, 0] [])) ?_
      have h1 : addI reg id = 10 := by simp [addI, p3, p7]
      have h2 : addL reg id = reg := by simp [addL, p3, p7]
      refine xs_fin [.int .i64 10] (rqA b reg pend :: F) (SI.tmp 4 SI.nil) (fun _ h => h.re [0] []) ?_
      rw [h1, h2]; exact ⟨rfl, rfl⟩
    ·
      have p8 := of_decide_eq_false c6
      refine k_skip ?_
      refine xs_then ?_
      refine k_seq ?_
      refine k_reg ?_
      refine s_lt (t_pure (.pointer (some ⟨b, 0, none⟩))) ?_
      refine s_lt (t_pure (.pointer (some ⟨b, 0, none⟩))) ?_
      refine s_lt (t_pure (.pointer (some ⟨b, 0, none⟩))) ?_
      refine s_lt (t_pure (.pointer (some ⟨b, 0, none⟩))) ?_
      refine s_lt (t_load 0 rq4) ?_
      refine s_lt (t_pure (.int .i64 id)) ?_
      refine s_buildSlice (e := 3) [(0, .int .i64 id)] #[.int .i64 id] (fun g9 => ?_) (hb := by kernel_rfl)
      refine s_append (L := reg) 2 iTy_ok Try.underlying22 (.lit 0 iTy_ok [id]) (by show _ * 8 ≤ _; (try simp only [List.length_nil, List.length_cons, List.length_append, List.length_take, List.length_drop, List.length_set, List.length_replicate, List.length_reverse, bits_len]); omega) (by (try simp only [List.length_nil, List.length_cons, List.length_append, List.length_take, List.length_drop, List.length_set, List.length_replicate, List.length_reverse, bits_len]); omega) (fun v10 => ?_)
      refine s_fact (fun H h => ((Acc.own (T := iTy) (L := (reg ++ [id])) 2 rfl) H h).form) (fun hf11 => ?_)
      refine s_lt (t_pure (.pointer (some ⟨b, 0, none⟩))) ?_
      refine s_lt (t_pure (.pointer (some ⟨b, 0, none⟩))) ?_
      refine s_store (u := v10) (m := 1) 1 #[v10, pq5] ?_ (hm := by (obtain ⟨_, _, e0⟩ := hf11; rw [e0]; rfl)) (h1 := by (obtain ⟨_, _, e0⟩ := hf11; rw [e0]; rfl)) (ha' := by (obtain ⟨_, _, e0⟩ := hf11; rw [e0]; rfl))
      refine s_nil ?_
      refine xs_then ?_
      refine k_seq ?_
      refine k_reg ?_
      refine s_lt (t_pure (.int .i64 0)) ?_
      refine s_nil ?_
      refine xs_then ?_
      refine k_ret ?_
      refine xs_mem (fun _ h => rq_shut (h.re [1, 1, 1] [])) ?_
      have h1 : addI reg id = 0 := by simp [addI, p3, p8]
      have h2 : addL reg id = (reg ++ [id]) := by simp [addL, p3, p8]
      refine xs_fin [.int .i64 0] (rqA b (reg ++ [id]) pend :: F) (SI.tmp 4 SI.nil) (fun _ h => h.re [0] [1]) ?_
      rw [h1, h2]; exact ⟨rfl, rfl⟩
theorem rhas_s {Z : Zone} {F : List Asr} {b : Nat} {reg pend : List Int} (id : Int) : SF Try.prog 41 #[.pointer (some ⟨b, 0, none⟩), .int .i64 id] Z (rqA b reg pend :: F) fun r Bs => r = .bool (decide (id ∈ reg)) ∧ Bs = rqA b reg pend :: F := by
  refine sf_enter Try.func41 15 [(0, .pointer (some ⟨b, 0, none⟩)), (1, .int .i64 id)] (fun w0 => ?_)
  refine k_seq ?_
  refine k_reg ?_
  refine s_lt (t_pure (.bool false)) ?_
  refine s_nil ?_
  refine xs_then ?_
  refine k_seq ?_
  refine k_reg ?_
  refine s_lt (t_pure (.pointer (some ⟨b, 0, none⟩))) ?_
  refine s_lt (t_pure (.bool true)) ?_
  refine s_lt (t_pure (.bool true)) ?_
  refine s_lt (t_pure (.pointer (some ⟨b, 0, none⟩))) ?_
  refine s_lt (t_pure (.pointer (some ⟨b, 0, none⟩))) ?_
  refine s_lt (t_pure (.pointer (some ⟨b, 0, none⟩))) ?_
  refine s_mem2 (fun H h => rq_open (h.re [0] [])) (fun rq1 pq2 hw => ?_)
  refine s_lt (t_load 0 rq1) ?_
  refine s_lt (t_pure (.int .i64 id)) ?_
  refine s_vcall (fun _ h => rin_s (L := reg) (Acc.kn (.own 1) h) id) ?_
  rintro _ rfl
  refine s_lt (t_pure (.bool (decide (id ∈ reg)))) ?_
  refine s_lt (t_pure (.bool (decide (id ∈ reg)))) ?_
  refine s_nil ?_
  refine xs_then ?_
  refine k_ret ?_
  refine xs_mem (fun _ h => rq_shut (h.re [0, 0, 0] [])) ?_
  exact xs_fin [.bool (decide (id ∈ reg))] (rqA b reg pend :: F) (SI.tmp 4 SI.nil) (fun _ h => h.re [0] []) ⟨rfl, rfl⟩
theorem rsepa_s {av : Value} {A : List Int} {Z : Zone} {F : List Asr} {b : Nat} {reg pend : List Int} (hA : Kn Z iTy av A) (hr : reg.length ≤ 100000) (hp : pend.length ≤ 100000) : SF Try.prog 42 #[.pointer (some ⟨b, 0, none⟩), av] Z (rqA b reg pend :: F) fun r Bs => Bs = rqA b (stayL A reg) (pend ++ sepL A reg) :: own iTy r (sepL A reg) :: F := by
  refine sf_enter Try.func42 86 [(0, .pointer (some ⟨b, 0, none⟩)), (1, av)] (fun w0 => ?_)
  refine k_fact (fun H h => (hA.get h).len_le) (fun lA => ?_)
  refine k_seq ?_
  refine k_reg ?_
  refine s_lt (t_pure (.slice none 0 0)) ?_
  refine s_nil ?_
  refine xs_then ?_
  refine k_seq ?_
  refine k_reg ?_
  refine s_buildSlice (e := 3) [] #[] (fun g1 => ?_) (hb := by kernel_rfl)
  refine s_lt (t_pure (.slice (some ⟨g1, 0, none⟩) 0 0)) ?_
  refine s_nil ?_
  refine xs_then ?_
  refine k_seq ?_
  refine k_reg ?_
  refine s_buildSlice (e := 3) [] #[] (fun g2 => ?_) (hb := by kernel_rfl)
  refine s_lt (t_pure (.slice (some ⟨g2, 0, none⟩) 0 0)) ?_
  refine s_nil ?_
  refine xs_then ?_
  refine k_seq ?_
  refine k_seq ?_
  refine k_reg ?_
  refine s_lt (t_pure (.pointer (some ⟨b, 0, none⟩))) ?_
  refine s_lt (t_pure (.bool false)) ?_
  refine s_nil ?_
  refine xs_then ?_
  refine k_false ?_
  refine k_skip ?_
  refine xs_then ?_
  refine k_seq ?_
  refine k_seq ?_
  refine k_reg ?_
  refine s_lt (t_pure (.int .i64 0)) ?_
  refine s_nil ?_
  refine xs_then ?_
  refine k_block ?_
  refine k_mem (fun _ h => Holds.slice 0 h iTy_ok []) ?_
  refine k_mem (Bs := own iTy (.slice (some ⟨g2, 0, none⟩) 0 0) (stayL A (reg.take 0)) :: blkA g1 #[] 3 :: rqA b reg pend :: F) (fun _ h => h) ?_
  refine k_loop (ι := Value × Nat) (fun (sx, i) => i ≤ reg.length) (fun (sx, i) => [(0, .pointer (some ⟨b, 0, none⟩)), (1, av), (4, (.slice none 0 0)), (5, (.slice (some ⟨g1, 0, none⟩) 0 0)), (6, sx), (7, .int .i64 (i : Int))]) (fun (sx, i) => own iTy sx (stayL A (reg.take i)) :: blkA g1 #[] 3 :: rqA b reg pend :: F) (fun (sx, i) => reg.length - i) ((.slice (some ⟨g2, 0, none⟩) 0 0), 0) (Nat.zero_le _) (sub_of rfl ⟨⟨rfl, rfl⟩, ⟨⟨rfl, rfl⟩, ⟨⟨rfl, rfl⟩, ⟨⟨rfl, rfl⟩, ⟨⟨rfl, rfl⟩, ⟨⟨rfl, rfl⟩, trivial⟩⟩⟩⟩⟩⟩) (fun _ h => h.re [0, 0, 0] []) ?_
  rintro ⟨sx, i⟩ hi3
  replace hi3 : i ≤ reg.length := hi3
  show SK _ _ _ _ _ [(0, .pointer (some ⟨b, 0, none⟩)), (1, av), (4, (.slice none 0 0)), (5, (.slice (some ⟨g1, 0, none⟩) 0 0)), (6, sx), (7, .int .i64 (i : Int))] _ (own iTy sx (stayL A (reg.take i)) :: blkA g1 #[] 3 :: rqA b reg pend :: F)
  have hs1 := stay_len A (reg.take i); rw [List.length_take] at hs1
  refine k_seq ?_
  refine k_seq ?_
  refine k_reg ?_
  refine s_lt (t_pure (.int .i64 (i : Int))) ?_
  refine s_lt (t_pure (.pointer (some ⟨b, 0, none⟩))) ?_
  refine s_lt (t_pure (.pointer (some ⟨b, 0, none⟩))) ?_
  refine s_lt (t_pure (.pointer (some ⟨b, 0, none⟩))) ?_
  refine s_mem2 (fun H h => rq_open (h.re [2] [])) (fun rq4 pq5 hw => ?_)
  refine s_lt (t_load 0 rq4) ?_
  refine s_lt (t_len iTy_ok Try.underlying22 (.own 1)) ?_
  refine s_lt t_cmp ?_
  refine s_nil ?_
  refine xs_then ?_
  refine k_cond (decide ((i : Int) < (reg.length : Int))) (fun c6 => ?_) (fun c6 => ?_)
  ·
    have p7 := of_decide_eq_true c6
    refine k_skip ?_
    refine xs_then ?_
    refine k_seq ?_
    refine k_block ?_
    refine k_seq ?_
    refine k_reg ?_
    refine s_lt (t_pure av) ?_
    refine s_lt (t_pure (.pointer (some ⟨b, 0, none⟩))) ?_
    refine s_lt (t_pure (.pointer (some ⟨b, 0, none⟩))) ?_
    refine s_lt (t_pure (.pointer (some ⟨b, 0, none⟩))) ?_
    refine s_lt (t_load 0 rq4) ?_
    refine s_lt (t_pure (.int .i64 (i : Int))) ?_
    refine s_lt (t_index iTy_ok Try.underlying22 (.own 1) (i : Int) i (by omega) (by (try simp only [List.length_nil, List.length_cons, List.length_append, List.length_take, List.length_drop, List.length_set, List.length_replicate, List.length_reverse, bits_len]); omega) (by omega)) ?_
    obtain ⟨y8, hy9⟩ : ∃ y, reg[i]? = some y := ⟨_, List.getElem?_eq_getElem (by (try simp only [List.length_nil, List.length_cons, List.length_append, List.length_take, List.length_drop, List.length_set, List.length_replicate, List.length_reverse, bits_len]); omega)⟩
    refine s_lt (t_loadE iTy_ok (.own 1) hy9) ?_
    refine s_vcall (fun _ h => rin_s (L := A) (Acc.kn (.zn hA) h) y8) ?_
    rintro _ rfl
    refine s_nil ?_
    refine xs_then ?_
    refine k_cond (decide (y8 ∈ A)) (fun c10 => ?_) (fun c10 => ?_)
    ·
      have p11 := of_decide_eq_true c10
      refine k_reg ?_
      refine s_lt (t_pure sx) ?_
      refine s_lt (t_pure (.pointer (some ⟨b, 0, none⟩))) ?_
      refine s_lt (t_pure (.pointer (some ⟨b, 0, none⟩))) ?_
      refine s_lt (t_pure (.pointer (some ⟨b, 0, none⟩))) ?_
      refine s_lt (t_load 0 rq4) ?_
      refine s_lt (t_pure (.int .i64 (i : Int))) ?_
      refine s_lt (t_index iTy_ok Try.underlying22 (.own 1) (i : Int) i (by omega) (by (try simp only [List.length_nil, List.length_cons, List.length_append, List.length_take, List.length_drop, List.length_set, List.length_replicate, List.length_reverse, bits_len]); omega) (by omega)) ?_
      refine s_lt (t_loadE iTy_ok (.own 1) hy9) ?_
      refine s_buildSlice (e := 3) [(0, .int .i64 y8)] #[.int .i64 y8] (fun g12 => ?_) (hb := by kernel_rfl)
      refine s_append (L := (stayL A (reg.take i))) 4 iTy_ok Try.underlying22 (.lit 0 iTy_ok [y8]) (by show _ * 8 ≤ _; (try simp only [List.length_nil, List.length_cons, List.length_append, List.length_take, List.length_drop, List.length_set, List.length_replicate, List.length_reverse, bits_len]); omega) (by (try simp only [List.length_nil, List.length_cons, List.length_append, List.length_take, List.length_drop, List.length_set, List.length_replicate, List.length_reverse, bits_len]); omega) (fun v13 => ?_)
      refine s_fact (fun H h => ((Acc.own (T := iTy) (L := ((stayL A (reg.take i)) ++ [y8])) 4 rfl) H h).form) (fun hf14 => ?_)
      refine s_lt (t_pure v13) ?_
      refine s_nil ?_
      refine xs_block ?_
      refine xs_then ?_
      refine k_reg ?_
      refine s_lt (t_pure (.int .i64 (i : Int))) ?_
      refine s_lt (t_add (i : Int) 1 (by (try simp only [List.length_nil, List.length_cons, List.length_append, List.length_take, List.length_drop, List.length_set, List.length_replicate, List.length_reverse, bits_len]); omega)) ?_
      refine s_lt (t_pure (.int .i64 ((i : Int) + 1))) ?_
      refine s_nil ?_
      refine xs_mem (fun _ h => rq_shut (h.re [1, 1, 1] [])) ?_
      rw [stay1_yes (A := A) hy9 p11]
      exact xs_round (v13, i + 1) (by show reg.length - (i + 1) < reg.length - i; omega) (by show i + 1 ≤ reg.length; omega) (sub_of rfl ⟨⟨rfl, rfl⟩, ⟨⟨rfl, rfl⟩, ⟨⟨rfl, rfl⟩, ⟨⟨rfl, rfl⟩, ⟨⟨rfl, rfl⟩, ⟨⟨rfl, rfl⟩, trivial⟩⟩⟩⟩⟩⟩) (fun _ h => h.re [2, 2, 0] [3])
    ·
      have p15 := of_decide_eq_false c10
      refine k_skip ?_
      refine xs_block ?_
      refine xs_then ?_
      refine k_reg ?_
      refine s_lt (t_pure (.int .i64 (i : Int))) ?_
      refine s_lt (t_add (i : Int) 1 (by (try simp only [List.length_nil, List.length_cons, List.length_append, List.length_take, List.length_drop, List.length_set, List.length_replicate, List.length_reverse, bits_len]); omega)) ?_
      refine s_lt (t_pure (.int .i64 ((i : Int) + 1))) ?_
      refine s_nil ?_
      refine xs_mem (fun _ h => rq_shut (h.re [0, 0, 0] [])) ?_
      rw [stay1_no (A := A) hy9 p15]
      exact xs_round (sx, i + 1) (by show reg.length - (i + 1) < reg.length - i; omega) (by show i + 1 ≤ reg.length; omega) (sub_of rfl ⟨⟨rfl, rfl⟩, ⟨⟨rfl, rfl⟩, ⟨⟨rfl, rfl⟩, ⟨⟨rfl, rfl⟩, ⟨⟨rfl, rfl⟩, ⟨⟨rfl, rfl⟩, trivial⟩⟩⟩⟩⟩⟩) (fun _ h => h.re [1, 1, 0] [])
  ·
    have p16 := of_decide_eq_false c6
    refine k_exit ?_
    obtain rfl : i = reg.length := by omega
    rw [List.take_length]
    have hs3 := stay_len A reg
    refine xs_exit ?_
    refine xs_exit ?_
    refine xs_here ?_
    refine xs_then ?_
    refine k_seq ?_
    refine k_seq ?_
    refine k_reg ?_
    refine s_lt (t_pure (.pointer (some ⟨b, 0, none⟩))) ?_
    refine s_lt (t_pure (.pointer (some ⟨b, 0, none⟩))) ?_
    refine s_lt (t_pure (.pointer (some ⟨b, 0, none⟩))) ?_
    refine s_lt (t_load 0 rq4) ?_
    refine s_lt (t_len iTy_ok Try.underlying22 (.own 1)) ?_
    refine s_lt (t_sub (reg.length : Int) 1 (by (try simp only [List.length_nil, List.length_cons, List.length_append, List.length_take, List.length_drop, List.length_set, List.length_replicate, List.length_reverse, bits_len]); omega)) ?_
    refine s_lt (t_pure (.int .i64 ((reg.length : Int) - 1))) ?_
    refine s_nil ?_
    refine xs_then ?_
    refine k_block ?_
    have hz0 : (lostL A (reg.drop reg.length)).reverse = [] := by rw [List.drop_length]; rfl
    refine k_mem (fun _ h => Holds.slice 4 h iTy_ok []) ?_
    refine k_mem (Bs := blkA b #[rq4, pq5] 71 :: own iTy rq4 reg :: own iTy pq5 pend :: own iTy sx (stayL A reg) :: own iTy (.slice (some ⟨g1, 0, none⟩) 0 0) ((lostL A (reg.drop reg.length)).reverse) :: F) (fun _ h => by rw [hz0]; exact h) ?_
    refine k_mem (fun _ h => rq_shut (h.re [0, 0, 0] [])) ?_
    refine k_loop (ι := Value × Nat) (fun (ox, k) => k ≤ reg.length) (fun (ox, k) => [(0, .pointer (some ⟨b, 0, none⟩)), (1, av), (4, (.slice none 0 0)), (5, ox), (6, sx), (8, .int .i64 ((k : Int) - 1))]) (fun (ox, k) => rqA b reg pend :: own iTy sx (stayL A reg) :: own iTy ox ((lostL A (reg.drop k)).reverse) :: F) (fun (ox, k) => k) ((.slice (some ⟨g1, 0, none⟩) 0 0), reg.length) (Nat.le_refl _) (sub_of rfl ⟨⟨rfl, rfl⟩, ⟨⟨rfl, rfl⟩, ⟨⟨rfl, rfl⟩, ⟨⟨rfl, rfl⟩, ⟨⟨rfl, rfl⟩, ⟨⟨rfl, rfl⟩, trivial⟩⟩⟩⟩⟩⟩) (fun _ h => h.re [0, 0, 0] []) ?_
    rintro ⟨ox, k⟩ hi17
    replace hi17 : k ≤ reg.length := hi17
    show SK _ _ _ _ _ [(0, .pointer (some ⟨b, 0, none⟩)), (1, av), (4, (.slice none 0 0)), (5, ox), (6, sx), (8, .int .i64 ((k : Int) - 1))] _ (rqA b reg pend :: own iTy sx (stayL A reg) :: own iTy ox ((lostL A (reg.drop k)).reverse) :: F)
    have hs1 := lost_len A (reg.drop k); rw [List.length_drop] at hs1
    refine k_seq ?_
    refine k_seq ?_
    refine k_reg ?_
    refine s_lt (t_pure (.int .i64 ((k : Int) - 1))) ?_
    refine s_lt t_cmp ?_
    refine s_nil ?_
    refine xs_then ?_
    refine k_cond (decide ((0 : Int) ≤ ((k : Int) - 1))) (fun c18 => ?_) (fun c18 => ?_)
    ·
      have p19 := of_decide_eq_true c18
      refine k_skip ?_
      refine xs_then ?_
      refine k_seq ?_
      refine k_block ?_
      refine k_seq ?_
      refine k_reg ?_
      refine s_lt (t_pure av) ?_
      refine s_lt (t_pure (.pointer (some ⟨b, 0, none⟩))) ?_
      refine s_lt (t_pure (.pointer (some ⟨b, 0, none⟩))) ?_
      refine s_lt (t_pure (.pointer (some ⟨b, 0, none⟩))) ?_
      refine s_mem2 (fun H h => rq_open (h.re [0] [])) (fun rq20 pq21 hw => ?_)
      refine s_lt (t_load 0 rq20) ?_
      refine s_lt (t_pure (.int .i64 ((k : Int) - 1))) ?_
      refine s_lt (t_index iTy_ok Try.underlying22 (.own 1) ((k : Int) - 1) (k - 1) (by omega) (by (try simp only [List.length_nil, List.length_cons, List.length_append, List.length_take, List.length_drop, List.length_set, List.length_replicate, List.length_reverse, bits_len]); omega) (by omega)) ?_
      obtain ⟨y22, hy23⟩ : ∃ y, reg[(k - 1)]? = some y := ⟨_, List.getElem?_eq_getElem (by (try simp only [List.length_nil, List.length_cons, List.length_append, List.length_take, List.length_drop, List.length_set, List.length_replicate, List.length_reverse, bits_len]); omega)⟩
      refine s_lt (t_loadE iTy_ok (.own 1) hy23) ?_
      refine s_vcall (fun _ h => rin_s (L := A) (Acc.kn (.zn hA) h) y22) ?_
      rintro _ rfl
      refine s_lt (t_pure (.bool (!(decide (y22 ∈ A))))) ?_
      refine s_nil ?_
      refine xs_then ?_
      refine k_cond (!(decide (y22 ∈ A))) (fun c24 => ?_) (fun c24 => ?_)
      ·
        have c25 := not_t c24
        have p26 := of_decide_eq_false c25
        refine k_reg ?_
        refine s_lt (t_pure ox) ?_
        refine s_lt (t_pure (.pointer (some ⟨b, 0, none⟩))) ?_
        refine s_lt (t_pure (.pointer (some ⟨b, 0, none⟩))) ?_
        refine s_lt (t_pure (.pointer (some ⟨b, 0, none⟩))) ?_
        refine s_lt (t_load 0 rq20) ?_
        refine s_lt (t_pure (.int .i64 ((k : Int) - 1))) ?_
        refine s_lt (t_index iTy_ok Try.underlying22 (.own 1) ((k : Int) - 1) (k - 1) (by omega) (by (try simp only [List.length_nil, List.length_cons, List.length_append, List.length_take, List.length_drop, List.length_set, List.length_replicate, List.length_reverse, bits_len]); omega) (by omega)) ?_
        refine s_lt (t_loadE iTy_ok (.own 1) hy23) ?_
        refine s_buildSlice (e := 3) [(0, .int .i64 y22)] #[.int .i64 y22] (fun g27 => ?_) (hb := by kernel_rfl)
        refine s_append (L := (lostL A (reg.drop k)).reverse) 5 iTy_ok Try.underlying22 (.lit 0 iTy_ok [y22]) (by show _ * 8 ≤ _; (try simp only [List.length_nil, List.length_cons, List.length_append, List.length_take, List.length_drop, List.length_set, List.length_replicate, List.length_reverse, bits_len]); omega) (by (try simp only [List.length_nil, List.length_cons, List.length_append, List.length_take, List.length_drop, List.length_set, List.length_replicate, List.length_reverse, bits_len]); omega) (fun v28 => ?_)
        refine s_fact (fun H h => ((Acc.own (T := iTy) (L := ((lostL A (reg.drop k)).reverse ++ [y22])) 5 rfl) H h).form) (fun hf29 => ?_)
        refine s_lt (t_pure v28) ?_
        refine s_nil ?_
        refine xs_block ?_
        refine xs_then ?_
        refine k_reg ?_
        refine s_lt (t_pure (.int .i64 ((k : Int) - 1))) ?_
        refine s_lt (Lt.to (v' := .int .i64 (((k - 1 : Nat) : Int) - 1)) (t_sub ((k : Int) - 1) 1 (by omega)) (congrArg (Value.int .i64) (by omega))) ?_
        refine s_lt (t_pure (.int .i64 (((k - 1 : Nat) : Int) - 1))) ?_
        refine s_nil ?_
        refine xs_mem (fun _ h => rq_shut (h.re [1, 1, 1] [])) ?_
        rw [back_yes (A := A) hy23 (by omega) p26]
        exact xs_round (v28, k - 1) (by show k - 1 < k; omega) (by show k - 1 ≤ reg.length; omega) (sub_of rfl ⟨⟨rfl, rfl⟩, ⟨⟨rfl, rfl⟩, ⟨⟨rfl, rfl⟩, ⟨⟨rfl, rfl⟩, ⟨⟨rfl, rfl⟩, ⟨⟨rfl, rfl⟩, trivial⟩⟩⟩⟩⟩⟩) (fun _ h => h.re [0, 1, 1] [3])
      ·
        have c30 := not_f c24
        have p31 := of_decide_eq_true c30
        refine k_skip ?_
        refine xs_block ?_
        refine xs_then ?_
        refine k_reg ?_
        refine s_lt (t_pure (.int .i64 ((k : Int) - 1))) ?_
        refine s_lt (Lt.to (v' := .int .i64 (((k - 1 : Nat) : Int) - 1)) (t_sub ((k : Int) - 1) 1 (by omega)) (congrArg (Value.int .i64) (by omega))) ?_
        refine s_lt (t_pure (.int .i64 (((k - 1 : Nat) : Int) - 1))) ?_
        refine s_nil ?_
        refine xs_mem (fun _ h => rq_shut (h.re [0, 0, 0] [])) ?_
        rw [back_no (A := A) hy23 (by omega) p31]
        exact xs_round (ox, k - 1) (by show k - 1 < k; omega) (by show k - 1 ≤ reg.length; omega) (sub_of rfl ⟨⟨rfl, rfl⟩, ⟨⟨rfl, rfl⟩, ⟨⟨rfl, rfl⟩, ⟨⟨rfl, rfl⟩, ⟨⟨rfl, rfl⟩, ⟨⟨rfl, rfl⟩, trivial⟩⟩⟩⟩⟩⟩) (fun _ h => h.re [0, 0, 0] [])
    ·
      have p32 := of_decide_eq_false c18
      refine k_exit ?_
      obtain rfl : k = 0 := by omega
      rw [show (lostL A (reg.drop 0)).reverse = sepL A reg from rfl]
      have hs5 := sep_len A reg
      refine xs_exit ?_
      refine xs_exit ?_
      refine xs_here ?_
      refine xs_then ?_
      refine k_seq ?_
      refine k_reg ?_
      refine s_lt (t_pure (.pointer (some ⟨b, 0, none⟩))) ?_
      refine s_lt (t_pure sx) ?_
      refine s_lt (t_pure (.pointer (some ⟨b, 0, none⟩))) ?_
      refine s_lt (t_pure (.pointer (some ⟨b, 0, none⟩))) ?_
      refine s_mem2 (fun H h => rq_open (h.re [0] [])) (fun rq33 pq34 hw => ?_)
      refine s_fact (fun H h => ((Acc.own (T := iTy) (L := (stayL A reg)) 3 rfl) H h).form) (fun hf35 => ?_)
      refine s_store (u := sx) (m := 1) 0 #[sx, pq34] ?_ (hm := by (obtain ⟨_, _, e0⟩ := hf35; rw [e0]; rfl)) (h1 := by (obtain ⟨_, _, e0⟩ := hf35; rw [e0]; rfl)) (ha' := by (obtain ⟨_, _, e0⟩ := hf35; rw [e0]; rfl))
      refine s_nil ?_
      refine xs_then ?_
      refine k_seq ?_
      refine k_reg ?_
      refine s_lt (t_pure (.pointer (some ⟨b, 0, none⟩))) ?_
      refine s_lt (t_pure (.pointer (some ⟨b, 0, none⟩))) ?_
      refine s_lt (t_pure (.pointer (some ⟨b, 0, none⟩))) ?_
      refine s_lt (t_pure (.pointer (some ⟨b, 1, none⟩))) ?_
      refine s_lt (t_load 0 pq34) ?_
      refine s_lt (t_pure ox) ?_
      refine s_append (L := pend) 2 iTy_ok Try.underlying22 (.own 4) (by show _ * 8 ≤ _; (try simp only [List.length_nil, List.length_cons, List.length_append, List.length_take, List.length_drop, List.length_set, List.length_replicate, List.length_reverse, bits_len]); omega) (by (try simp only [List.length_nil, List.length_cons, List.length_append, List.length_take, List.length_drop, List.length_set, List.length_replicate, List.length_reverse, bits_len]); omega) (fun v36 => ?_)
      refine s_fact (fun H h => ((Acc.own (T := iTy) (L := (pend ++ (sepL A reg))) 2 rfl) H h).form) (fun hf37 => ?_)
      refine s_lt (t_pure (.pointer (some ⟨b, 0, none⟩))) ?_
      refine s_lt (t_pure (.pointer (some ⟨b, 1, none⟩))) ?_
      refine s_store (u := v36) (m := 1) 0 #[sx, v36] ?_ (hm := by (obtain ⟨_, _, e0⟩ := hf37; rw [e0]; rfl)) (h1 := by (obtain ⟨_, _, e0⟩ := hf37; rw [e0]; rfl)) (ha' := by (obtain ⟨_, _, e0⟩ := hf37; rw [e0]; rfl))
      refine s_nil ?_
      refine xs_then ?_
      refine k_seq ?_
      refine k_reg ?_
      refine s_lt (t_pure ox) ?_
      refine s_lt (t_pure ox) ?_
      refine s_nil ?_
      refine xs_then ?_
      refine k_ret ?_
      refine xs_mem (fun _ h => rq_shut (h.re [0, 2, 1] [])) ?_
      exact xs_fin [ox] (rqA b (stayL A reg) (pend ++ sepL A reg) :: own iTy ox (sepL A reg) :: F) (SI.tmp 4 SI.nil) (fun _ h => h.re [0, 1] [2]) rfl
theorem rend_s {Z : Zone} {F : List Asr} {b : Nat} {reg pend : List Int} (hr : reg.length ≤ 100000) (hp : pend.length ≤ 100000) : SF Try.prog 44 #[.pointer (some ⟨b, 0, none⟩)] Z (rqA b reg pend :: F) fun r Bs => Bs = rqA b (stayL [] reg) (pend ++ sepL [] reg) :: own iTy r (sepL [] reg) :: F := by
  refine sf_enter Try.func44 5 [(0, .pointer (some ⟨b, 0, none⟩))] (fun w0 => ?_)
  refine k_seq ?_
  refine k_reg ?_
  refine s_lt (t_pure (.slice none 0 0)) ?_
  refine s_nil ?_
  refine xs_then ?_
  refine k_seq ?_
  refine k_reg ?_
  refine s_lt (t_pure (.pointer (some ⟨b, 0, none⟩))) ?_
  refine s_call [0] (rsepa_s (A := []) Kn.nil0 (reg := reg) (pend := pend) (by (try simp only [List.length_nil, List.length_cons, List.length_append, List.length_take, List.length_drop, List.length_set, List.length_replicate, List.length_reverse, bits_len]); omega) (by (try simp only [List.length_nil, List.length_cons, List.length_append, List.length_take, List.length_drop, List.length_set, List.length_replicate, List.length_reverse, bits_len]); omega)) ?_
  rintro v1 _ rfl
  refine s_fact (fun H h => ((Acc.own (T := iTy) (L := (sepL [] reg)) 1 rfl) H h).form) (fun hf2 => ?_)
  refine s_lt (t_pure v1) ?_
  refine s_nil ?_
  refine xs_then ?_
  refine k_ret ?_
  exact xs_fin [v1] (rqA b (stayL [] reg) (pend ++ sepL [] reg) :: own iTy v1 (sepL [] reg) :: F) (SI.tmp 2 SI.nil) (fun _ h => h.re [0, 0] []) rfl
theorem rnext_s {Z : Zone} {F : List Asr} {b : Nat} {reg pend : List Int} (hp : pend.length ≤ 1000000) : SF Try.prog 43 #[.pointer (some ⟨b, 0, none⟩)] Z (rqA b reg pend :: F) fun r Bs => r = .tuple #[.int .i64 (nextI pend), .bool (nextB pend)] ∧ Bs = rqA b reg pend.tail :: F := by
  refine sf_enter Try.func43 32 [(0, .pointer (some ⟨b, 0, none⟩))] (fun w0 => ?_)
  refine k_seq ?_
  refine k_reg ?_
  refine s_lt (t_pure (.int .i64 0)) ?_
  refine s_lt (t_pure (.bool false)) ?_
  refine s_nil ?_
  refine xs_then ?_
  refine k_seq ?_
  refine k_seq ?_
  refine k_reg ?_
  refine s_lt (t_pure (.pointer (some ⟨b, 0, none⟩))) ?_
  refine s_lt (t_pure (.bool false)) ?_
  refine s_lt (t_pure (.bool false)) ?_
  refine s_lt (t_pure (.pointer (some ⟨b, 0, none⟩))) ?_
  refine s_lt (t_pure (.pointer (some ⟨b, 0, none⟩))) ?_
  refine s_lt (t_pure (.pointer (some ⟨b, 1, none⟩))) ?_
  refine s_mem2 (fun H h => rq_open (h.re [0] [])) (fun rq1 pq2 hw => ?_)
  refine s_lt (t_load 0 pq2) ?_
  refine s_lt (t_len iTy_ok Try.underlying22 (.own 2)) ?_
  refine s_lt t_cmp ?_
  refine s_lt (t_pure (.bool (decide ((pend.length : Int) = 0)))) ?_
  refine s_nil ?_
  refine xs_then ?_
  refine k_cond (decide ((pend.length : Int) = 0)) (fun c3 => ?_) (fun c3 => ?_)
  ·
    have p4 := of_decide_eq_true c3
    refine k_seq ?_
    refine k_reg ?_
    refine s_lt (t_pure (.int .i64 0)) ?_
    refine s_lt (t_pure (.bool false)) ?_
    refine s_nil ?_
    refine xs_then ?_
    refine k_ret ?_
    refine xs_ret ?_
    refine xs_mem (fun _ h => rq_shut (h.re [0, 0, 0] [])) ?_
    obtain rfl : pend = [] := List.eq_nil_of_length_eq_zero (by omega)
    exact xs_fin [.int .i64 0, .bool false] (rqA b reg [] :: F) (SI.tmp 2 (SI.tmp 3 SI.nil)) (fun _ h => h.re [0] []) ⟨rfl, rfl⟩
  ·
    have p5 := of_decide_eq_false c3
    refine k_skip ?_
    refine xs_then ?_
    refine k_seq ?_
    refine k_reg ?_
    refine s_lt (t_pure (.pointer (some ⟨b, 0, none⟩))) ?_
    refine s_lt (t_pure (.pointer (some ⟨b, 0, none⟩))) ?_
    refine s_lt (t_pure (.pointer (some ⟨b, 1, none⟩))) ?_
    refine s_lt (t_load 0 pq2) ?_
    refine s_lt (t_index iTy_ok Try.underlying22 (.own 2) 0 0 (by omega) (by (try simp only [List.length_nil, List.length_cons, List.length_append, List.length_take, List.length_drop, List.length_set, List.length_replicate, List.length_reverse, bits_len]); omega) (by omega)) ?_
    obtain ⟨y6, hy7⟩ : ∃ y, pend[0]? = some y := ⟨_, List.getElem?_eq_getElem (by (try simp only [List.length_nil, List.length_cons, List.length_append, List.length_take, List.length_drop, List.length_set, List.length_replicate, List.length_reverse, bits_len]); omega)⟩
    refine s_lt (t_loadE iTy_ok (.own 2) hy7) ?_
    refine s_lt (t_pure (.int .i64 y6)) ?_
    refine s_nil ?_
    refine xs_then ?_
    refine k_seq ?_
    refine k_reg ?_
    refine s_lt (t_pure (.pointer (some ⟨b, 0, none⟩))) ?_
    refine s_buildSlice (e := 3) [] #[] (fun g8 => ?_) (hb := by kernel_rfl)
    refine s_lt (t_pure (.pointer (some ⟨b, 0, none⟩))) ?_
    refine s_lt (t_pure (.pointer (some ⟨b, 0, none⟩))) ?_
    refine s_lt (t_pure (.pointer (some ⟨b, 1, none⟩))) ?_
    refine s_lt (t_load 1 pq2) ?_
    refine s_lt (t_suf iTy_ok Try.underlying22 (.own 3) 1 1 (by omega) (by (try simp only [List.length_nil, List.length_cons, List.length_append, List.length_take, List.length_drop, List.length_set, List.length_replicate, List.length_reverse, bits_len]); omega) (by omega)) ?_
    refine s_mem (fun _ h => Holds.slice 0 h iTy_ok []) ?_
    refine s_append (L := []) 0 iTy_ok Try.underlying22 (Acc.suf (v := pq2) (L := pend) (.own 3) iTy_ok 1 (by (try simp only [List.length_nil, List.length_cons, List.length_append, List.length_take, List.length_drop, List.length_set, List.length_replicate, List.length_reverse, bits_len]); omega)) (by show _ * 8 ≤ _; (try simp only [List.length_nil, List.length_cons, List.length_append, List.length_take, List.length_drop, List.length_set, List.length_replicate, List.length_reverse, bits_len]); omega) (by (try simp only [List.length_nil, List.length_cons, List.length_append, List.length_take, List.length_drop, List.length_set, List.length_replicate, List.length_reverse, bits_len]); omega) (fun v9 => ?_)
    rw [List.nil_append]
    refine s_fact (fun H h => ((Acc.own (T := iTy) (L := (pend.drop 1)) 0 rfl) H h).form) (fun hf10 => ?_)
    refine s_lt (t_pure (.pointer (some ⟨b, 0, none⟩))) ?_
    refine s_lt (t_pure (.pointer (some ⟨b, 1, none⟩))) ?_
    refine s_store (u := v9) (m := 1) 1 #[rq1, v9] ?_ (hm := by (obtain ⟨_, _, e0⟩ := hf10; rw [e0]; rfl)) (h1 := by (obtain ⟨_, _, e0⟩ := hf10; rw [e0]; rfl)) (ha' := by (obtain ⟨_, _, e0⟩ := hf10; rw [e0]; rfl))
    refine s_nil ?_
    refine xs_then ?_
    refine k_seq ?_
    refine k_reg ?_
    refine s_lt (t_pure (.int .i64 y6)) ?_
    refine s_lt (t_pure (.int .i64 y6)) ?_
    refine s_lt (t_pure (.bool true)) ?_
    refine s_nil ?_
    refine xs_then ?_
    refine k_ret ?_
    refine xs_mem (fun _ h => rq_shut (h.re [1, 1, 0] [])) ?_
    have hn : nextI pend = y6 ∧ nextB pend = true ∧ pend.drop 1 = pend.tail := next_some hy7
    rw [hn.1, hn.2.1, ← hn.2.2]
    exact xs_fin [.int .i64 y6, .bool true] (rqA b reg (pend.drop 1) :: F) (SI.tmp 2 (SI.tmp 3 SI.nil)) (fun _ h => h.re [0] [1]) ⟨rfl, rfl⟩
theorem rpending_s {Z : Zone} {F : List Asr} {b : Nat} {reg pend : List Int} (hl : pend.length ≤ 1000000) : SF Try.prog 27 #[.pointer (some ⟨b, 0, none⟩)] Z (rqA b reg pend :: F) fun r Bs => Bs = own iTy r pend :: rqA b reg pend :: F := by
  refine sf_enter Try.func27 11 [(0, .pointer (some ⟨b, 0, none⟩))] (fun w0 => ?_)
  refine k_seq ?_
  refine k_reg ?_
  refine s_lt (t_pure (.slice none 0 0)) ?_
  refine s_nil ?_
  refine xs_then ?_
  refine k_seq ?_
  refine k_seq ?_
  refine k_reg ?_
  refine s_lt (t_pure (.pointer (some ⟨b, 0, none⟩))) ?_
  refine s_lt (t_pure (.bool false)) ?_
  refine s_nil ?_
  refine xs_then ?_
  refine k_false ?_
  refine k_skip ?_
  refine xs_then ?_
  refine k_seq ?_
  refine k_reg ?_
  refine s_buildSlice (e := 3) [] #[] (fun g1 => ?_) (hb := by kernel_rfl)
  refine s_lt (t_pure (.pointer (some ⟨b, 0, none⟩))) ?_
  refine s_lt (t_pure (.pointer (some ⟨b, 0, none⟩))) ?_
  refine s_lt (t_pure (.pointer (some ⟨b, 1, none⟩))) ?_
  refine s_mem2 (fun H h => rq_open (h.re [1] [])) (fun rq2 pq3 hw => ?_)
  refine s_lt (t_load 0 pq3) ?_
  refine s_mem (fun _ h => Holds.slice 3 h iTy_ok []) ?_
  refine s_append (L := []) 3 iTy_ok Try.underlying22 (.own 2) (by show _ * 8 ≤ _; (try simp only [List.length_nil, List.length_cons, List.length_append, List.length_take, List.length_drop, List.length_set, List.length_replicate, List.length_reverse, bits_len]); omega) (by (try simp only [List.length_nil, List.length_cons, List.length_append, List.length_take, List.length_drop, List.length_set, List.length_replicate, List.length_reverse, bits_len]); omega) (fun v4 => ?_)
  rw [List.nil_append]
  refine s_fact (fun H h => ((Acc.own (T := iTy) (L := pend) 3 rfl) H h).form) (fun hf5 => ?_)
  refine s_lt (t_pure v4) ?_
  refine s_nil ?_
  refine xs_then ?_
  refine k_ret ?_
  refine xs_mem (fun _ h => rq_shut (h.re [0, 0, 0] [])) ?_
  exact xs_fin [v4] (own iTy v4 pend :: rqA b reg pend :: F) (SI.tmp 2 SI.nil) (fun _ h => h.re [1, 0] []) rfl
theorem rregistered_s {Z : Zone} {F : List Asr} {b : Nat} {reg pend : List Int} (hl : reg.length ≤ 1000000) : SF Try.prog 28 #[.pointer (some ⟨b, 0, none⟩)] Z (rqA b reg pend :: F) fun r Bs => Bs = own iTy r reg :: rqA b reg pend :: F := by
  refine sf_enter Try.func28 11 [(0, .pointer (some ⟨b, 0, none⟩))] (fun w0 => ?_)
  refine k_seq ?_
  refine k_reg ?_
  refine s_lt (t_pure (.slice none 0 0)) ?_
  refine s_nil ?_
  refine xs_then ?_
  refine k_seq ?_
  refine k_seq ?_
  refine k_reg ?_
  refine s_lt (t_pure (.pointer (some ⟨b, 0, none⟩))) ?_
  refine s_lt (t_pure (.bool false)) ?_
  refine s_nil ?_
  refine xs_then ?_
  refine k_false ?_
  refine k_skip ?_
  refine xs_then ?_
  refine k_seq ?_
  refine k_reg ?_
  refine s_buildSlice (e := 3) [] #[] (fun g1 => ?_) (hb := by kernel_rfl)
  refine s_lt (t_pure (.pointer (some ⟨b, 0, none⟩))) ?_
  refine s_lt (t_pure (.pointer (some ⟨b, 0, none⟩))) ?_
  refine s_lt (t_pure (.pointer (some ⟨b, 0, none⟩))) ?_
  refine s_mem2 (fun H h => rq_open (h.re [1] [])) (fun rq2 pq3 hw => ?_)
  refine s_lt (t_load 0 rq2) ?_
  refine s_mem (fun _ h => Holds.slice 3 h iTy_ok []) ?_
  refine s_append (L := []) 3 iTy_ok Try.underlying22 (.own 1) (by show _ * 8 ≤ _; (try simp only [List.length_nil, List.length_cons, List.length_append, List.length_take, List.length_drop, List.length_set, List.length_replicate, List.length_reverse, bits_len]); omega) (by (try simp only [List.length_nil, List.length_cons, List.length_append, List.length_take, List.length_drop, List.length_set, List.length_replicate, List.length_reverse, bits_len]); omega) (fun v4 => ?_)
  rw [List.nil_append]
  refine s_fact (fun H h => ((Acc.own (T := iTy) (L := reg) 3 rfl) H h).form) (fun hf5 => ?_)
  refine s_lt (t_pure v4) ?_
  refine s_nil ?_
  refine xs_then ?_
  refine k_ret ?_
  refine xs_mem (fun _ h => rq_shut (h.re [0, 0, 0] [])) ?_
  exact xs_fin [v4] (own iTy v4 reg :: rqA b reg pend :: F) (SI.tmp 2 SI.nil) (fun _ h => h.re [1, 0] []) rfl
theorem document_s {Z : Zone} {F : List Asr} {qb : Nat} {reg pend : List Int} {x : Cl} (hx : KnC Z x) (hr : reg.length ≤ 40000) (hp : pend.length ≤ 40000) : SF Try.prog 21 #[.pointer (some ⟨qb, 0, none⟩), x.v] Z (rqA qb reg pend :: F) fun r Bs => ∃ lv, r = .agg #[lv, .int .i64 (prN x pend), .bool (prB x reg pend), .int .i64 (prE x reg)] ∧ Bs = rqA qb (prR x reg) (prP x reg pend) :: own iTy lv (prL x reg pend) :: F := by
  refine sf_enter Try.func21 56 [(0, .pointer (some ⟨qb, 0, none⟩)), (1, .agg #[.int .i64 x.kind, .int .i64 x.id, x.av.v])] (fun w0 => ?_)
  refine k_seq ?_
  refine k_reg ?_
  refine s_box #[.int .i64 x.kind, .int .i64 x.id, x.av.v] (fun g1 => ?_)
  refine s_alloc (.agg #[(.slice none 0 0), .int .i64 0, .bool false, .int .i64 0]) #[(.slice none 0 0), .int .i64 0, .bool false, .int .i64 0] (fun g2 => ?_)
  refine s_nil ?_
  refine xs_then ?_
  refine k_seq ?_
  refine k_reg ?_
  refine s_lt (t_kern (.agg #[(.slice none 0 0), .int .i64 0, .bool false, .int .i64 0])) ?_
  refine s_alloc (.agg #[(.slice none 0 0), .int .i64 0, .bool false, .int .i64 0]) #[(.slice none 0 0), .int .i64 0, .bool false, .int .i64 0] (fun g3 => ?_)
  refine s_store 0 #[(.slice none 0 0), .int .i64 0, .bool false, .int .i64 0] ?_
  refine s_nil ?_
  refine xs_then ?_
  refine k_seq ?_
  refine k_seq ?_
  refine k_reg ?_
  refine s_lt (t_pure (.pointer (some ⟨g1, 0, none⟩))) ?_
  refine s_lt (t_load 2 (.int .i64 x.kind)) ?_
  refine s_nil ?_
  refine xs_then ?_
  refine k_block ?_
  refine k_seq ?_
  refine k_reg ?_
  refine s_lt t_cmp ?_
  refine s_lt (t_pure (.bool (decide (x.kind = 0)))) ?_
  refine s_nil ?_
  refine xs_then ?_
  refine k_cond (decide (x.kind = 0)) (fun c4 => ?_) (fun c4 => ?_)
  ·
    have p5 := of_decide_eq_true c4
    refine k_reg ?_
    refine s_lt (t_pure (.pointer (some ⟨qb, 0, none⟩))) ?_
    refine s_lt (t_pure (.pointer (some ⟨g1, 1, none⟩))) ?_
    refine s_lt (t_load 2 (.int .i64 x.id)) ?_
    refine s_call [3] (radd_s (reg := reg) x.id (by (try simp only [List.length_nil, List.length_cons, List.length_append, List.length_take, List.length_drop, List.length_set, List.length_replicate, List.length_reverse, bits_len]); omega)) ?_
    rintro _ _ ⟨rfl, rfl⟩
    refine s_lt (t_pure (.pointer (some ⟨g3, 3, none⟩))) ?_
    refine s_store 1 #[(.slice none 0 0), .int .i64 0, .bool false, .int .i64 (addI reg x.id)] ?_
    refine s_nil ?_
    refine xs_block ?_
    refine xs_then ?_
    refine k_seq ?_
    refine k_reg ?_
    refine s_lt (t_loadA 1 #[(.slice none 0 0), .int .i64 0, .bool false, .int .i64 (addI reg x.id)]) ?_
    refine s_store 2 #[(.slice none 0 0), .int .i64 0, .bool false, .int .i64 (addI reg x.id)] ?_
    refine s_nil ?_
    refine xs_then ?_
    refine k_ret ?_
    have e_prL : prL x reg pend = [] := by simp [prL, p5]
    have e_prN : prN x pend = 0 := by simp [prN, p5]
    have e_prB : prB x reg pend = false := by simp [prB, p5]
    have e_prE : prE x reg = (addI reg x.id) := by simp [prE, p5]
    have e_prR : prR x reg = (addL reg x.id) := by simp [prR, p5]
    have e_prP : prP x reg pend = pend := by simp [prP, p5]
    refine xs_fin [.agg #[(.slice none 0 0), .int .i64 0, .bool false, .int .i64 (addI reg x.id)]] (rqA qb (addL reg x.id) pend :: own iTy (.slice none 0 0) [] :: F) (SI.agg 4 37 2 SI.nil) (fun _ h => (Holds.nilS (T := iTy) h).re [1, 0] [2, 2, 2]) ?_
    rw [e_prL, e_prN, e_prB, e_prE, e_prR, e_prP]; exact ⟨_, rfl, rfl⟩
  ·
    have p6 := of_decide_eq_false c4
    refine k_seq ?_
    refine k_reg ?_
    refine s_lt t_cmp ?_
    refine s_lt (t_pure (.bool (decide (x.kind = 1)))) ?_
    refine s_nil ?_
    refine xs_then ?_
    refine k_cond (decide (x.kind = 1)) (fun c7 => ?_) (fun c7 => ?_)
    ·
      have p8 := of_decide_eq_true c7
      refine k_reg ?_
      refine s_lt (t_pure (.pointer (some ⟨qb, 0, none⟩))) ?_
      refine s_lt (t_pure (.pointer (some ⟨g1, 1, none⟩))) ?_
      refine s_lt (t_load 2 (.int .i64 x.id)) ?_
      refine s_call [3] (rhas_s (reg := reg) x.id) ?_
      rintro _ _ ⟨rfl, rfl⟩
      refine s_lt (t_pure (.pointer (some ⟨g3, 2, none⟩))) ?_
      refine s_store 1 #[(.slice none 0 0), .int .i64 0, .bool (decide (x.id ∈ reg)), .int .i64 0] ?_
      refine s_nil ?_
      refine xs_block ?_
      refine xs_then ?_
      refine k_seq ?_
      refine k_reg ?_
      refine s_lt (t_loadA 1 #[(.slice none 0 0), .int .i64 0, .bool (decide (x.id ∈ reg)), .int .i64 0]) ?_
      refine s_store 2 #[(.slice none 0 0), .int .i64 0, .bool (decide (x.id ∈ reg)), .int .i64 0] ?_
      refine s_nil ?_
      refine xs_then ?_
      refine k_ret ?_
      have e_prL : prL x reg pend = [] := by simp [prL, p6, p8]
      have e_prN : prN x pend = 0 := by simp [prN, p6, p8]
      have e_prB : prB x reg pend = (decide (x.id ∈ reg)) := by simp [prB, p6, p8]
      have e_prE : prE x reg = 0 := by simp [prE, p6, p8]
      have e_prR : prR x reg = reg := by simp [prR, p6, p8]
      have e_prP : prP x reg pend = pend := by simp [prP, p6, p8]
      refine xs_fin [.agg #[(.slice none 0 0), .int .i64 0, .bool (decide (x.id ∈ reg)), .int .i64 0]] (rqA qb reg pend :: own iTy (.slice none 0 0) [] :: F) (SI.agg 4 37 2 SI.nil) (fun _ h => (Holds.nilS (T := iTy) h).re [1, 0] [2, 2, 2]) ?_
      rw [e_prL, e_prN, e_prB, e_prE, e_prR, e_prP]; exact ⟨_, rfl, rfl⟩
    ·
      have p9 := of_decide_eq_false c7
      refine k_seq ?_
      refine k_reg ?_
      refine s_lt t_cmp ?_
      refine s_lt (t_pure (.bool (decide (x.kind = 2)))) ?_
      refine s_nil ?_
      refine xs_then ?_
      refine k_cond (decide (x.kind = 2)) (fun c10 => ?_) (fun c10 => ?_)
      ·
        have p11 := of_decide_eq_true c10
        refine k_reg ?_
        refine s_lt (t_pure (.pointer (some ⟨qb, 0, none⟩))) ?_
        refine s_lt (t_pure (.pointer (some ⟨g1, 2, none⟩))) ?_
        refine s_lt (t_load 2 x.av.v) ?_
        refine s_call [3] (rsepa_s (A := x.alive) hx (reg := reg) (pend := pend) (by (try simp only [List.length_nil, List.length_cons, List.length_append, List.length_take, List.length_drop, List.length_set, List.length_replicate, List.length_reverse, bits_len]); omega) (by (try simp only [List.length_nil, List.length_cons, List.length_append, List.length_take, List.length_drop, List.length_set, List.length_replicate, List.length_reverse, bits_len]); omega)) ?_
        rintro v12 _ rfl
        refine s_fact (fun H h => ((Acc.own (T := iTy) (L := (sepL x.alive reg)) 1 rfl) H h).form) (fun hf13 => ?_)
        refine s_lt (t_pure (.pointer (some ⟨g3, 0, none⟩))) ?_
        refine s_store (u := v12) (m := 1) 2 #[v12, .int .i64 0, .bool false, .int .i64 0] ?_ (hm := by (obtain ⟨_, _, e0⟩ := hf13; rw [e0]; rfl)) (h1 := by (obtain ⟨_, _, e0⟩ := hf13; rw [e0]; rfl)) (ha' := by (obtain ⟨_, _, e0⟩ := hf13; rw [e0]; rfl))
        refine s_nil ?_
        refine xs_block ?_
        refine xs_then ?_
        refine k_seq ?_
        refine k_reg ?_
        refine s_lt (t_loadA 2 #[v12, .int .i64 0, .bool false, .int .i64 0]) ?_
        refine s_store (u := .agg #[v12, .int .i64 0, .bool false, .int .i64 0]) (m := 4) 3 #[v12, .int .i64 0, .bool false, .int .i64 0] ?_ (hm := by (obtain ⟨_, _, e0⟩ := hf13; rw [e0]; rfl)) (h1 := by (obtain ⟨_, _, e0⟩ := hf13; rw [e0]; rfl)) (ha' := by (obtain ⟨_, _, e0⟩ := hf13; rw [e0]; rfl))
        refine s_nil ?_
        refine xs_then ?_
        refine k_ret ?_
        have e_prL : prL x reg pend = (sepL x.alive reg) := by simp [prL, p6, p9, p11]
        have e_prN : prN x pend = 0 := by simp [prN, p6, p9, p11]
        have e_prB : prB x reg pend = false := by simp [prB, p6, p9, p11]
        have e_prE : prE x reg = 0 := by simp [prE, p6, p9, p11]
        have e_prR : prR x reg = (stayL x.alive reg) := by simp [prR, p6, p9, p11]
        have e_prP : prP x reg pend = (pend ++ (sepL x.alive reg)) := by simp [prP, p6, p9, p11]
        refine xs_fin [.agg #[v12, .int .i64 0, .bool false, .int .i64 0]] (rqA qb (stayL x.alive reg) (pend ++ (sepL x.alive reg)) :: own iTy v12 (sepL x.alive reg) :: F) (SI.agg 4 37 3 SI.nil) (fun _ h => h.re [0, 0] [2, 2, 2]) ?_
        rw [e_prL, e_prN, e_prB, e_prE, e_prR, e_prP]; exact ⟨_, rfl, rfl⟩
      ·
        have p14 := of_decide_eq_false c10
        refine k_seq ?_
        refine k_reg ?_
        refine s_lt t_cmp ?_
        refine s_lt (t_pure (.bool (decide (x.kind = 3)))) ?_
        refine s_nil ?_
        refine xs_then ?_
        refine k_cond (decide (x.kind = 3)) (fun c15 => ?_) (fun c15 => ?_)
        ·
          have p16 := of_decide_eq_true c15
          refine k_seq ?_
          refine k_reg ?_
          refine s_lt (t_pure (.pointer (some ⟨qb, 0, none⟩))) ?_
          refine s_call [3] (rnext_s (pend := pend) (by (try simp only [List.length_nil, List.length_cons, List.length_append, List.length_take, List.length_drop, List.length_set, List.length_replicate, List.length_reverse, bits_len]); omega)) ?_
          rintro _ _ ⟨rfl, rfl⟩
          refine s_lt (t_pure (.tuple #[.int .i64 (nextI pend), .bool (nextB pend)])) ?_
          refine s_lt (t_pure (.int .i64 (nextI pend))) ?_
          refine s_lt (t_pure (.bool (nextB pend))) ?_
          refine s_lt (t_pure (.int .i64 (nextI pend))) ?_
          refine s_lt (t_pure (.bool (nextB pend))) ?_
          refine s_nil ?_
          refine xs_then ?_
          refine k_reg ?_
          refine s_lt (t_pure (.int .i64 (nextI pend))) ?_
          refine s_lt (t_pure (.bool (nextB pend))) ?_
          refine s_lt (t_kern (.agg #[(.slice none 0 0), .int .i64 (nextI pend), .bool (nextB pend), .int .i64 0])) ?_
          refine s_store 1 #[(.slice none 0 0), .int .i64 (nextI pend), .bool (nextB pend), .int .i64 0] ?_
          refine s_nil ?_
          refine xs_block ?_
          refine xs_then ?_
          refine k_seq ?_
          refine k_reg ?_
          refine s_lt (t_loadA 1 #[(.slice none 0 0), .int .i64 (nextI pend), .bool (nextB pend), .int .i64 0]) ?_
          refine s_store 2 #[(.slice none 0 0), .int .i64 (nextI pend), .bool (nextB pend), .int .i64 0] ?_
          refine s_nil ?_
          refine xs_then ?_
          refine k_ret ?_
          have e_prL : prL x reg pend = [] := by simp [prL, p6, p9, p14, p16]
          have e_prN : prN x pend = (nextI pend) := by simp [prN, p6, p9, p14, p16]
          have e_prB : prB x reg pend = (nextB pend) := by simp [prB, p6, p9, p14, p16]
          have e_prE : prE x reg = 0 := by simp [prE, p6, p9, p14, p16]
          have e_prR : prR x reg = reg := by simp [prR, p6, p9, p14, p16]
          have e_prP : prP x reg pend = pend.tail := by simp [prP, p6, p9, p14, p16]
          refine xs_fin [.agg #[(.slice none 0 0), .int .i64 (nextI pend), .bool (nextB pend), .int .i64 0]] (rqA qb reg pend.tail :: own iTy (.slice none 0 0) [] :: F) (SI.agg 4 37 2 SI.nil) (fun _ h => (Holds.nilS (T := iTy) h).re [1, 0] [2, 2, 2]) ?_
          rw [e_prL, e_prN, e_prB, e_prE, e_prR, e_prP]; exact ⟨_, rfl, rfl⟩
        ·
          have p17 := of_decide_eq_false c15
          refine k_seq ?_
          refine k_reg ?_
          refine s_lt t_cmp ?_
          refine s_lt (t_pure (.bool (decide (x.kind = 4)))) ?_
          refine s_nil ?_
          refine xs_then ?_
          refine k_cond (decide (x.kind = 4)) (fun c18 => ?_) (fun c18 => ?_)
          ·
            have p19 := of_decide_eq_true c18
            refine k_reg ?_
            refine s_lt (t_pure (.pointer (some ⟨qb, 0, none⟩))) ?_
            refine s_call [3] (rpending_s (pend := pend) (by (try simp only [List.length_nil, List.length_cons, List.length_append, List.length_take, List.length_drop, List.length_set, List.length_replicate, List.length_reverse, bits_len]); omega)) ?_
            rintro v20 _ rfl
            refine s_fact (fun H h => ((Acc.own (T := iTy) (L := pend) 0 rfl) H h).form) (fun hf21 => ?_)
            refine s_lt (t_pure (.pointer (some ⟨g3, 0, none⟩))) ?_
            refine s_store (u := v20) (m := 1) 2 #[v20, .int .i64 0, .bool false, .int .i64 0] ?_ (hm := by (obtain ⟨_, _, e0⟩ := hf21; rw [e0]; rfl)) (h1 := by (obtain ⟨_, _, e0⟩ := hf21; rw [e0]; rfl)) (ha' := by (obtain ⟨_, _, e0⟩ := hf21; rw [e0]; rfl))
            refine s_nil ?_
            refine xs_block ?_
            refine xs_then ?_
            refine k_seq ?_
            refine k_reg ?_
            refine s_lt (t_loadA 2 #[v20, .int .i64 0, .bool false, .int .i64 0]) ?_
            refine s_store (u := .agg #[v20, .int .i64 0, .bool false, .int .i64 0]) (m := 4) 3 #[v20, .int .i64 0, .bool false, .int .i64 0] ?_ (hm := by (obtain ⟨_, _, e0⟩ := hf21; rw [e0]; rfl)) (h1 := by (obtain ⟨_, _, e0⟩ := hf21; rw [e0]; rfl)) (ha' := by (obtain ⟨_, _, e0⟩ := hf21; rw [e0]; rfl))
            refine s_nil ?_
            refine xs_then ?_
            refine k_ret ?_
            have e_prL : prL x reg pend = pend := by simp [prL, p6, p9, p14, p17, p19]
            have e_prN : prN x pend = 0 := by simp [prN, p6, p9, p14, p17, p19]
            have e_prB : prB x reg pend = false := by simp [prB, p6, p9, p14, p17, p19]
            have e_prE : prE x reg = 0 := by simp [prE, p6, p9, p14, p17, p19]
            have e_prR : prR x reg = reg := by simp [prR, p6, p9, p14, p17, p19]
            have e_prP : prP x reg pend = pend := by simp [prP, p6, p9, p14, p17, p19]
            refine xs_fin [.agg #[v20, .int .i64 0, .bool false, .int .i64 0]] (rqA qb reg pend :: own iTy v20 pend :: F) (SI.agg 4 37 3 SI.nil) (fun _ h => h.re [1, 0] [2, 2, 2]) ?_
            rw [e_prL, e_prN, e_prB, e_prE, e_prR, e_prP]; exact ⟨_, rfl, rfl⟩
          ·
            have p22 := of_decide_eq_false c18
            refine k_seq ?_
            refine k_reg ?_
            refine s_lt t_cmp ?_
            refine s_lt (t_pure (.bool (decide (x.kind = 5)))) ?_
            refine s_nil ?_
            refine xs_then ?_
            refine k_cond (decide (x.kind = 5)) (fun c23 => ?_) (fun c23 => ?_)
            ·
              have p24 := of_decide_eq_true c23
              refine k_reg ?_
              refine s_lt (t_pure (.pointer (some ⟨qb, 0, none⟩))) ?_
              refine s_call [3] (rregistered_s (reg := reg) (by (try simp only [List.length_nil, List.length_cons, List.length_append, List.length_take, List.length_drop, List.length_set, List.length_replicate, List.length_reverse, bits_len]); omega)) ?_
              rintro v25 _ rfl
              refine s_fact (fun H h => ((Acc.own (T := iTy) (L := reg) 0 rfl) H h).form) (fun hf26 => ?_)
              refine s_lt (t_pure (.pointer (some ⟨g3, 0, none⟩))) ?_
              refine s_store (u := v25) (m := 1) 2 #[v25, .int .i64 0, .bool false, .int .i64 0] ?_ (hm := by (obtain ⟨_, _, e0⟩ := hf26; rw [e0]; rfl)) (h1 := by (obtain ⟨_, _, e0⟩ := hf26; rw [e0]; rfl)) (ha' := by (obtain ⟨_, _, e0⟩ := hf26; rw [e0]; rfl))
              refine s_nil ?_
              refine xs_block ?_
              refine xs_then ?_
              refine k_seq ?_
              refine k_reg ?_
              refine s_lt (t_loadA 2 #[v25, .int .i64 0, .bool false, .int .i64 0]) ?_
              refine s_store (u := .agg #[v25, .int .i64 0, .bool false, .int .i64 0]) (m := 4) 3 #[v25, .int .i64 0, .bool false, .int .i64 0] ?_ (hm := by (obtain ⟨_, _, e0⟩ := hf26; rw [e0]; rfl)) (h1 := by (obtain ⟨_, _, e0⟩ := hf26; rw [e0]; rfl)) (ha' := by (obtain ⟨_, _, e0⟩ := hf26; rw [e0]; rfl))
              refine s_nil ?_
              refine xs_then ?_
              refine k_ret ?_
              have e_prL : prL x reg pend = reg := by simp [prL, p6, p9, p14, p17, p22, p24]
              have e_prN : prN x pend = 0 := by simp [prN, p6, p9, p14, p17, p22, p24]
              have e_prB : prB x reg pend = false := by simp [prB, p6, p9, p14, p17, p22, p24]
              have e_prE : prE x reg = 0 := by simp [prE, p6, p9, p14, p17, p22, p24]
              have e_prR : prR x reg = reg := by simp [prR, p6, p9, p14, p17, p22, p24]
              have e_prP : prP x reg pend = pend := by simp [prP, p6, p9, p14, p17, p22, p24]
              refine xs_fin [.agg #[v25, .int .i64 0, .bool false, .int .i64 0]] (rqA qb reg pend :: own iTy v25 reg :: F) (SI.agg 4 37 3 SI.nil) (fun _ h => h.re [1, 0] [2, 2, 2]) ?_
              rw [e_prL, e_prN, e_prB, e_prE, e_prR, e_prP]; exact ⟨_, rfl, rfl⟩
            ·
              have p27 := of_decide_eq_false c23
              refine k_reg ?_
              refine s_lt (t_pure (.pointer (some ⟨qb, 0, none⟩))) ?_
              refine s_call [3] (rend_s (reg := reg) (pend := pend) (by (try simp only [List.length_nil, List.length_cons, List.length_append, List.length_take, List.length_drop, List.length_set, List.length_replicate, List.length_reverse, bits_len]); omega) (by (try simp only [List.length_nil, List.length_cons, List.length_append, List.length_take, List.length_drop, List.length_set, List.length_replicate, List.length_reverse, bits_len]); omega)) ?_
              rintro v28 _ rfl
              refine s_fact (fun H h => ((Acc.own (T := iTy) (L := (sepL [] reg)) 1 rfl) H h).form) (fun hf29 => ?_)
              refine s_lt (t_pure (.pointer (some ⟨g3, 0, none⟩))) ?_
              refine s_store (u := v28) (m := 1) 2 #[v28, .int .i64 0, .bool false, .int .i64 0] ?_ (hm := by (obtain ⟨_, _, e0⟩ := hf29; rw [e0]; rfl)) (h1 := by (obtain ⟨_, _, e0⟩ := hf29; rw [e0]; rfl)) (ha' := by (obtain ⟨_, _, e0⟩ := hf29; rw [e0]; rfl))
              refine s_nil ?_
              refine xs_block ?_
              refine xs_then ?_
              refine k_seq ?_
              refine k_reg ?_
              refine s_lt (t_loadA 2 #[v28, .int .i64 0, .bool false, .int .i64 0]) ?_
              refine s_store (u := .agg #[v28, .int .i64 0, .bool false, .int .i64 0]) (m := 4) 3 #[v28, .int .i64 0, .bool false, .int .i64 0] ?_ (hm := by (obtain ⟨_, _, e0⟩ := hf29; rw [e0]; rfl)) (h1 := by (obtain ⟨_, _, e0⟩ := hf29; rw [e0]; rfl)) (ha' := by (obtain ⟨_, _, e0⟩ := hf29; rw [e0]; rfl))
              refine s_nil ?_
              refine xs_then ?_
              refine k_ret ?_
              have e_prL : prL x reg pend = (sepL [] reg) := by simp [prL, p6, p9, p14, p17, p22, p27]
              have e_prN : prN x pend = 0 := by simp [prN, p6, p9, p14, p17, p22, p27]
              have e_prB : prB x reg pend = false := by simp [prB, p6, p9, p14, p17, p22, p27]
              have e_prE : prE x reg = 0 := by simp [prE, p6, p9, p14, p17, p22, p27]
              have e_prR : prR x reg = (stayL [] reg) := by simp [prR, p6, p9, p14, p17, p22, p27]
              have e_prP : prP x reg pend = (pend ++ (sepL [] reg)) := by simp [prP, p6, p9, p14, p17, p22, p27]
              refine xs_fin [.agg #[v28, .int .i64 0, .bool false, .int .i64 0]] (rqA qb (stayL [] reg) (pend ++ (sepL [] reg)) :: own iTy v28 (sepL [] reg) :: F) (SI.agg 4 37 3 SI.nil) (fun _ h => h.re [0, 0] [2, 2, 2]) ?_
              rw [e_prL, e_prN, e_prB, e_prE, e_prR, e_prP]; exact ⟨_, rfl, rfl⟩
end Go.Proofs.Ytipmkaabogocfaa
