/-
  Graphs compared; the queues of a list; graphs without weak values. Each law says its conditions.
-/
import Derived.Test.YtipmkaabogocfaaF10
set_option linter.unusedSimpArgs false
set_option linter.unusedVariables false
set_option maxRecDepth 100000
set_option maxHeartbeats 2000000
namespace Go.Proofs.Ytipmkaabogocfaa
open Go.Hp Go.J Go.S
open Go.Mem (Ty KTy blk elemAt pre suf blk_pre blk_suf aget aset strK aggDesc)
theorem c_succ {A B : List Ob} {i : Nat} {x y : Ob} (h : (A.take i).map Ob.c = (B.take i).map Ob.c) (hx : A[i]? = some x) (hy : B[i]? = some y) (e : x.c = y.c) : (A.take (i + 1)).map Ob.c = (B.take (i + 1)).map Ob.c := by
  rw [List.take_add_one, List.take_add_one, hx, hy, List.map_append, List.map_append, h]; simp [e]
theorem c_ne {A B : List Ob} {i : Nat} {x y : Ob} (hx : A[i]? = some x) (hy : B[i]? = some y) (e : x.c ≠ y.c) : A.map Ob.c ≠ B.map Ob.c := fun h => by
  have := congrArg (·[i]?) h
  simp only [List.getElem?_map, hx, hy, Option.map_some] at this
  exact e (Option.some.inj this)
theorem c_all {A B : List Ob} {i : Nat} (h : (A.take i).map Ob.c = (B.take i).map Ob.c) (h1 : A.length ≤ i) (h2 : B.length ≤ i) : A.map Ob.c = B.map Ob.c := by
  rwa [List.take_of_length_le h1, List.take_of_length_le h2] at h
theorem sameO_s {Z : Zone} {va vb : Value} {A B : List Ob} (hA : Kn Z ObT va A) (hB : Kn Z ObT vb B) (eA : ∀ x ∈ A, KnO Z x) (eB : ∀ x ∈ B, KnO Z x) : SF Try.prog 54 #[va, vb] Z [] fun r Bs => r = .bool (decide (A.map Ob.c = B.map Ob.c)) ∧ Bs = [] := by
  refine sf_enter Try.func54 111 [(0, va), (1, vb)] (fun w0 => ?_)
  refine k_fact (fun H h => (hA.get h).len_le) (fun lA => ?_)
  refine k_seq ?_
  refine k_reg ?_
  refine s_lt (t_pure (.bool false)) ?_
  refine s_nil ?_
  refine xs_then ?_
  refine k_seq ?_
  refine k_seq ?_
  refine k_reg ?_
  refine s_lt (t_pure va) ?_
  refine s_lt (t_len ObT_ok Try.underlying42 (.zn hA)) ?_
  refine s_lt (t_pure vb) ?_
  refine s_lt (t_len ObT_ok Try.underlying42 (.zn hB)) ?_
  refine s_lt t_cmp ?_
  refine s_nil ?_
  refine xs_then ?_
  refine k_cond (decide ((A.length : Int) ≠ (B.length : Int))) (fun c1 => ?_) (fun c1 => ?_)
  ·
    have p2 := of_decide_eq_true c1
    refine k_seq ?_
    refine k_reg ?_
    refine s_lt (t_pure (.bool false)) ?_
    refine s_nil ?_
    refine xs_then ?_
    refine k_ret ?_
    refine xs_ret ?_
    refine xs_fin [.bool false] [] (SI.tmp 4 SI.nil) (fun _ h => h.re [] []) ⟨congrArg Value.bool ?_, rfl⟩
    refine (decide_eq_false fun h => ?_).symm
    have q := p2
    have hl := congrArg List.length h; simp only [List.length_map] at hl; simp [hl] at q
  ·
    have p3 := Decidable.not_not.1 (of_decide_eq_false c1)
    refine k_skip ?_
    refine xs_then ?_
    refine k_seq ?_
    refine k_seq ?_
    refine k_reg ?_
    refine s_lt (t_pure va) ?_
    refine s_lt (t_len ObT_ok Try.underlying42 (.zn hA)) ?_
    refine s_lt (t_pure (.int .i64 0)) ?_
    refine s_nil ?_
    refine xs_then ?_
    refine k_block ?_
    refine k_loop (ι := Nat) (fun i => i ≤ A.length ∧ (A.take i).map Ob.c = (B.take i).map Ob.c) (fun i => [(0, va), (1, vb), (4, .bool false), (13, .int .i64 (A.length : Int)), (14, .int .i64 (i : Int))]) (fun i => []) (fun i => A.length - i) 0 ⟨Nat.zero_le _, rfl⟩ (sub_of rfl ⟨⟨rfl, rfl⟩, ⟨⟨rfl, rfl⟩, ⟨⟨rfl, rfl⟩, ⟨⟨rfl, rfl⟩, ⟨⟨rfl, rfl⟩, trivial⟩⟩⟩⟩⟩) (fun _ h => h.re [] []) ?_
    rintro i hi4
    show SK _ _ _ _ _ [(0, va), (1, vb), (4, .bool false), (13, .int .i64 (A.length : Int)), (14, .int .i64 (i : Int))] _ []
    refine k_seq ?_
    refine k_reg ?_
    refine s_lt t_cmp ?_
    refine s_nil ?_
    refine xs_then ?_
    refine k_seq ?_
    refine k_cond (decide ((i : Int) < (A.length : Int))) (fun c5 => ?_) (fun c5 => ?_)
    ·
      have p6 := of_decide_eq_true c5
      refine k_skip ?_
      refine xs_then ?_
      refine k_seq ?_
      refine k_block ?_
      refine k_seq ?_
      refine k_reg ?_
      refine s_lt (t_pure (.int .i64 (i : Int))) ?_
      refine s_lt (t_pure (.int .i64 (i : Int))) ?_
      refine s_nil ?_
      refine xs_then ?_
      refine k_seq ?_
      refine k_seq ?_
      refine k_draw ?_
      refine s_lt (t_pure va) ?_
      refine s_lt (t_pure (.int .i64 (i : Int))) ?_
      refine s_lt (t_index ObT_ok Try.underlying42 (.zn hA) (i : Int) i (by omega) (by (try simp only [List.length_nil, List.length_cons, List.length_append, List.length_take, List.length_drop, List.length_set, List.length_replicate, List.length_reverse, bits_len]); omega) (by omega)) ?_
      refine s_lt (t_pure (.pointer (some (elemAt ObT.size va i)))) ?_
      obtain ⟨y7, hy8⟩ : ∃ y, A[i]? = some y := ⟨_, List.getElem?_eq_getElem (by (try simp only [List.length_nil, List.length_cons, List.length_append, List.length_take, List.length_drop, List.length_set, List.length_replicate, List.length_reverse, bits_len]); omega)⟩
      have hk9 := eA y7 (List.mem_of_getElem? hy8)
      refine s_lt (t_loadF 0 ObT_ok (.zn hA) hy8) ?_
      refine s_lt (t_pure vb) ?_
      refine s_lt (t_pure (.int .i64 (i : Int))) ?_
      refine s_lt (t_index ObT_ok Try.underlying42 (.zn hB) (i : Int) i (by omega) (by (try simp only [List.length_nil, List.length_cons, List.length_append, List.length_take, List.length_drop, List.length_set, List.length_replicate, List.length_reverse, bits_len]); omega) (by omega)) ?_
      refine s_lt (t_pure (.pointer (some (elemAt ObT.size vb i)))) ?_
      obtain ⟨y10, hy11⟩ : ∃ y, B[i]? = some y := ⟨_, List.getElem?_eq_getElem (by (try simp only [List.length_nil, List.length_cons, List.length_append, List.length_take, List.length_drop, List.length_set, List.length_replicate, List.length_reverse, bits_len]); omega)⟩
      have hk12 := eB y10 (List.mem_of_getElem? hy11)
      refine s_lt (t_loadF 0 ObT_ok (.zn hB) hy11) ?_
      refine s_lt t_cmp ?_
      refine s_lt (t_pure (.bool (decide (y7.id ≠ y10.id)))) ?_
      refine s_fork 28 (decide (y7.id ≠ y10.id)) (fun c13 => ?_) (fun c13 => ?_)
      ·
        have p14 := of_decide_eq_true c13
        refine s_skip ?_
        refine s_skip ?_
        refine s_skip ?_
        refine s_skip ?_
        refine s_skip ?_
        refine s_skip ?_
        refine s_skip ?_
        refine s_skip ?_
        refine s_skip ?_
        refine s_skip ?_
        refine s_skip ?_
        refine s_lt (t_pure (.bool true)) ?_
        refine s_lt (t_pure (.bool true)) ?_
        refine s_skip ?_
        refine s_skip ?_
        refine s_skip ?_
        refine s_skip ?_
        refine s_skip ?_
        refine s_skip ?_
        refine s_skip ?_
        refine s_skip ?_
        refine s_skip ?_
        refine s_skip ?_
        refine s_skip ?_
        refine s_lt (t_pure (.bool true)) ?_
        refine s_lt (t_pure (.bool true)) ?_
        refine s_skip ?_
        refine s_skip ?_
        refine s_skip ?_
        refine s_skip ?_
        refine s_skip ?_
        refine s_skip ?_
        refine s_skip ?_
        refine s_skip ?_
        refine s_skip ?_
        refine s_skip ?_
        refine s_skip ?_
        refine s_skip ?_
        refine s_lt (t_pure (.bool true)) ?_
        refine s_lt (t_pure (.bool true)) ?_
        refine s_skip ?_
        refine s_skip ?_
        refine s_skip ?_
        refine s_skip ?_
        refine s_skip ?_
        refine s_skip ?_
        refine s_skip ?_
        refine s_skip ?_
        refine s_skip ?_
        refine s_skip ?_
        refine s_skip ?_
        refine s_skip ?_
        refine s_skip ?_
        refine s_lt (t_pure (.bool true)) ?_
        refine s_nil ?_
        refine x_dynS (fun _ h => by kernel_rfl) ?_
        refine xs_then ?_
        refine k_true ?_
        refine k_seq ?_
        refine k_reg ?_
        refine s_lt (t_pure (.bool false)) ?_
        refine s_nil ?_
        refine xs_then ?_
        refine k_ret ?_
        refine xs_ret ?_
        refine xs_retBlock ?_
        refine xs_ret ?_
        refine xs_ret ?_
        refine xs_retBlock ?_
        refine xs_ret ?_
        refine xs_fin [.bool false] [] (SI.tmp 4 SI.nil) (fun _ h => h.re [] []) ⟨congrArg Value.bool ?_, rfl⟩
        refine (decide_eq_false fun h => c_ne hy8 hy11 (fun hc => ?_) h).symm
        have q := p14
        simp only [Ob.c, Prod.mk.injEq] at hc; obtain ⟨c1, c2, c3, c4, c5⟩ := hc
        simp [c1, c2, c3, c4, c5] at q
      ·
        have p15 := Decidable.not_not.1 (of_decide_eq_false c13)
        refine s_lt (t_pure va) ?_
        refine s_lt (t_pure (.int .i64 (i : Int))) ?_
        refine s_lt (t_index ObT_ok Try.underlying42 (.zn hA) (i : Int) i (by omega) (by (try simp only [List.length_nil, List.length_cons, List.length_append, List.length_take, List.length_drop, List.length_set, List.length_replicate, List.length_reverse, bits_len]); omega) (by omega)) ?_
        refine s_lt (t_pure (.pointer (some ((elemAt ObT.size va i).add 1)))) ?_
        refine s_lt (t_loadF 1 ObT_ok (.zn hA) hy8) ?_
        refine s_lt (t_pure vb) ?_
        refine s_lt (t_pure (.int .i64 (i : Int))) ?_
        refine s_lt (t_index ObT_ok Try.underlying42 (.zn hB) (i : Int) i (by omega) (by (try simp only [List.length_nil, List.length_cons, List.length_append, List.length_take, List.length_drop, List.length_set, List.length_replicate, List.length_reverse, bits_len]); omega) (by omega)) ?_
        refine s_lt (t_pure (.pointer (some ((elemAt ObT.size vb i).add 1)))) ?_
        refine s_lt (t_loadF 1 ObT_ok (.zn hB) hy11) ?_
        refine s_lt t_cmp ?_
        refine s_lt (t_pure (.bool (decide (y7.size ≠ y10.size)))) ?_
        refine s_lt (t_pure (.bool (decide (y7.size ≠ y10.size)))) ?_
        refine s_fork 41 (decide (y7.size ≠ y10.size)) (fun c16 => ?_) (fun c16 => ?_)
        ·
          have p17 := of_decide_eq_true c16
          refine s_skip ?_
          refine s_skip ?_
          refine s_skip ?_
          refine s_skip ?_
          refine s_skip ?_
          refine s_skip ?_
          refine s_skip ?_
          refine s_skip ?_
          refine s_skip ?_
          refine s_skip ?_
          refine s_skip ?_
          refine s_lt (t_pure (.bool true)) ?_
          refine s_lt (t_pure (.bool true)) ?_
          refine s_skip ?_
          refine s_skip ?_
          refine s_skip ?_
          refine s_skip ?_
          refine s_skip ?_
          refine s_skip ?_
          refine s_skip ?_
          refine s_skip ?_
          refine s_skip ?_
          refine s_skip ?_
          refine s_skip ?_
          refine s_skip ?_
          refine s_lt (t_pure (.bool true)) ?_
          refine s_lt (t_pure (.bool true)) ?_
          refine s_skip ?_
          refine s_skip ?_
          refine s_skip ?_
          refine s_skip ?_
          refine s_skip ?_
          refine s_skip ?_
          refine s_skip ?_
          refine s_skip ?_
          refine s_skip ?_
          refine s_skip ?_
          refine s_skip ?_
          refine s_skip ?_
          refine s_skip ?_
          refine s_lt (t_pure (.bool true)) ?_
          refine s_nil ?_
          refine x_dynS (fun _ h => by kernel_rfl) ?_
          refine xs_then ?_
          refine k_true ?_
          refine k_seq ?_
          refine k_reg ?_
          refine s_lt (t_pure (.bool false)) ?_
          refine s_nil ?_
          refine xs_then ?_
          refine k_ret ?_
          refine xs_ret ?_
          refine xs_retBlock ?_
          refine xs_ret ?_
          refine xs_ret ?_
          refine xs_retBlock ?_
          refine xs_ret ?_
          refine xs_fin [.bool false] [] (SI.tmp 4 SI.nil) (fun _ h => h.re [] []) ⟨congrArg Value.bool ?_, rfl⟩
          refine (decide_eq_false fun h => c_ne hy8 hy11 (fun hc => ?_) h).symm
          have q := p17
          simp only [Ob.c, Prod.mk.injEq] at hc; obtain ⟨c1, c2, c3, c4, c5⟩ := hc
          simp [c1, c2, c3, c4, c5] at q
        ·
          have p18 := Decidable.not_not.1 (of_decide_eq_false c16)
          refine s_lt (t_pure va) ?_
          refine s_lt (t_pure (.int .i64 (i : Int))) ?_
          refine s_lt (t_index ObT_ok Try.underlying42 (.zn hA) (i : Int) i (by omega) (by (try simp only [List.length_nil, List.length_cons, List.length_append, List.length_take, List.length_drop, List.length_set, List.length_replicate, List.length_reverse, bits_len]); omega) (by omega)) ?_
          refine s_lt (t_pure (.pointer (some ((elemAt ObT.size va i).add 2)))) ?_
          refine s_lt (t_loadF 2 ObT_ok (.zn hA) hy8) ?_
          refine s_lt (t_pure vb) ?_
          refine s_lt (t_pure (.int .i64 (i : Int))) ?_
          refine s_lt (t_index ObT_ok Try.underlying42 (.zn hB) (i : Int) i (by omega) (by (try simp only [List.length_nil, List.length_cons, List.length_append, List.length_take, List.length_drop, List.length_set, List.length_replicate, List.length_reverse, bits_len]); omega) (by omega)) ?_
          refine s_lt (t_pure (.pointer (some ((elemAt ObT.size vb i).add 2)))) ?_
          refine s_lt (t_loadF 2 ObT_ok (.zn hB) hy11) ?_
          refine s_lt t_cmp ?_
          refine s_lt (t_pure (.bool (decide (y7.weak ≠ y10.weak)))) ?_
          refine s_lt (t_pure (.bool (decide (y7.weak ≠ y10.weak)))) ?_
          refine s_fork 54 (decide (y7.weak ≠ y10.weak)) (fun c19 => ?_) (fun c19 => ?_)
          ·
            have p20 := of_decide_eq_true c19
            refine s_skip ?_
            refine s_skip ?_
            refine s_skip ?_
            refine s_skip ?_
            refine s_skip ?_
            refine s_skip ?_
            refine s_skip ?_
            refine s_skip ?_
            refine s_skip ?_
            refine s_skip ?_
            refine s_skip ?_
            refine s_skip ?_
            refine s_lt (t_pure (.bool true)) ?_
            refine s_lt (t_pure (.bool true)) ?_
            refine s_skip ?_
            refine s_skip ?_
            refine s_skip ?_
            refine s_skip ?_
            refine s_skip ?_
            refine s_skip ?_
            refine s_skip ?_
            refine s_skip ?_
            refine s_skip ?_
            refine s_skip ?_
            refine s_skip ?_
            refine s_skip ?_
            refine s_skip ?_
            refine s_lt (t_pure (.bool true)) ?_
            refine s_nil ?_
            refine x_dynS (fun _ h => by kernel_rfl) ?_
            refine xs_then ?_
            refine k_true ?_
            refine k_seq ?_
            refine k_reg ?_
            refine s_lt (t_pure (.bool false)) ?_
            refine s_nil ?_
            refine xs_then ?_
            refine k_ret ?_
            refine xs_ret ?_
            refine xs_retBlock ?_
            refine xs_ret ?_
            refine xs_ret ?_
            refine xs_retBlock ?_
            refine xs_ret ?_
            refine xs_fin [.bool false] [] (SI.tmp 4 SI.nil) (fun _ h => h.re [] []) ⟨congrArg Value.bool ?_, rfl⟩
            refine (decide_eq_false fun h => c_ne hy8 hy11 (fun hc => ?_) h).symm
            have q := p20
            simp only [Ob.c, Prod.mk.injEq] at hc; obtain ⟨c1, c2, c3, c4, c5⟩ := hc
            simp [c1, c2, c3, c4, c5] at q
          ·
            have p21 := Decidable.not_not.1 (of_decide_eq_false c19)
            refine s_lt (t_pure va) ?_
            refine s_lt (t_pure (.int .i64 (i : Int))) ?_
            refine s_lt (t_index ObT_ok Try.underlying42 (.zn hA) (i : Int) i (by omega) (by (try simp only [List.length_nil, List.length_cons, List.length_append, List.length_take, List.length_drop, List.length_set, List.length_replicate, List.length_reverse, bits_len]); omega) (by omega)) ?_
            refine s_lt (t_pure (.pointer (some ((elemAt ObT.size va i).add 3)))) ?_
            refine s_lt (t_loadF 3 ObT_ok (.zn hA) hy8) ?_
            refine s_lt (t_pure vb) ?_
            refine s_lt (t_pure (.int .i64 (i : Int))) ?_
            refine s_lt (t_index ObT_ok Try.underlying42 (.zn hB) (i : Int) i (by omega) (by (try simp only [List.length_nil, List.length_cons, List.length_append, List.length_take, List.length_drop, List.length_set, List.length_replicate, List.length_reverse, bits_len]); omega) (by omega)) ?_
            refine s_lt (t_pure (.pointer (some ((elemAt ObT.size vb i).add 3)))) ?_
            refine s_lt (t_loadF 3 ObT_ok (.zn hB) hy11) ?_
            refine s_vcall (fun _ h => ints_s (Acc.kn (.zn hk9.1) h) (Acc.kn (.zn hk12.1) h)) ?_
            rintro _ rfl
            refine s_lt (t_pure (.bool (!(decide (y7.refs = y10.refs))))) ?_
            refine s_lt (t_pure (.bool (!(decide (y7.refs = y10.refs))))) ?_
            refine s_lt (t_pure (.bool (!(decide (y7.refs = y10.refs))))) ?_
            refine s_fork 68 (!(decide (y7.refs = y10.refs))) (fun c22 => ?_) (fun c22 => ?_)
            ·
              have c23 := not_t c22
              have p24 := of_decide_eq_false c23
              refine s_skip ?_
              refine s_skip ?_
              refine s_skip ?_
              refine s_skip ?_
              refine s_skip ?_
              refine s_skip ?_
              refine s_skip ?_
              refine s_skip ?_
              refine s_skip ?_
              refine s_skip ?_
              refine s_skip ?_
              refine s_skip ?_
              refine s_skip ?_
              refine s_lt (t_pure (.bool true)) ?_
              refine s_nil ?_
              refine x_dynS (fun _ h => by kernel_rfl) ?_
              refine xs_then ?_
              refine k_true ?_
              refine k_seq ?_
              refine k_reg ?_
              refine s_lt (t_pure (.bool false)) ?_
              refine s_nil ?_
              refine xs_then ?_
              refine k_ret ?_
              refine xs_ret ?_
              refine xs_retBlock ?_
              refine xs_ret ?_
              refine xs_ret ?_
              refine xs_retBlock ?_
              refine xs_ret ?_
              refine xs_fin [.bool false] [] (SI.tmp 4 SI.nil) (fun _ h => h.re [] []) ⟨congrArg Value.bool ?_, rfl⟩
              refine (decide_eq_false fun h => c_ne hy8 hy11 (fun hc => ?_) h).symm
              have q := p24
              simp only [Ob.c, Prod.mk.injEq] at hc; obtain ⟨c1, c2, c3, c4, c5⟩ := hc
              simp [c1, c2, c3, c4, c5] at q
            ·
              have c25 := not_f c22
              have p26 := of_decide_eq_true c25
              refine s_lt (t_pure va) ?_
              refine s_lt (t_pure (.int .i64 (i : Int))) ?_
              refine s_lt (t_index ObT_ok Try.underlying42 (.zn hA) (i : Int) i (by omega) (by (try simp only [List.length_nil, List.length_cons, List.length_append, List.length_take, List.length_drop, List.length_set, List.length_replicate, List.length_reverse, bits_len]); omega) (by omega)) ?_
              refine s_lt (t_pure (.pointer (some ((elemAt ObT.size va i).add 4)))) ?_
              refine s_lt (t_loadF 4 ObT_ok (.zn hA) hy8) ?_
              refine s_lt (t_len EntT_ok Try.underlying72 (.zn hk9.2)) ?_
              refine s_lt (t_pure vb) ?_
              refine s_lt (t_pure (.int .i64 (i : Int))) ?_
              refine s_lt (t_index ObT_ok Try.underlying42 (.zn hB) (i : Int) i (by omega) (by (try simp only [List.length_nil, List.length_cons, List.length_append, List.length_take, List.length_drop, List.length_set, List.length_replicate, List.length_reverse, bits_len]); omega) (by omega)) ?_
              refine s_lt (t_pure (.pointer (some ((elemAt ObT.size vb i).add 4)))) ?_
              refine s_lt (t_loadF 4 ObT_ok (.zn hB) hy11) ?_
              refine s_lt (t_len EntT_ok Try.underlying72 (.zn hk12.2)) ?_
              refine s_lt t_cmp ?_
              refine s_lt (t_pure (.bool (decide ((y7.ents.length : Int) ≠ (y10.ents.length : Int))))) ?_
              refine s_nil ?_
              refine x_dynS (fun _ h => by kernel_rfl) ?_
              refine xs_then ?_
              refine k_cond (decide ((y7.ents.length : Int) ≠ (y10.ents.length : Int))) (fun c27 => ?_) (fun c27 => ?_)
              ·
                have p28 := of_decide_eq_true c27
                refine k_seq ?_
                refine k_reg ?_
                refine s_lt (t_pure (.bool false)) ?_
                refine s_nil ?_
                refine xs_then ?_
                refine k_ret ?_
                refine xs_ret ?_
                refine xs_retBlock ?_
                refine xs_ret ?_
                refine xs_ret ?_
                refine xs_retBlock ?_
                refine xs_ret ?_
                refine xs_fin [.bool false] [] (SI.tmp 4 SI.nil) (fun _ h => h.re [] []) ⟨congrArg Value.bool ?_, rfl⟩
                refine (decide_eq_false fun h => c_ne hy8 hy11 (fun hc => ?_) h).symm
                have q := p28
                simp only [Ob.c, Prod.mk.injEq] at hc; obtain ⟨c1, c2, c3, c4, c5⟩ := hc
                simp [c1, c2, c3, c4, c5] at q
              ·
                have p29 := Decidable.not_not.1 (of_decide_eq_false c27)
                refine k_skip ?_
                refine xs_then ?_
                refine k_seq ?_
                refine k_reg ?_
                refine s_lt (t_pure va) ?_
                refine s_lt (t_pure (.int .i64 (i : Int))) ?_
                refine s_lt (t_index ObT_ok Try.underlying42 (.zn hA) (i : Int) i (by omega) (by (try simp only [List.length_nil, List.length_cons, List.length_append, List.length_take, List.length_drop, List.length_set, List.length_replicate, List.length_reverse, bits_len]); omega) (by omega)) ?_
                refine s_lt (t_pure (.pointer (some ((elemAt ObT.size va i).add 4)))) ?_
                refine s_lt (t_loadF 4 ObT_ok (.zn hA) hy8) ?_
                refine s_lt (t_len EntT_ok Try.underlying72 (.zn hk9.2)) ?_
                refine s_lt (t_pure (.int .i64 0)) ?_
                refine s_nil ?_
                refine xs_then ?_
                refine k_block ?_
                refine k_fact (fun H h => (hk9.2.get h).len_le) (fun le => ?_)
                refine k_loop (ι := Nat) (fun k => k ≤ y7.ents.length ∧ y7.ents.take k = y10.ents.take k) (fun k => [(0, va), (1, vb), (4, .bool false), (5, .int .i64 (i : Int)), (13, .int .i64 (A.length : Int)), (14, .int .i64 (i : Int)), (15, .bool (decide ((i : Int) < (A.length : Int)))), (16, .int .i64 (i : Int)), (17, va), (18, .int .i64 (i : Int)), (19, .pointer (some (elemAt ObT.size va i))), (20, .pointer (some (elemAt ObT.size va i))), (21, .int .i64 y7.id), (22, vb), (23, .int .i64 (i : Int)), (24, .pointer (some (elemAt ObT.size vb i))), (25, .pointer (some (elemAt ObT.size vb i))), (26, .int .i64 y10.id), (27, .bool (decide (y7.id ≠ y10.id))), (28, .bool false), (29, va), (30, .int .i64 (i : Int)), (31, .pointer (some (elemAt ObT.size va i))), (32, .pointer (some ((elemAt ObT.size va i).add 1))), (33, .int .i64 y7.size), (34, vb), (35, .int .i64 (i : Int)), (36, .pointer (some (elemAt ObT.size vb i))), (37, .pointer (some ((elemAt ObT.size vb i).add 1))), (38, .int .i64 y10.size), (39, .bool (decide (y7.size ≠ y10.size))), (40, .bool (decide (y7.size ≠ y10.size))), (41, .bool false), (42, va), (43, .int .i64 (i : Int)), (44, .pointer (some (elemAt ObT.size va i))), (45, .pointer (some ((elemAt ObT.size va i).add 2))), (46, .int .i64 y7.weak), (47, vb), (48, .int .i64 (i : Int)), (49, .pointer (some (elemAt ObT.size vb i))), (50, .pointer (some ((elemAt ObT.size vb i).add 2))), (51, .int .i64 y10.weak), (52, .bool (decide (y7.weak ≠ y10.weak))), (53, .bool (decide (y7.weak ≠ y10.weak))), (54, .bool false), (55, va), (56, .int .i64 (i : Int)), (57, .pointer (some (elemAt ObT.size va i))), (58, .pointer (some ((elemAt ObT.size va i).add 3))), (59, y7.rv.v), (60, vb), (61, .int .i64 (i : Int)), (62, .pointer (some (elemAt ObT.size vb i))), (63, .pointer (some ((elemAt ObT.size vb i).add 3))), (64, y10.rv.v), (65, .bool (decide (y7.refs = y10.refs))), (66, .bool (!(decide (y7.refs = y10.refs)))), (67, .bool (!(decide (y7.refs = y10.refs)))), (68, .bool false), (69, va), (70, .int .i64 (i : Int)), (71, .pointer (some (elemAt ObT.size va i))), (72, .pointer (some ((elemAt ObT.size va i).add 4))), (73, y7.ev.v), (74, .int .i64 (y7.ents.length : Int)), (75, vb), (76, .int .i64 (i : Int)), (77, .pointer (some (elemAt ObT.size vb i))), (78, .pointer (some ((elemAt ObT.size vb i).add 4))), (79, y10.ev.v), (80, .int .i64 (y10.ents.length : Int)), (81, .bool (decide ((y7.ents.length : Int) ≠ (y10.ents.length : Int)))), (82, .bool (decide ((y7.ents.length : Int) ≠ (y10.ents.length : Int)))), (83, va), (84, .int .i64 (i : Int)), (85, .pointer (some (elemAt ObT.size va i))), (86, .pointer (some ((elemAt ObT.size va i).add 4))), (87, y7.ev.v), (88, .int .i64 (y7.ents.length : Int)), (89, .int .i64 (k : Int))]) (fun k => []) (fun k => y7.ents.length - k) 0 ⟨Nat.zero_le _, rfl⟩ (sub_of rfl ⟨⟨rfl, rfl⟩, ⟨⟨rfl, rfl⟩, ⟨⟨rfl, rfl⟩, ⟨⟨rfl, rfl⟩, ⟨⟨rfl, rfl⟩, ⟨⟨rfl, rfl⟩, ⟨⟨rfl, rfl⟩, ⟨⟨rfl, rfl⟩, ⟨⟨rfl, rfl⟩, ⟨⟨rfl, rfl⟩, ⟨⟨rfl, rfl⟩, ⟨⟨rfl, rfl⟩, ⟨⟨rfl, rfl⟩, ⟨⟨rfl, rfl⟩, ⟨⟨rfl, rfl⟩, ⟨⟨rfl, rfl⟩, ⟨⟨rfl, rfl⟩, ⟨⟨rfl, rfl⟩, ⟨⟨rfl, rfl⟩, ⟨⟨rfl, rfl⟩, ⟨⟨rfl, rfl⟩, ⟨⟨rfl, rfl⟩, ⟨⟨rfl, rfl⟩, ⟨⟨rfl, rfl⟩, ⟨⟨rfl, rfl⟩, ⟨⟨rfl, rfl⟩, ⟨⟨rfl, rfl⟩, ⟨⟨rfl, rfl⟩, ⟨⟨rfl, rfl⟩, ⟨⟨rfl, rfl⟩, ⟨⟨rfl, rfl⟩, ⟨⟨rfl, rfl⟩, ⟨⟨rfl, rfl⟩, ⟨⟨rfl, rfl⟩, ⟨⟨rfl, rfl⟩, ⟨⟨rfl, rfl⟩, ⟨⟨rfl, rfl⟩, ⟨⟨rfl, rfl⟩, ⟨⟨rfl, rfl⟩, ⟨⟨rfl, rfl⟩, ⟨⟨rfl, rfl⟩, ⟨⟨rfl, rfl⟩, ⟨⟨rfl, rfl⟩, ⟨⟨rfl, rfl⟩, ⟨⟨rfl, rfl⟩, ⟨⟨rfl, rfl⟩, ⟨⟨rfl, rfl⟩, ⟨⟨rfl, rfl⟩, ⟨⟨rfl, rfl⟩, ⟨⟨rfl, rfl⟩, ⟨⟨rfl, rfl⟩, ⟨⟨rfl, rfl⟩, ⟨⟨rfl, rfl⟩, ⟨⟨rfl, rfl⟩, ⟨⟨rfl, rfl⟩, ⟨⟨rfl, rfl⟩, ⟨⟨rfl, rfl⟩, ⟨⟨rfl, rfl⟩, ⟨⟨rfl, rfl⟩, ⟨⟨rfl, rfl⟩, ⟨⟨rfl, rfl⟩, ⟨⟨rfl, rfl⟩, ⟨⟨rfl, rfl⟩, ⟨⟨rfl, rfl⟩, ⟨⟨rfl, rfl⟩, ⟨⟨rfl, rfl⟩, ⟨⟨rfl, rfl⟩, ⟨⟨rfl, rfl⟩, ⟨⟨rfl, rfl⟩, ⟨⟨rfl, rfl⟩, ⟨⟨rfl, rfl⟩, ⟨⟨rfl, rfl⟩, ⟨⟨rfl, rfl⟩, ⟨⟨rfl, rfl⟩, ⟨⟨rfl, rfl⟩, ⟨⟨rfl, rfl⟩, ⟨⟨rfl, rfl⟩, ⟨⟨rfl, rfl⟩, ⟨⟨rfl, rfl⟩, ⟨⟨rfl, rfl⟩, ⟨⟨rfl, rfl⟩, trivial⟩⟩⟩⟩⟩⟩⟩⟩⟩⟩⟩⟩⟩⟩⟩⟩⟩⟩⟩⟩⟩⟩⟩⟩⟩⟩⟩⟩⟩⟩⟩⟩⟩⟩⟩⟩⟩⟩⟩⟩⟩⟩⟩⟩⟩⟩⟩⟩⟩⟩⟩⟩⟩⟩⟩⟩⟩⟩⟩⟩⟩⟩⟩⟩⟩⟩⟩⟩⟩⟩⟩⟩⟩⟩⟩⟩⟩⟩⟩⟩⟩) (fun _ h => h.re [] []) ?_
                rintro k hi30
                show SK _ _ _ _ _ [(0, va), (1, vb), (4, .bool false), (5, .int .i64 (i : Int)), (13, .int .i64 (A.length : Int)), (14, .int .i64 (i : Int)), (15, .bool (decide ((i : Int) < (A.length : Int)))), (16, .int .i64 (i : Int)), (17, va), (18, .int .i64 (i : Int)), (19, .pointer (some (elemAt ObT.size va i))), (20, .pointer (some (elemAt ObT.size va i))), (21, .int .i64 y7.id), (22, vb), (23, .int .i64 (i : Int)), (24, .pointer (some (elemAt ObT.size vb i))), (25, .pointer (some (elemAt ObT.size vb i))), (26, .int .i64 y10.id), (27, .bool (decide (y7.id ≠ y10.id))), (28, .bool false), (29, va), (30, .int .i64 (i : Int)), (31, .pointer (some (elemAt ObT.size va i))), (32, .pointer (some ((elemAt ObT.size va i).add 1))), (33, .int .i64 y7.size), (34, vb), (35, .int .i64 (i : Int)), (36, .pointer (some (elemAt ObT.size vb i))), (37, .pointer (some ((elemAt ObT.size vb i).add 1))), (38, .int .i64 y10.size), (39, .bool (decide (y7.size ≠ y10.size))), (40, .bool (decide (y7.size ≠ y10.size))), (41, .bool false), (42, va), (43, .int .i64 (i : Int)), (44, .pointer (some (elemAt ObT.size va i))), (45, .pointer (some ((elemAt ObT.size va i).add 2))), (46, .int .i64 y7.weak), (47, vb), (48, .int .i64 (i : Int)), (49, .pointer (some (elemAt ObT.size vb i))), (50, .pointer (some ((elemAt ObT.size vb i).add 2))), (51, .int .i64 y10.weak), (52, .bool (decide (y7.weak ≠ y10.weak))), (53, .bool (decide (y7.weak ≠ y10.weak))), (54, .bool false), (55, va), (56, .int .i64 (i : Int)), (57, .pointer (some (elemAt ObT.size va i))), (58, .pointer (some ((elemAt ObT.size va i).add 3))), (59, y7.rv.v), (60, vb), (61, .int .i64 (i : Int)), (62, .pointer (some (elemAt ObT.size vb i))), (63, .pointer (some ((elemAt ObT.size vb i).add 3))), (64, y10.rv.v), (65, .bool (decide (y7.refs = y10.refs))), (66, .bool (!(decide (y7.refs = y10.refs)))), (67, .bool (!(decide (y7.refs = y10.refs)))), (68, .bool false), (69, va), (70, .int .i64 (i : Int)), (71, .pointer (some (elemAt ObT.size va i))), (72, .pointer (some ((elemAt ObT.size va i).add 4))), (73, y7.ev.v), (74, .int .i64 (y7.ents.length : Int)), (75, vb), (76, .int .i64 (i : Int)), (77, .pointer (some (elemAt ObT.size vb i))), (78, .pointer (some ((elemAt ObT.size vb i).add 4))), (79, y10.ev.v), (80, .int .i64 (y10.ents.length : Int)), (81, .bool (decide ((y7.ents.length : Int) ≠ (y10.ents.length : Int)))), (82, .bool (decide ((y7.ents.length : Int) ≠ (y10.ents.length : Int)))), (83, va), (84, .int .i64 (i : Int)), (85, .pointer (some (elemAt ObT.size va i))), (86, .pointer (some ((elemAt ObT.size va i).add 4))), (87, y7.ev.v), (88, .int .i64 (y7.ents.length : Int)), (89, .int .i64 (k : Int))] _ []
                refine k_seq ?_
                refine k_reg ?_
                refine s_lt t_cmp ?_
                refine s_nil ?_
                refine xs_then ?_
                refine k_seq ?_
                refine k_cond (decide ((k : Int) < (y7.ents.length : Int))) (fun c31 => ?_) (fun c31 => ?_)
                ·
                  have p32 := of_decide_eq_true c31
                  refine k_skip ?_
                  refine xs_then ?_
                  refine k_seq ?_
                  refine k_block ?_
                  refine k_seq ?_
                  refine k_reg ?_
                  refine s_lt (t_pure (.int .i64 (k : Int))) ?_
                  refine s_lt (t_pure (.int .i64 (k : Int))) ?_
                  refine s_nil ?_
                  refine xs_then ?_
                  refine k_seq ?_
                  refine k_draw ?_
                  refine s_lt (t_pure va) ?_
                  refine s_lt (t_pure (.int .i64 (i : Int))) ?_
                  refine s_lt (t_index ObT_ok Try.underlying42 (.zn hA) (i : Int) i (by omega) (by (try simp only [List.length_nil, List.length_cons, List.length_append, List.length_take, List.length_drop, List.length_set, List.length_replicate, List.length_reverse, bits_len]); omega) (by omega)) ?_
                  refine s_lt (t_pure (.pointer (some ((elemAt ObT.size va i).add 4)))) ?_
                  refine s_lt (t_loadF 4 ObT_ok (.zn hA) hy8) ?_
                  refine s_lt (t_pure (.int .i64 (k : Int))) ?_
                  refine s_lt (t_index EntT_ok Try.underlying72 (.zn hk9.2) (k : Int) k (by omega) (by (try simp only [List.length_nil, List.length_cons, List.length_append, List.length_take, List.length_drop, List.length_set, List.length_replicate, List.length_reverse, bits_len]); omega) (by omega)) ?_
                  obtain ⟨y33, hy34⟩ : ∃ y, y7.ents[k]? = some y := ⟨_, List.getElem?_eq_getElem (by (try simp only [List.length_nil, List.length_cons, List.length_append, List.length_take, List.length_drop, List.length_set, List.length_replicate, List.length_reverse, bits_len]); omega)⟩
                  refine s_lt (t_loadE EntT_ok (.zn hk9.2) hy34) ?_
                  refine s_lt (t_pure vb) ?_
                  refine s_lt (t_pure (.int .i64 (i : Int))) ?_
                  refine s_lt (t_index ObT_ok Try.underlying42 (.zn hB) (i : Int) i (by omega) (by (try simp only [List.length_nil, List.length_cons, List.length_append, List.length_take, List.length_drop, List.length_set, List.length_replicate, List.length_reverse, bits_len]); omega) (by omega)) ?_
                  refine s_lt (t_pure (.pointer (some ((elemAt ObT.size vb i).add 4)))) ?_
                  refine s_lt (t_loadF 4 ObT_ok (.zn hB) hy11) ?_
                  refine s_lt (t_pure (.int .i64 (k : Int))) ?_
                  refine s_lt (t_index EntT_ok Try.underlying72 (.zn hk12.2) (k : Int) k (by omega) (by (try simp only [List.length_nil, List.length_cons, List.length_append, List.length_take, List.length_drop, List.length_set, List.length_replicate, List.length_reverse, bits_len]); omega) (by omega)) ?_
                  obtain ⟨y35, hy36⟩ : ∃ y, y10.ents[k]? = some y := ⟨_, List.getElem?_eq_getElem (by (try simp only [List.length_nil, List.length_cons, List.length_append, List.length_take, List.length_drop, List.length_set, List.length_replicate, List.length_reverse, bits_len]); omega)⟩
                  refine s_lt (t_loadE EntT_ok (.zn hk12.2) hy36) ?_
                  refine s_lt (t_eqS (fun w => (eqEntT y33 y35 w).2)) ?_
                  refine s_nil ?_
                  refine x_dynS (fun _ h => by kernel_rfl) ?_
                  refine xs_then ?_
                  refine k_cond (!(decide (y33 = y35))) (fun c37 => ?_) (fun c37 => ?_)
                  ·
                    have c38 := not_t c37
                    have p39 := of_decide_eq_false c38
                    refine k_seq ?_
                    refine k_reg ?_
                    refine s_lt (t_pure (.bool false)) ?_
                    refine s_nil ?_
                    refine xs_then ?_
                    refine k_ret ?_
                    refine xs_retBlock ?_
                    refine xs_ret ?_
                    refine xs_ret ?_
                    refine xs_retBlock ?_
                    refine xs_retBlock ?_
                    refine xs_ret ?_
                    refine xs_ret ?_
                    refine xs_retBlock ?_
                    refine xs_ret ?_
                    refine xs_fin [.bool false] [] (SI.tmp 4 SI.nil) (fun _ h => h.re [] []) ⟨congrArg Value.bool ?_, rfl⟩
                    exact (decide_eq_false fun h => c_ne hy8 hy11 (fun hc => ne_of_get hy34 hy36 p39 (congrArg (fun q => q.2.2.2.2) hc)) h).symm
                  ·
                    have c40 := not_f c37
                    have p41 := of_decide_eq_true c40
                    refine k_skip ?_
                    refine xs_block ?_
                    refine xs_then ?_
                    refine k_reg ?_
                    refine s_lt (t_add (k : Int) 1 (by (try simp only [List.length_nil, List.length_cons, List.length_append, List.length_take, List.length_drop, List.length_set, List.length_replicate, List.length_reverse, bits_len]); omega)) ?_
                    refine s_lt (t_pure (.int .i64 ((k : Int) + 1))) ?_
                    refine s_nil ?_
                    exact xs_round (k + 1) (by omega) (by obtain ⟨hk1, hk2⟩ := hi30; exact ⟨by omega, take_eq_succ hk2 hy34 hy36 p41⟩) (sub_of rfl ⟨⟨rfl, rfl⟩, ⟨⟨rfl, rfl⟩, ⟨⟨rfl, rfl⟩, ⟨⟨rfl, rfl⟩, ⟨⟨rfl, rfl⟩, ⟨⟨rfl, rfl⟩, ⟨⟨rfl, rfl⟩, ⟨⟨rfl, rfl⟩, ⟨⟨rfl, rfl⟩, ⟨⟨rfl, rfl⟩, ⟨⟨rfl, rfl⟩, ⟨⟨rfl, rfl⟩, ⟨⟨rfl, rfl⟩, ⟨⟨rfl, rfl⟩, ⟨⟨rfl, rfl⟩, ⟨⟨rfl, rfl⟩, ⟨⟨rfl, rfl⟩, ⟨⟨rfl, rfl⟩, ⟨⟨rfl, rfl⟩, ⟨⟨rfl, rfl⟩, ⟨⟨rfl, rfl⟩, ⟨⟨rfl, rfl⟩, ⟨⟨rfl, rfl⟩, ⟨⟨rfl, rfl⟩, ⟨⟨rfl, rfl⟩, ⟨⟨rfl, rfl⟩, ⟨⟨rfl, rfl⟩, ⟨⟨rfl, rfl⟩, ⟨⟨rfl, rfl⟩, ⟨⟨rfl, rfl⟩, ⟨⟨rfl, rfl⟩, ⟨⟨rfl, rfl⟩, ⟨⟨rfl, rfl⟩, ⟨⟨rfl, rfl⟩, ⟨⟨rfl, rfl⟩, ⟨⟨rfl, rfl⟩, ⟨⟨rfl, rfl⟩, ⟨⟨rfl, rfl⟩, ⟨⟨rfl, rfl⟩, ⟨⟨rfl, rfl⟩, ⟨⟨rfl, rfl⟩, ⟨⟨rfl, rfl⟩, ⟨⟨rfl, rfl⟩, ⟨⟨rfl, rfl⟩, ⟨⟨rfl, rfl⟩, ⟨⟨rfl, rfl⟩, ⟨⟨rfl, rfl⟩, ⟨⟨rfl, rfl⟩, ⟨⟨rfl, rfl⟩, ⟨⟨rfl, rfl⟩, ⟨⟨rfl, rfl⟩, ⟨⟨rfl, rfl⟩, ⟨⟨rfl, rfl⟩, ⟨⟨rfl, rfl⟩, ⟨⟨rfl, rfl⟩, ⟨⟨rfl, rfl⟩, ⟨⟨rfl, rfl⟩, ⟨⟨rfl, rfl⟩, ⟨⟨rfl, rfl⟩, ⟨⟨rfl, rfl⟩, ⟨⟨rfl, rfl⟩, ⟨⟨rfl, rfl⟩, ⟨⟨rfl, rfl⟩, ⟨⟨rfl, rfl⟩, ⟨⟨rfl, rfl⟩, ⟨⟨rfl, rfl⟩, ⟨⟨rfl, rfl⟩, ⟨⟨rfl, rfl⟩, ⟨⟨rfl, rfl⟩, ⟨⟨rfl, rfl⟩, ⟨⟨rfl, rfl⟩, ⟨⟨rfl, rfl⟩, ⟨⟨rfl, rfl⟩, ⟨⟨rfl, rfl⟩, ⟨⟨rfl, rfl⟩, ⟨⟨rfl, rfl⟩, ⟨⟨rfl, rfl⟩, ⟨⟨rfl, rfl⟩, ⟨⟨rfl, rfl⟩, ⟨⟨rfl, rfl⟩, ⟨⟨rfl, rfl⟩, trivial⟩⟩⟩⟩⟩⟩⟩⟩⟩⟩⟩⟩⟩⟩⟩⟩⟩⟩⟩⟩⟩⟩⟩⟩⟩⟩⟩⟩⟩⟩⟩⟩⟩⟩⟩⟩⟩⟩⟩⟩⟩⟩⟩⟩⟩⟩⟩⟩⟩⟩⟩⟩⟩⟩⟩⟩⟩⟩⟩⟩⟩⟩⟩⟩⟩⟩⟩⟩⟩⟩⟩⟩⟩⟩⟩⟩⟩⟩⟩⟩⟩) (fun _ h => h.re [] [])
                ·
                  have p42 := of_decide_eq_false c31
                  refine k_exit ?_
                  have hents : y7.ents = y10.ents := take_all hi30.2 (by omega) (by omega)
                  have hcore : y7.c = y10.c := by simp only [Ob.c, hents, p3, p6, p15, p18, p21, p26, p29]
                  refine xs_exit ?_
                  refine xs_exit ?_
                  refine xs_here ?_
                  refine xs_block ?_
                  refine xs_then ?_
                  refine k_reg ?_
                  refine s_lt (t_add (i : Int) 1 (by (try simp only [List.length_nil, List.length_cons, List.length_append, List.length_take, List.length_drop, List.length_set, List.length_replicate, List.length_reverse, bits_len]); omega)) ?_
                  refine s_lt (t_pure (.int .i64 ((i : Int) + 1))) ?_
                  refine s_nil ?_
                  exact xs_round (i + 1) (by omega) (by obtain ⟨hi1, hi2⟩ := hi4; exact ⟨by omega, c_succ hi2 hy8 hy11 hcore⟩) (sub_of rfl ⟨⟨rfl, rfl⟩, ⟨⟨rfl, rfl⟩, ⟨⟨rfl, rfl⟩, ⟨⟨rfl, rfl⟩, ⟨⟨rfl, rfl⟩, trivial⟩⟩⟩⟩⟩) (fun _ h => h.re [] [])
    ·
      have p43 := of_decide_eq_false c5
      refine k_exit ?_
      refine xs_exit ?_
      refine xs_exit ?_
      refine xs_here ?_
      refine xs_then ?_
      refine k_seq ?_
      refine k_reg ?_
      refine s_lt (t_pure (.bool true)) ?_
      refine s_nil ?_
      refine xs_then ?_
      refine k_ret ?_
      refine xs_fin [.bool true] [] (SI.tmp 4 SI.nil) (fun _ h => h.re [] []) ⟨congrArg Value.bool ?_, rfl⟩
      exact (decide_eq_true (c_all hi4.2 (by omega) (by omega))).symm
theorem sameG_s {Z : Zone} {ov rv : Value} {l : List Ob} {R : List Int} (hg : KnG Z ov rv l R) {ov' rv' : Value} {l' : List Ob} {R' : List Int} (hg' : KnG Z ov' rv' l' R') : SF Try.prog 26 #[.agg #[ov, rv], .agg #[ov', rv']] Z [] fun r Bs => r = .bool (decide (R = R' ∧ l.map Ob.c = l'.map Ob.c)) ∧ Bs = [] := by
  refine sf_enter Try.func26 17 [(0, .agg #[ov, rv]), (1, .agg #[ov', rv'])] (fun w0 => ?_)
  refine k_seq ?_
  refine k_reg ?_
  refine s_box #[ov, rv] (fun g1 => ?_)
  refine s_box #[ov', rv'] (fun g2 => ?_)
  refine s_lt (t_pure (.bool false)) ?_
  refine s_nil ?_
  refine xs_then ?_
  refine k_seq ?_
  refine k_reg ?_
  refine s_lt (t_pure (.pointer (some ⟨g1, 1, none⟩))) ?_
  refine s_lt (t_load 1 rv) ?_
  refine s_lt (t_pure (.pointer (some ⟨g2, 1, none⟩))) ?_
  refine s_lt (t_load 0 rv') ?_
  refine s_vcall (fun _ h => ints_s (Acc.kn (.zn hg.roots) h) (Acc.kn (.zn hg'.roots) h)) ?_
  rintro _ rfl
  refine s_lt (t_pure (.bool (decide (R = R')))) ?_
  refine s_fork 10 (decide (R = R')) (fun c3 => ?_) (fun c3 => ?_)
  ·
    have p4 := of_decide_eq_true c3
    refine s_lt (t_pure (.pointer (some ⟨g1, 0, none⟩))) ?_
    refine s_lt (t_load 1 ov) ?_
    refine s_lt (t_pure (.pointer (some ⟨g2, 0, none⟩))) ?_
    refine s_lt (t_load 0 ov') ?_
    refine s_vcall (fun _ h => sameO_s (hg.up h).obs (hg'.up h).obs (hg.up h).each (hg'.up h).each) ?_
    rintro _ rfl
    refine s_lt (t_pure (.bool (decide (l.map Ob.c = l'.map Ob.c)))) ?_
    refine s_lt (t_pure (.bool (decide (l.map Ob.c = l'.map Ob.c)))) ?_
    refine s_nil ?_
    refine xs_then ?_
    refine k_ret ?_
    refine xs_fin [.bool (decide (l.map Ob.c = l'.map Ob.c))] [] (SI.tmp 4 SI.nil) (fun _ h => h.re [] [0, 0]) ⟨congrArg Value.bool ?_, rfl⟩
    simp [p4]
  ·
    have p5 := of_decide_eq_false c3
    refine s_skip ?_
    refine s_skip ?_
    refine s_skip ?_
    refine s_skip ?_
    refine s_skip ?_
    refine s_lt (t_pure (.bool false)) ?_
    refine s_lt (t_pure (.bool false)) ?_
    refine s_nil ?_
    refine xs_then ?_
    refine k_ret ?_
    refine xs_fin [.bool false] [] (SI.tmp 4 SI.nil) (fun _ h => h.re [] [0, 0]) ⟨congrArg Value.bool ?_, rfl⟩
    simp [p5]
theorem queues_s {Z : Zone} {lv : Value} {L : List Int} {n : Int} (hL : Kn Z iTy lv L) (hn : 0 ≤ n ∧ n ≤ 255) : SF Try.prog 23 #[lv, .int .u8 n] Z [] fun r Bs => ∃ qb pb rg pd, r = .tuple #[.pointer (some ⟨qb, 0, none⟩), .pointer (some ⟨pb, 0, none⟩)] ∧ rg.length + pd.length ≤ 60 ∧ Bs = [qA qb rg pd, rqA pb rg pd] := by
  refine sf_enter Try.func23 46 [(0, lv), (1, .int .u8 n)] (fun w0 => ?_)
  refine k_fact (fun H h => (hL.get h).len_le) (fun lA => ?_)
  refine k_seq ?_
  refine k_reg ?_
  refine s_lt (t_pure (.pointer none)) ?_
  refine s_lt (t_pure (.pointer none)) ?_
  refine s_nil ?_
  refine xs_then ?_
  refine k_seq ?_
  refine k_reg ?_
  refine s_pcall (fun _ h => qnew_s) ?_
  rintro _ _ ⟨q1, rfl, rfl⟩
  refine s_pcall (fun _ h => rqnew_s) ?_
  rintro _ _ ⟨p2, rfl, rfl⟩
  refine s_lt (t_pure (.pointer (some ⟨q1, 0, none⟩))) ?_
  refine s_lt (t_pure (.pointer (some ⟨p2, 0, none⟩))) ?_
  refine s_nil ?_
  refine xs_then ?_
  refine k_seq ?_
  refine k_reg ?_
  refine s_lt (t_pure (.int .u8 n)) ?_
  refine s_lt (t_conv n (by rw [IntKind.wrap_i64]; omega) Try.underlying5 Try.underlying3) ?_
  refine s_lt (t_rem n 5 (by omega)) ?_
  refine s_lt (t_pure (.int .i64 (Int.tmod n 5))) ?_
  refine s_nil ?_
  refine xs_then ?_
  refine k_seq ?_
  refine k_seq ?_
  refine k_reg ?_
  refine s_lt (t_pure (.int .i64 0)) ?_
  refine s_nil ?_
  refine xs_then ?_
  refine k_block ?_
  refine k_loop (ι := List Int × List Int × Nat) (fun (rg, pd, i) => i ≤ L.length ∧ i ≤ 60 ∧ rg.length + pd.length ≤ i) (fun (rg, pd, i) => [(0, lv), (4, .pointer none), (5, .pointer none), (6, .pointer (some ⟨q1, 0, none⟩)), (7, .pointer (some ⟨p2, 0, none⟩)), (8, .int .i64 (Int.tmod n 5)), (9, .int .i64 (i : Int))]) (fun (rg, pd, i) => [rqA p2 rg pd, qA q1 rg pd]) (fun (rg, pd, i) => L.length - i) ([], [], 0) ⟨Nat.zero_le _, Nat.zero_le _, Nat.le_refl _⟩ (sub_of rfl ⟨⟨rfl, rfl⟩, ⟨⟨rfl, rfl⟩, ⟨⟨rfl, rfl⟩, ⟨⟨rfl, rfl⟩, ⟨⟨rfl, rfl⟩, ⟨⟨rfl, rfl⟩, ⟨⟨rfl, rfl⟩, trivial⟩⟩⟩⟩⟩⟩⟩) (fun _ h => h.re [0, 0] []) ?_
  rintro ⟨rg, pd, i⟩ hi3
  replace hi3 : i ≤ L.length ∧ i ≤ 60 ∧ rg.length + pd.length ≤ i := hi3
  show SK _ _ _ _ _ [(0, lv), (4, .pointer none), (5, .pointer none), (6, .pointer (some ⟨q1, 0, none⟩)), (7, .pointer (some ⟨p2, 0, none⟩)), (8, .int .i64 (Int.tmod n 5)), (9, .int .i64 (i : Int))] _ [rqA p2 rg pd, qA q1 rg pd]
  have hln := hi3.2.2; have hs1 := sep_lens [] rg
  refine k_seq ?_
  refine k_cut (ι := Unit) (fun _ => True) (fun _ => [(0, lv), (4, .pointer none), (5, .pointer none), (6, .pointer (some ⟨q1, 0, none⟩)), (7, .pointer (some ⟨p2, 0, none⟩)), (8, .int .i64 (Int.tmod n 5)), (9, .int .i64 (i : Int)), (15, .int .i64 (i : Int)), (16, lv), (17, .int .i64 (L.length : Int)), (18, .bool (decide ((i : Int) < (L.length : Int)))), (19, .bool (decide ((i : Int) < (L.length : Int)))), (22, .bool ((decide ((i : Int) < (L.length : Int))) && (decide ((i : Int) < 60))))]) (fun _ => [rqA p2 rg pd, qA q1 rg pd]) ?_ (fun _ _ => ?_)
  ·
    refine k_reg ?_
    refine s_lt (t_pure (.int .i64 (i : Int))) ?_
    refine s_lt (t_pure lv) ?_
    refine s_lt (t_len iTy_ok Try.underlying22 (.zn hL)) ?_
    refine s_lt t_cmp ?_
    refine s_lt (t_pure (.bool (decide ((i : Int) < (L.length : Int))))) ?_
    refine s_fork 19 (decide ((i : Int) < (L.length : Int))) (fun c4 => ?_) (fun c4 => ?_)
    ·
      have p5 := of_decide_eq_true c4
      refine s_lt (t_pure (.int .i64 (i : Int))) ?_
      refine s_lt t_cmp ?_
      refine s_lt (t_pure (.bool (decide ((i : Int) < 60)))) ?_
      refine s_nil ?_
      exact xs_cut () trivial (sub_of rfl ⟨⟨rfl, rfl⟩, ⟨⟨rfl, rfl⟩, ⟨⟨rfl, rfl⟩, ⟨⟨rfl, rfl⟩, ⟨⟨rfl, rfl⟩, ⟨⟨rfl, rfl⟩, ⟨⟨rfl, rfl⟩, ⟨⟨rfl, rfl⟩, ⟨⟨rfl, rfl⟩, ⟨⟨rfl, rfl⟩, ⟨⟨rfl, rfl⟩, ⟨⟨rfl, show Value.bool true = Value.bool (decide ((i : Int) < (L.length : Int))) by first | (simp only [c4, Bool.true_and, Bool.false_and, Bool.and_true, Bool.and_false, Bool.true_or, Bool.or_true, Bool.false_or, Bool.or_false, Bool.not_true, Bool.not_false]; done) | simp [c4]⟩, ⟨⟨rfl, show Value.bool (decide ((i : Int) < 60)) = Value.bool ((decide ((i : Int) < (L.length : Int))) && (decide ((i : Int) < 60))) by first | (simp only [c4, Bool.true_and, Bool.false_and, Bool.and_true, Bool.and_false, Bool.true_or, Bool.or_true, Bool.false_or, Bool.or_false, Bool.not_true, Bool.not_false]; done) | simp [c4]⟩, trivial⟩⟩⟩⟩⟩⟩⟩⟩⟩⟩⟩⟩⟩) (fun _ h => h.re [0, 0] [])
    ·
      have p6 := of_decide_eq_false c4
      refine s_skip ?_
      refine s_skip ?_
      refine s_lt (t_pure (.bool false)) ?_
      refine s_nil ?_
      exact xs_cut () trivial (sub_of rfl ⟨⟨rfl, rfl⟩, ⟨⟨rfl, rfl⟩, ⟨⟨rfl, rfl⟩, ⟨⟨rfl, rfl⟩, ⟨⟨rfl, rfl⟩, ⟨⟨rfl, rfl⟩, ⟨⟨rfl, rfl⟩, ⟨⟨rfl, rfl⟩, ⟨⟨rfl, rfl⟩, ⟨⟨rfl, rfl⟩, ⟨⟨rfl, rfl⟩, ⟨⟨rfl, show Value.bool false = Value.bool (decide ((i : Int) < (L.length : Int))) by first | (simp only [c4, Bool.true_and, Bool.false_and, Bool.and_true, Bool.and_false, Bool.true_or, Bool.or_true, Bool.false_or, Bool.or_false, Bool.not_true, Bool.not_false]; done) | simp [c4]⟩, ⟨⟨rfl, show Value.bool false = Value.bool ((decide ((i : Int) < (L.length : Int))) && (decide ((i : Int) < 60))) by first | (simp only [c4, Bool.true_and, Bool.false_and, Bool.and_true, Bool.and_false, Bool.true_or, Bool.or_true, Bool.false_or, Bool.or_false, Bool.not_true, Bool.not_false]; done) | simp [c4]⟩, trivial⟩⟩⟩⟩⟩⟩⟩⟩⟩⟩⟩⟩⟩) (fun _ h => h.re [0, 0] [])
  ·
    refine k_cond ((decide ((i : Int) < (L.length : Int))) && (decide ((i : Int) < 60))) (fun c7 => ?_) (fun c7 => ?_)
    ·
      obtain ⟨c8, c9⟩ := and_t c7
      have p10 := of_decide_eq_true c8
      have p11 := of_decide_eq_true c9
      refine k_skip ?_
      refine xs_then ?_
      refine k_seq ?_
      refine k_block ?_
      refine k_seq ?_
      refine k_seq ?_
      refine k_reg ?_
      refine s_lt (t_pure (.int .i64 (i : Int))) ?_
      refine s_lt (t_pure (.int .i64 (Int.tmod n 5))) ?_
      refine s_lt t_cmp ?_
      refine s_nil ?_
      refine xs_then ?_
      refine k_cond (decide ((i : Int) = (Int.tmod n 5))) (fun c12 => ?_) (fun c12 => ?_)
      ·
        have p13 := of_decide_eq_true c12
        refine k_seq ?_
        refine k_reg ?_
        refine s_lt (t_pure (.pointer (some ⟨q1, 0, none⟩))) ?_
        refine s_call [1] (end_s (reg := rg) (pend := pd) (by (try simp only [List.length_nil, List.length_cons, List.length_append, List.length_take, List.length_drop, List.length_set, List.length_replicate, List.length_reverse, bits_len]); omega) (by (try simp only [List.length_nil, List.length_cons, List.length_append, List.length_take, List.length_drop, List.length_set, List.length_replicate, List.length_reverse, bits_len]); omega)) ?_
        rintro v14 _ rfl
        refine s_fact (fun H h => ((Acc.own (T := iTy) (L := (sepL [] rg)) 1 rfl) H h).form) (fun hf15 => ?_)
        refine s_nil ?_
        refine xs_then ?_
        refine k_reg ?_
        refine s_lt (t_pure (.pointer (some ⟨p2, 0, none⟩))) ?_
        refine s_call [2] (rend_s (reg := rg) (pend := pd) (by (try simp only [List.length_nil, List.length_cons, List.length_append, List.length_take, List.length_drop, List.length_set, List.length_replicate, List.length_reverse, bits_len]); omega) (by (try simp only [List.length_nil, List.length_cons, List.length_append, List.length_take, List.length_drop, List.length_set, List.length_replicate, List.length_reverse, bits_len]); omega)) ?_
        rintro v16 _ rfl
        refine s_fact (fun H h => ((Acc.own (T := iTy) (L := (sepL [] rg)) 1 rfl) H h).form) (fun hf17 => ?_)
        refine s_nil ?_
        refine xs_then ?_
        refine k_seq ?_
        refine k_reg ?_
        refine s_lt (t_pure (.pointer (some ⟨q1, 0, none⟩))) ?_
        refine s_lt (t_pure lv) ?_
        refine s_lt (t_pure (.int .i64 (i : Int))) ?_
        refine s_lt (t_index iTy_ok Try.underlying22 (.zn hL) (i : Int) i (by omega) (by (try simp only [List.length_nil, List.length_cons, List.length_append, List.length_take, List.length_drop, List.length_set, List.length_replicate, List.length_reverse, bits_len]); omega) (by omega)) ?_
        obtain ⟨y18, hy19⟩ : ∃ y, L[i]? = some y := ⟨_, List.getElem?_eq_getElem (by (try simp only [List.length_nil, List.length_cons, List.length_append, List.length_take, List.length_drop, List.length_set, List.length_replicate, List.length_reverse, bits_len]); omega)⟩
        refine s_lt (t_loadE iTy_ok (.zn hL) hy19) ?_
        refine s_call [2] (add_s (reg := (stayL [] rg)) y18 (by (try simp only [List.length_nil, List.length_cons, List.length_append, List.length_take, List.length_drop, List.length_set, List.length_replicate, List.length_reverse, bits_len]); omega)) ?_
        rintro _ _ ⟨rfl, rfl⟩
        refine s_nil ?_
        refine xs_then ?_
        refine k_reg ?_
        refine s_lt (t_pure (.pointer (some ⟨p2, 0, none⟩))) ?_
        refine s_lt (t_pure lv) ?_
        refine s_lt (t_pure (.int .i64 (i : Int))) ?_
        refine s_lt (t_index iTy_ok Try.underlying22 (.zn hL) (i : Int) i (by omega) (by (try simp only [List.length_nil, List.length_cons, List.length_append, List.length_take, List.length_drop, List.length_set, List.length_replicate, List.length_reverse, bits_len]); omega) (by omega)) ?_
        refine s_lt (t_loadE iTy_ok (.zn hL) hy19) ?_
        refine s_call [1] (radd_s (reg := (stayL [] rg)) y18 (by (try simp only [List.length_nil, List.length_cons, List.length_append, List.length_take, List.length_drop, List.length_set, List.length_replicate, List.length_reverse, bits_len]); omega)) ?_
        rintro _ _ ⟨rfl, rfl⟩
        refine s_nil ?_
        refine xs_block ?_
        refine xs_then ?_
        refine k_reg ?_
        refine s_lt (t_pure (.int .i64 (i : Int))) ?_
        refine s_lt (t_add (i : Int) 1 (by (try simp only [List.length_nil, List.length_cons, List.length_append, List.length_take, List.length_drop, List.length_set, List.length_replicate, List.length_reverse, bits_len]); omega)) ?_
        refine s_lt (t_pure (.int .i64 ((i : Int) + 1))) ?_
        refine s_nil ?_
        exact xs_round ((addL (stayL [] rg) y18), (pd ++ (sepL [] rg)), i + 1) (by show L.length - (i + 1) < L.length - i; omega) (by obtain ⟨hi1, hi2, hi3⟩ := hi3; have h1 := add_len rg y18; have h2 := sep_lens [] rg; have h3 := add_len (stayL [] rg) y18; refine ⟨by omega, by omega, ?_⟩; (try simp only [List.length_append]); omega) (sub_of rfl ⟨⟨rfl, rfl⟩, ⟨⟨rfl, rfl⟩, ⟨⟨rfl, rfl⟩, ⟨⟨rfl, rfl⟩, ⟨⟨rfl, rfl⟩, ⟨⟨rfl, rfl⟩, ⟨⟨rfl, rfl⟩, trivial⟩⟩⟩⟩⟩⟩⟩) (fun _ h => h.re [0, 0] [2, 2])
      ·
        have p20 := of_decide_eq_false c12
        refine k_skip ?_
        refine xs_then ?_
        refine k_seq ?_
        refine k_reg ?_
        refine s_lt (t_pure (.pointer (some ⟨q1, 0, none⟩))) ?_
        refine s_lt (t_pure lv) ?_
        refine s_lt (t_pure (.int .i64 (i : Int))) ?_
        refine s_lt (t_index iTy_ok Try.underlying22 (.zn hL) (i : Int) i (by omega) (by (try simp only [List.length_nil, List.length_cons, List.length_append, List.length_take, List.length_drop, List.length_set, List.length_replicate, List.length_reverse, bits_len]); omega) (by omega)) ?_
        obtain ⟨y21, hy22⟩ : ∃ y, L[i]? = some y := ⟨_, List.getElem?_eq_getElem (by (try simp only [List.length_nil, List.length_cons, List.length_append, List.length_take, List.length_drop, List.length_set, List.length_replicate, List.length_reverse, bits_len]); omega)⟩
        refine s_lt (t_loadE iTy_ok (.zn hL) hy22) ?_
        refine s_call [1] (add_s (reg := rg) y21 (by (try simp only [List.length_nil, List.length_cons, List.length_append, List.length_take, List.length_drop, List.length_set, List.length_replicate, List.length_reverse, bits_len]); omega)) ?_
        rintro _ _ ⟨rfl, rfl⟩
        refine s_nil ?_
        refine xs_then ?_
        refine k_reg ?_
        refine s_lt (t_pure (.pointer (some ⟨p2, 0, none⟩))) ?_
        refine s_lt (t_pure lv) ?_
        refine s_lt (t_pure (.int .i64 (i : Int))) ?_
        refine s_lt (t_index iTy_ok Try.underlying22 (.zn hL) (i : Int) i (by omega) (by (try simp only [List.length_nil, List.length_cons, List.length_append, List.length_take, List.length_drop, List.length_set, List.length_replicate, List.length_reverse, bits_len]); omega) (by omega)) ?_
        refine s_lt (t_loadE iTy_ok (.zn hL) hy22) ?_
        refine s_call [1] (radd_s (reg := rg) y21 (by (try simp only [List.length_nil, List.length_cons, List.length_append, List.length_take, List.length_drop, List.length_set, List.length_replicate, List.length_reverse, bits_len]); omega)) ?_
        rintro _ _ ⟨rfl, rfl⟩
        refine s_nil ?_
        refine xs_block ?_
        refine xs_then ?_
        refine k_reg ?_
        refine s_lt (t_pure (.int .i64 (i : Int))) ?_
        refine s_lt (t_add (i : Int) 1 (by (try simp only [List.length_nil, List.length_cons, List.length_append, List.length_take, List.length_drop, List.length_set, List.length_replicate, List.length_reverse, bits_len]); omega)) ?_
        refine s_lt (t_pure (.int .i64 ((i : Int) + 1))) ?_
        refine s_nil ?_
        exact xs_round ((addL rg y21), pd, i + 1) (by show L.length - (i + 1) < L.length - i; omega) (by obtain ⟨hi1, hi2, hi3⟩ := hi3; have h1 := add_len rg y21; have h2 := sep_lens [] rg; have h3 := add_len (stayL [] rg) y21; refine ⟨by omega, by omega, ?_⟩; (try simp only [List.length_append]); omega) (sub_of rfl ⟨⟨rfl, rfl⟩, ⟨⟨rfl, rfl⟩, ⟨⟨rfl, rfl⟩, ⟨⟨rfl, rfl⟩, ⟨⟨rfl, rfl⟩, ⟨⟨rfl, rfl⟩, ⟨⟨rfl, rfl⟩, trivial⟩⟩⟩⟩⟩⟩⟩) (fun _ h => h.re [0, 0] [])
    ·
      have p23 := c7
      simp only [Bool.and_eq_true, Bool.or_eq_true, Bool.and_eq_false_iff, Bool.or_eq_false_iff, Bool.not_eq_true', Bool.not_eq_false', decide_eq_true_eq, decide_eq_false_iff_not] at p23
      refine k_exit ?_
      refine xs_exit ?_
      refine xs_exit ?_
      refine xs_here ?_
      refine xs_then ?_
      refine k_seq ?_
      refine k_reg ?_
      refine s_lt (t_pure (.pointer (some ⟨q1, 0, none⟩))) ?_
      refine s_lt (t_pure (.pointer (some ⟨p2, 0, none⟩))) ?_
      refine s_lt (t_pure (.pointer (some ⟨q1, 0, none⟩))) ?_
      refine s_lt (t_pure (.pointer (some ⟨p2, 0, none⟩))) ?_
      refine s_nil ?_
      refine xs_then ?_
      refine k_ret ?_
      exact xs_fin [.pointer (some ⟨q1, 0, none⟩), .pointer (some ⟨p2, 0, none⟩)] [qA q1 rg pd, rqA p2 rg pd] (SI.tmp 4 (SI.tmp 5 SI.nil)) (fun _ h => h.re [1, 0] []) ⟨q1, p2, rg, pd, rfl, by have := hi3.2; omega, rfl⟩
theorem strong_s {Z : Zone} {ov rv : Value} {l : List Ob} {R : List Int} (hg : KnG Z ov rv l R) : SF Try.prog 35 #[.agg #[ov, rv]] Z [] fun r Bs => ∃ b, r = .bool b ∧ (b = true → ∀ o ∈ l, o.weak ≠ 2 ∧ o.weak ≠ 3) ∧ Bs = [] := by
  refine sf_enter Try.func35 27 [(0, .agg #[ov, rv])] (fun w0 => ?_)
  refine k_fact (fun H h => (hg.obs.get h).len_le) (fun lA => ?_)
  refine k_seq ?_
  refine k_reg ?_
  refine s_box #[ov, rv] (fun g1 => ?_)
  refine s_lt (t_pure (.bool false)) ?_
  refine s_nil ?_
  refine xs_then ?_
  refine k_seq ?_
  refine k_seq ?_
  refine k_reg ?_
  refine s_lt (t_pure (.pointer (some ⟨g1, 0, none⟩))) ?_
  refine s_lt (t_load 0 ov) ?_
  refine s_lt (t_len ObT_ok Try.underlying42 (.zn hg.obs)) ?_
  refine s_lt (t_pure (.int .i64 0)) ?_
  refine s_nil ?_
  refine xs_then ?_
  refine k_block ?_
  refine k_loop (ι := Nat) (fun i => i ≤ l.length ∧ ∀ o ∈ l.take i, o.weak ≠ 2 ∧ o.weak ≠ 3) (fun i => [(1, .pointer (some ⟨g1, 0, none⟩)), (2, .bool false), (6, .int .i64 (l.length : Int)), (7, .int .i64 (i : Int))]) (fun i => [blkA g1 #[ov, rv] 44]) (fun i => l.length - i) 0 ⟨Nat.zero_le _, by simp⟩ (sub_of rfl ⟨⟨rfl, rfl⟩, ⟨⟨rfl, rfl⟩, ⟨⟨rfl, rfl⟩, ⟨⟨rfl, rfl⟩, trivial⟩⟩⟩⟩) (fun _ h => h.re [0] []) ?_
  rintro i hi2
  show SK _ _ _ _ _ [(1, .pointer (some ⟨g1, 0, none⟩)), (2, .bool false), (6, .int .i64 (l.length : Int)), (7, .int .i64 (i : Int))] _ [blkA g1 #[ov, rv] 44]
  refine k_seq ?_
  refine k_reg ?_
  refine s_lt t_cmp ?_
  refine s_nil ?_
  refine xs_then ?_
  refine k_seq ?_
  refine k_cond (decide ((i : Int) < (l.length : Int))) (fun c3 => ?_) (fun c3 => ?_)
  ·
    have p4 := of_decide_eq_true c3
    refine k_skip ?_
    refine xs_then ?_
    refine k_seq ?_
    refine k_block ?_
    refine k_seq ?_
    refine k_reg ?_
    refine s_lt (t_pure (.int .i64 (i : Int))) ?_
    refine s_lt (t_pure (.int .i64 (i : Int))) ?_
    refine s_nil ?_
    refine xs_then ?_
    refine k_seq ?_
    refine k_reg ?_
    refine s_lt (t_pure (.pointer (some ⟨g1, 0, none⟩))) ?_
    refine s_lt (t_load 0 ov) ?_
    refine s_lt (t_pure (.int .i64 (i : Int))) ?_
    refine s_lt (t_index ObT_ok Try.underlying42 (.zn hg.obs) (i : Int) i (by omega) (by (try simp only [List.length_nil, List.length_cons, List.length_append, List.length_take, List.length_drop, List.length_set, List.length_replicate, List.length_reverse, bits_len]); omega) (by omega)) ?_
    refine s_lt (t_pure (.pointer (some ((elemAt ObT.size ov i).add 2)))) ?_
    obtain ⟨y5, hy6⟩ : ∃ y, l[i]? = some y := ⟨_, List.getElem?_eq_getElem (by (try simp only [List.length_nil, List.length_cons, List.length_append, List.length_take, List.length_drop, List.length_set, List.length_replicate, List.length_reverse, bits_len]); omega)⟩
    have hk7 := hg.each y5 (List.mem_of_getElem? hy6)
    refine s_lt (t_loadF 2 ObT_ok (.zn hg.obs) hy6) ?_
    refine s_lt t_cmp ?_
    refine s_lt (t_pure (.bool (decide (y5.weak = 2)))) ?_
    refine s_fork 17 (decide (y5.weak = 2)) (fun c8 => ?_) (fun c8 => ?_)
    ·
      have p9 := of_decide_eq_true c8
      refine s_skip ?_
      refine s_skip ?_
      refine s_skip ?_
      refine s_skip ?_
      refine s_skip ?_
      refine s_skip ?_
      refine s_skip ?_
      refine s_lt (t_pure (.bool true)) ?_
      refine s_nil ?_
      refine xs_then ?_
      refine k_true ?_
      refine k_seq ?_
      refine k_reg ?_
      refine s_lt (t_pure (.bool false)) ?_
      refine s_nil ?_
      refine xs_then ?_
      refine k_ret ?_
      refine xs_retBlock ?_
      refine xs_ret ?_
      refine xs_ret ?_
      refine xs_retBlock ?_
      refine xs_ret ?_
      refine xs_fin [.bool false] [] (SI.tmp 2 SI.nil) (fun _ h => h.re [] [0]) ?_
      exact ⟨false, rfl, (fun h => by cases h), rfl⟩
    ·
      have p10 := of_decide_eq_false c8
      refine s_lt (t_pure (.pointer (some ⟨g1, 0, none⟩))) ?_
      refine s_lt (t_load 0 ov) ?_
      refine s_lt (t_pure (.int .i64 (i : Int))) ?_
      refine s_lt (t_index ObT_ok Try.underlying42 (.zn hg.obs) (i : Int) i (by omega) (by (try simp only [List.length_nil, List.length_cons, List.length_append, List.length_take, List.length_drop, List.length_set, List.length_replicate, List.length_reverse, bits_len]); omega) (by omega)) ?_
      refine s_lt (t_pure (.pointer (some ((elemAt ObT.size ov i).add 2)))) ?_
      refine s_lt (t_loadF 2 ObT_ok (.zn hg.obs) hy6) ?_
      refine s_lt t_cmp ?_
      refine s_lt (t_pure (.bool (decide (y5.weak = 3)))) ?_
      refine s_nil ?_
      refine xs_then ?_
      refine k_cond (decide (y5.weak = 3)) (fun c11 => ?_) (fun c11 => ?_)
      ·
        have p12 := of_decide_eq_true c11
        refine k_seq ?_
        refine k_reg ?_
        refine s_lt (t_pure (.bool false)) ?_
        refine s_nil ?_
        refine xs_then ?_
        refine k_ret ?_
        refine xs_retBlock ?_
        refine xs_ret ?_
        refine xs_ret ?_
        refine xs_retBlock ?_
        refine xs_ret ?_
        refine xs_fin [.bool false] [] (SI.tmp 2 SI.nil) (fun _ h => h.re [] [0]) ?_
        exact ⟨false, rfl, (fun h => by cases h), rfl⟩
      ·
        have p13 := of_decide_eq_false c11
        refine k_skip ?_
        refine xs_block ?_
        refine xs_then ?_
        refine k_reg ?_
        refine s_lt (t_add (i : Int) 1 (by (try simp only [List.length_nil, List.length_cons, List.length_append, List.length_take, List.length_drop, List.length_set, List.length_replicate, List.length_reverse, bits_len]); omega)) ?_
        refine s_lt (t_pure (.int .i64 ((i : Int) + 1))) ?_
        refine s_nil ?_
        exact xs_round (i + 1) (by omega) (by obtain ⟨hi1, hi2⟩ := hi2; refine ⟨by omega, fun o ho => ?_⟩; rw [← take_snoc hy6] at ho; rcases List.mem_append.1 ho with ho | ho; exact hi2 o ho; simp at ho; subst ho; exact ⟨p10, p13⟩) (sub_of rfl ⟨⟨rfl, rfl⟩, ⟨⟨rfl, rfl⟩, ⟨⟨rfl, rfl⟩, ⟨⟨rfl, rfl⟩, trivial⟩⟩⟩⟩) (fun _ h => h.re [0] [])
  ·
    have p14 := of_decide_eq_false c3
    refine k_exit ?_
    refine xs_exit ?_
    refine xs_exit ?_
    refine xs_here ?_
    refine xs_then ?_
    refine k_seq ?_
    refine k_reg ?_
    refine s_lt (t_pure (.bool true)) ?_
    refine s_nil ?_
    refine xs_then ?_
    refine k_ret ?_
    refine xs_fin [.bool true] [] (SI.tmp 2 SI.nil) (fun _ h => h.re [] [0]) ?_
    exact ⟨true, rfl, (fun _ o ho => hi2.2 o (by rw [List.take_of_length_le (by omega)]; exact ho)), rfl⟩
end Go.Proofs.Ytipmkaabogocfaa
