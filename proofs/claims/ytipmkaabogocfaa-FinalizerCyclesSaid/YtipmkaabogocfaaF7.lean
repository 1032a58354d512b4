/-
  A call of any kind on a queue of the program; FinalizerNone walked. Each law says its conditions.
-/
import Derived.Test.YtipmkaabogocfaaF6
set_option linter.unusedSimpArgs false
set_option linter.unusedVariables false
set_option maxRecDepth 100000
set_option maxHeartbeats 2000000
namespace Go.Proofs.Ytipmkaabogocfaa
open Go.Hp Go.J Go.S
open Go.Mem (Ty KTy blk elemAt pre suf blk_pre blk_suf aget aset strK aggDesc)
structure Cl where
  kind : Int
  id : Int
  av : Sv
  alive : List Int
abbrev Cl.v (x : Cl) : Value := .agg #[.int .i64 x.kind, .int .i64 x.id, x.av.v]
def ClT : Ty Cl := ⟨40, 3, 40, true, Cl.v, ⟨0, 0, ⟨none, 0, 0⟩, []⟩⟩
theorem ClT_ok : ClT.Ok Try.prog := ok_of ClT _ Try.t40 (by decide) (fun _ => rfl) (fun x u hu => by simp [Ty.enc, ClT, Value.cells] at hu; rcases hu with rfl | rfl | rfl <;> rfl) (fun _ => rfl) Try.underlying40 rfl (fun h => by cases h) (by kernel_rfl) (by kernel_rfl) (by kernel_rfl) (by kernel_rfl)
def KnC (Z : Zone) (x : Cl) : Prop := Kn Z iTy x.av.v x.alive
section
variable (x : Cl) (reg pend : List Int)
def prL : List Int := if x.kind = 0 then [] else if x.kind = 1 then [] else if x.kind = 2 then sepL x.alive reg else if x.kind = 3 then [] else if x.kind = 4 then pend else if x.kind = 5 then reg else sepL [] reg
def prN : Int := if x.kind = 3 then nextI pend else 0
def prB : Bool := if x.kind = 1 then decide (x.id ∈ reg) else if x.kind = 3 then nextB pend else false
def prE : Int := if x.kind = 0 then addI reg x.id else 0
def prR : List Int := if x.kind = 0 then addL reg x.id else if x.kind = 1 then reg else if x.kind = 2 then stayL x.alive reg else if x.kind = 3 then reg else if x.kind = 4 then reg else if x.kind = 5 then reg else stayL [] reg
def prP : List Int := if x.kind = 0 then pend else if x.kind = 1 then pend else if x.kind = 2 then pend ++ sepL x.alive reg else if x.kind = 3 then pend.tail else if x.kind = 4 then pend else if x.kind = 5 then pend else pend ++ sepL [] reg
def nonE : Int := if x.kind = 0 then 1 else 0
end
theorem add_nil {Z : Zone} (id : Int) : SF Try.prog 12 #[.pointer none, .int .i64 id] Z [] fun r Bs => r = .int .i64 1 ∧ Bs = [] := by
  refine sf_enter Try.func12 26 [(0, .pointer none), (1, .int .i64 id)] (fun w0 => ?_)
  refine k_seq ?_
  refine k_reg ?_
  refine s_lt (t_pure (.int .i64 0)) ?_
  refine s_nil ?_
  refine xs_then ?_
  refine k_seq ?_
  refine k_block ?_
  refine k_seq ?_
  refine k_reg ?_
  refine s_lt (t_pure (.pointer none)) ?_
  refine s_lt (t_pure (.bool true)) ?_
  refine s_lt (t_pure (.bool true)) ?_
  refine s_nil ?_
  refine xs_then ?_
  refine k_true ?_
  refine k_seq ?_
  refine k_reg ?_
  refine s_lt (t_pure (.int .i64 1)) ?_
  refine s_nil ?_
  refine xs_then ?_
  refine k_ret ?_
  refine xs_retBlock ?_
  refine xs_ret ?_
  exact xs_fin [.int .i64 1] [] (SI.tmp 4 SI.nil) (fun _ h => h.re [] []) ⟨rfl, rfl⟩
theorem has_nil {Z : Zone} (id : Int) : SF Try.prog 34 #[.pointer none, .int .i64 id] Z [] fun r Bs => r = .bool false ∧ Bs = [] := by
  refine sf_enter Try.func34 23 [(0, .pointer none), (1, .int .i64 id)] (fun w0 => ?_)
  refine k_seq ?_
  refine k_reg ?_
  refine s_lt (t_pure (.bool false)) ?_
  refine s_nil ?_
  refine xs_then ?_
  refine k_seq ?_
  refine k_seq ?_
  refine k_reg ?_
  refine s_lt (t_pure (.pointer none)) ?_
  refine s_lt (t_pure (.bool true)) ?_
  refine s_nil ?_
  refine xs_then ?_
  refine k_true ?_
  refine k_seq ?_
  refine k_reg ?_
  refine s_lt (t_pure (.bool false)) ?_
  refine s_nil ?_
  refine xs_then ?_
  refine k_ret ?_
  refine xs_ret ?_
  exact xs_fin [.bool false] [] (SI.tmp 4 SI.nil) (fun _ h => h.re [] []) ⟨rfl, rfl⟩
theorem sepa_nil {Z : Zone} (av : Value) : SF Try.prog 15 #[.pointer none, av] Z [] fun r Bs => r = .slice none 0 0 ∧ Bs = [] := by
  refine sf_enter Try.func15 24 [(0, .pointer none), (1, av)] (fun w0 => ?_)
  refine k_seq ?_
  refine k_reg ?_
  refine s_lt (t_pure (.slice none 0 0)) ?_
  refine s_nil ?_
  refine xs_then ?_
  refine k_seq ?_
  refine k_seq ?_
  refine k_reg ?_
  refine s_lt (t_pure (.pointer none)) ?_
  refine s_lt (t_pure (.bool true)) ?_
  refine s_nil ?_
  refine xs_then ?_
  refine k_true ?_
  refine k_seq ?_
  refine k_reg ?_
  refine s_lt (t_pure (.slice none 0 0)) ?_
  refine s_nil ?_
  refine xs_then ?_
  refine k_ret ?_
  refine xs_ret ?_
  exact xs_fin [(.slice none 0 0)] [] (SI.tmp 4 SI.nil) (fun _ h => h.re [] []) ⟨rfl, rfl⟩
theorem next_nil {Z : Zone} : SF Try.prog 30 #[.pointer none] Z [] fun r Bs => r = .tuple #[.int .i64 0, .bool false] ∧ Bs = [] := by
  refine sf_enter Try.func30 31 [(0, .pointer none)] (fun w0 => ?_)
  refine k_seq ?_
  refine k_reg ?_
  refine s_lt (t_pure (.int .i64 0)) ?_
  refine s_lt (t_pure (.bool false)) ?_
  refine s_nil ?_
  refine xs_then ?_
  refine k_seq ?_
  refine k_seq ?_
  refine k_reg ?_
  refine s_lt (t_pure (.pointer none)) ?_
  refine s_lt (t_pure (.bool true)) ?_
  refine s_lt (t_pure (.bool true)) ?_
  refine s_skip ?_
  refine s_skip ?_
  refine s_skip ?_
  refine s_skip ?_
  refine s_skip ?_
  refine s_skip ?_
  refine s_lt (t_pure (.bool true)) ?_
  refine s_nil ?_
  refine xs_then ?_
  refine k_true ?_
  refine k_seq ?_
  refine k_reg ?_
  refine s_lt (t_pure (.int .i64 0)) ?_
  refine s_lt (t_pure (.bool false)) ?_
  refine s_nil ?_
  refine xs_then ?_
  refine k_ret ?_
  refine xs_ret ?_
  exact xs_fin [.int .i64 0, .bool false] [] (SI.tmp 2 (SI.tmp 3 SI.nil)) (fun _ h => h.re [] []) ⟨rfl, rfl⟩
theorem pend_nil {Z : Zone} : SF Try.prog 17 #[.pointer none] Z [] fun r Bs => r = .slice none 0 0 ∧ Bs = [] := by
  refine sf_enter Try.func17 10 [(0, .pointer none)] (fun w0 => ?_)
  refine k_seq ?_
  refine k_reg ?_
  refine s_lt (t_pure (.slice none 0 0)) ?_
  refine s_nil ?_
  refine xs_then ?_
  refine k_seq ?_
  refine k_seq ?_
  refine k_reg ?_
  refine s_lt (t_pure (.pointer none)) ?_
  refine s_lt (t_pure (.bool true)) ?_
  refine s_nil ?_
  refine xs_then ?_
  refine k_true ?_
  refine k_seq ?_
  refine k_reg ?_
  refine s_lt (t_pure (.slice none 0 0)) ?_
  refine s_nil ?_
  refine xs_then ?_
  refine k_ret ?_
  refine xs_ret ?_
  exact xs_fin [(.slice none 0 0)] [] (SI.tmp 2 SI.nil) (fun _ h => h.re [] []) ⟨rfl, rfl⟩
theorem reg_nil {Z : Zone} : SF Try.prog 16 #[.pointer none] Z [] fun r Bs => r = .slice none 0 0 ∧ Bs = [] := by
  refine sf_enter Try.func16 10 [(0, .pointer none)] (fun w0 => ?_)
  refine k_seq ?_
  refine k_reg ?_
  refine s_lt (t_pure (.slice none 0 0)) ?_
  refine s_nil ?_
  refine xs_then ?_
  refine k_seq ?_
  refine k_seq ?_
  refine k_reg ?_
  refine s_lt (t_pure (.pointer none)) ?_
  refine s_lt (t_pure (.bool true)) ?_
  refine s_nil ?_
  refine xs_then ?_
  refine k_true ?_
  refine k_seq ?_
  refine k_reg ?_
  refine s_lt (t_pure (.slice none 0 0)) ?_
  refine s_nil ?_
  refine xs_then ?_
  refine k_ret ?_
  refine xs_ret ?_
  exact xs_fin [(.slice none 0 0)] [] (SI.tmp 2 SI.nil) (fun _ h => h.re [] []) ⟨rfl, rfl⟩
theorem end_nil {Z : Zone} : SF Try.prog 29 #[.pointer none] Z [] fun r Bs => r = .slice none 0 0 ∧ Bs = [] := by
  refine sf_enter Try.func29 7 [(0, .pointer none)] (fun w0 => ?_)
  refine k_seq ?_
  refine k_reg ?_
  refine s_lt (t_pure (.slice none 0 0)) ?_
  refine s_nil ?_
  refine xs_then ?_
  refine k_seq ?_
  refine k_seq ?_
  refine k_reg ?_
  refine s_lt (t_pure (.pointer none)) ?_
  refine s_lt (t_pure (.bool true)) ?_
  refine s_nil ?_
  refine xs_then ?_
  refine k_true ?_
  refine k_seq ?_
  refine k_reg ?_
  refine s_lt (t_pure (.slice none 0 0)) ?_
  refine s_nil ?_
  refine xs_then ?_
  refine k_ret ?_
  refine xs_ret ?_
  exact xs_fin [(.slice none 0 0)] [] (SI.tmp 2 SI.nil) (fun _ h => h.re [] []) ⟨rfl, rfl⟩
theorem program_s {Z : Zone} {F : List Asr} {qb : Nat} {reg pend : List Int} {x : Cl} (hx : KnC Z x) (hr : reg.length ≤ 40000) (hp : pend.length ≤ 40000) : SF Try.prog 20 #[.pointer (some ⟨qb, 0, none⟩), x.v] Z (qA qb reg pend :: F) fun r Bs => ∃ lv, r = .agg #[lv, .int .i64 (prN x pend), .bool (prB x reg pend), .int .i64 (prE x reg)] ∧ Bs = qA qb (prR x reg) (prP x reg pend) :: own iTy lv (prL x reg pend) :: F := by
  refine sf_enter Try.func20 56 [(0, .pointer (some ⟨qb, 0, none⟩)), (1, .agg #[.int .i64 x.kind, .int .i64 x.id, x.av.v])] (fun w0 => ?_)
  refine k_seq ?_
  refine k_reg ?_
  refine s_box #[.int .i64 x.kind, .int .i64 x.id, x.av.v] (fun g1 => ?_)
  refine s_alloc (.agg #[(.slice none 0 0), .int .i64 0, .bool false, .int .i64 0]) #[(.slice none 0 0), .int .i64 0, .bool false, .int .i64 0] (fun g2 => ?_)
  refine s_nil ?_
  refine xs_then ?_
  refine k_seq ?_
  refine k_reg ?_
  refine s_lt (t_kern (.agg #[(.slice none 0 0), .int .i64 0, .bool false, .int .i64 0])) ?_
  refine s_alloc (.agg #[(.slice none 0 0), .int .i64 0, .bool false, .int .i64 0]) #[(.slice none 0 0), .int .i64 0, .bool false, .int .i64 0] (fun g3 => ?_)
  refine s_store 0 #[(.slice none 0 0), .int .i64 0, .bool false, .int .i64 0] ?_
  refine s_nil ?_
  refine xs_then ?_
  refine k_seq ?_
  refine k_seq ?_
  refine k_reg ?_
  refine s_lt (t_pure (.pointer (some ⟨g1, 0, none⟩))) ?_
  refine s_lt (t_load 2 (.int .i64 x.kind)) ?_
  refine s_nil ?_
  refine xs_then ?_
  refine k_block ?_
  refine k_seq ?_
  refine k_reg ?_
  refine s_lt t_cmp ?_
  refine s_lt (t_pure (.bool (decide (x.kind = 0)))) ?_
  refine s_nil ?_
  refine xs_then ?_
  refine k_cond (decide (x.kind = 0)) (fun c4 => ?_) (fun c4 => ?_)
  ·
    have p5 := of_decide_eq_true c4
    refine k_reg ?_
    refine s_lt (t_pure (.pointer (some ⟨qb, 0, none⟩))) ?_
    refine s_lt (t_pure (.pointer (some ⟨g1, 1, none⟩))) ?_
    refine s_lt (t_load 2 (.int .i64 x.id)) ?_
    refine s_call [3] (add_s (reg := reg) x.id (by (try simp only [List.length_nil, List.length_cons, List.length_append, List.length_take, List.length_drop, List.length_set, List.length_replicate, List.length_reverse, bits_len]); omega)) ?_
    rintro _ _ ⟨rfl, rfl⟩
    refine s_lt (t_pure (.pointer (some ⟨g3, 3, none⟩))) ?_
    refine s_store 1 #[(.slice none 0 0), .int .i64 0, .bool false, .int .i64 (addI reg x.id)] ?_
    refine s_nil ?_
    refine xs_block ?_
    refine xs_then ?_
    refine k_seq ?_
    refine k_reg ?_
    refine s_lt (t_loadA 1 #[(.slice none 0 0), .int .i64 0, .bool false, .int .i64 (addI reg x.id)]) ?_
    refine s_store 2 #[(.slice none 0 0), .int .i64 0, .bool false, .int .i64 (addI reg x.id)] ?_
    refine s_nil ?_
    refine xs_then ?_
    refine k_ret ?_
    have e_prL : prL x reg pend = [] := by simp [prL, p5]
    have e_prN : prN x pend = 0 := by simp [prN, p5]
    have e_prB : prB x reg pend = false := by simp [prB, p5]
    have e_prE : prE x reg = (addI reg x.id) := by simp [prE, p5]
    have e_prR : prR x reg = (addL reg x.id) := by simp [prR, p5]
    have e_prP : prP x reg pend = pend := by simp [prP, p5]
    refine xs_fin [.agg #[(.slice none 0 0), .int .i64 0, .bool false, .int .i64 (addI reg x.id)]] (qA qb (addL reg x.id) pend :: own iTy (.slice none 0 0) [] :: F) (SI.agg 4 37 2 SI.nil) (fun _ h => (Holds.nilS (T := iTy) h).re [1, 0] [2, 2, 2]) ?_
    rw [e_prL, e_prN, e_prB, e_prE, e_prR, e_prP]; exact ⟨_, rfl, rfl⟩
  ·
    have p6 := of_decide_eq_false c4
    refine k_seq ?_
    refine k_reg ?_
    refine s_lt t_cmp ?_
    refine s_lt (t_pure (.bool (decide (x.kind = 1)))) ?_
    refine s_nil ?_
    refine xs_then ?_
    refine k_cond (decide (x.kind = 1)) (fun c7 => ?_) (fun c7 => ?_)
    ·
      have p8 := of_decide_eq_true c7
      refine k_reg ?_
      refine s_lt (t_pure (.pointer (some ⟨qb, 0, none⟩))) ?_
      refine s_lt (t_pure (.pointer (some ⟨g1, 1, none⟩))) ?_
      refine s_lt (t_load 2 (.int .i64 x.id)) ?_
      refine s_call [3] (has_s (reg := reg) x.id (by (try simp only [List.length_nil, List.length_cons, List.length_append, List.length_take, List.length_drop, List.length_set, List.length_replicate, List.length_reverse, bits_len]); omega)) ?_
      rintro _ _ ⟨rfl, rfl⟩
      refine s_lt (t_pure (.pointer (some ⟨g3, 2, none⟩))) ?_
      refine s_store 1 #[(.slice none 0 0), .int .i64 0, .bool (decide (x.id ∈ reg)), .int .i64 0] ?_
      refine s_nil ?_
      refine xs_block ?_
      refine xs_then ?_
      refine k_seq ?_
      refine k_reg ?_
      refine s_lt (t_loadA 1 #[(.slice none 0 0), .int .i64 0, .bool (decide (x.id ∈ reg)), .int .i64 0]) ?_
      refine s_store 2 #[(.slice none 0 0), .int .i64 0, .bool (decide (x.id ∈ reg)), .int .i64 0] ?_
      refine s_nil ?_
      refine xs_then ?_
      refine k_ret ?_
      have e_prL : prL x reg pend = [] := by simp [prL, p6, p8]
      have e_prN : prN x pend = 0 := by simp [prN, p6, p8]
      have e_prB : prB x reg pend = (decide (x.id ∈ reg)) := by simp [prB, p6, p8]
      have e_prE : prE x reg = 0 := by simp [prE, p6, p8]
      have e_prR : prR x reg = reg := by simp [prR, p6, p8]
      have e_prP : prP x reg pend = pend := by simp [prP, p6, p8]
      refine xs_fin [.agg #[(.slice none 0 0), .int .i64 0, .bool (decide (x.id ∈ reg)), .int .i64 0]] (qA qb reg pend :: own iTy (.slice none 0 0) [] :: F) (SI.agg 4 37 2 SI.nil) (fun _ h => (Holds.nilS (T := iTy) h).re [1, 0] [2, 2, 2]) ?_
      rw [e_prL, e_prN, e_prB, e_prE, e_prR, e_prP]; exact ⟨_, rfl, rfl⟩
    ·
      have p9 := of_decide_eq_false c7
      refine k_seq ?_
      refine k_reg ?_
      refine s_lt t_cmp ?_
      refine s_lt (t_pure (.bool (decide (x.kind = 2)))) ?_
      refine s_nil ?_
      refine xs_then ?_
      refine k_cond (decide (x.kind = 2)) (fun c10 => ?_) (fun c10 => ?_)
      ·
        have p11 := of_decide_eq_true c10
        refine k_reg ?_
        refine s_lt (t_pure (.pointer (some ⟨qb, 0, none⟩))) ?_
        refine s_lt (t_pure (.pointer (some ⟨g1, 2, none⟩))) ?_
        refine s_lt (t_load 2 x.av.v) ?_
        refine s_call [3] (sepa_s (A := x.alive) hx (reg := reg) (pend := pend) (by (try simp only [List.length_nil, List.length_cons, List.length_append, List.length_take, List.length_drop, List.length_set, List.length_replicate, List.length_reverse, bits_len]); omega) (by (try simp only [List.length_nil, List.length_cons, List.length_append, List.length_take, List.length_drop, List.length_set, List.length_replicate, List.length_reverse, bits_len]); omega)) ?_
        rintro v12 _ rfl
        refine s_fact (fun H h => ((Acc.own (T := iTy) (L := (sepL x.alive reg)) 1 rfl) H h).form) (fun hf13 => ?_)
        refine s_lt (t_pure (.pointer (some ⟨g3, 0, none⟩))) ?_
        refine s_store (u := v12) (m := 1) 2 #[v12, .int .i64 0, .bool false, .int .i64 0] ?_ (hm := by (obtain ⟨_, _, e0⟩ := hf13; rw [e0]; rfl)) (h1 := by (obtain ⟨_, _, e0⟩ := hf13; rw [e0]; rfl)) (ha' := by (obtain ⟨_, _, e0⟩ := hf13; rw [e0]; rfl))
        refine s_nil ?_
        refine xs_block ?_
        refine xs_then ?_
        refine k_seq ?_
        refine k_reg ?_
        refine s_lt (t_loadA 2 #[v12, .int .i64 0, .bool false, .int .i64 0]) ?_
        refine s_store (u := .agg #[v12, .int .i64 0, .bool false, .int .i64 0]) (m := 4) 3 #[v12, .int .i64 0, .bool false, .int .i64 0] ?_ (hm := by (obtain ⟨_, _, e0⟩ := hf13; rw [e0]; rfl)) (h1 := by (obtain ⟨_, _, e0⟩ := hf13; rw [e0]; rfl)) (ha' := by (obtain ⟨_, _, e0⟩ := hf13; rw [e0]; rfl))
        refine s_nil ?_
        refine xs_then ?_
        refine k_ret ?_
        have e_prL : prL x reg pend = (sepL x.alive reg) := by simp [prL, p6, p9, p11]
        have e_prN : prN x pend = 0 := by simp [prN, p6, p9, p11]
        have e_prB : prB x reg pend = false := by simp [prB, p6, p9, p11]
        have e_prE : prE x reg = 0 := by simp [prE, p6, p9, p11]
        have e_prR : prR x reg = (stayL x.alive reg) := by simp [prR, p6, p9, p11]
        have e_prP : prP x reg pend = (pend ++ (sepL x.alive reg)) := by simp [prP, p6, p9, p11]
        refine xs_fin [.agg #[v12, .int .i64 0, .bool false, .int .i64 0]] (qA qb (stayL x.alive reg) (pend ++ (sepL x.alive reg)) :: own iTy v12 (sepL x.alive reg) :: F) (SI.agg 4 37 3 SI.nil) (fun _ h => h.re [0, 0] [2, 2, 2]) ?_
        rw [e_prL, e_prN, e_prB, e_prE, e_prR, e_prP]; exact ⟨_, rfl, rfl⟩
      ·
        have p14 := of_decide_eq_false c10
        refine k_seq ?_
        refine k_reg ?_
        refine s_lt t_cmp ?_
        refine s_lt (t_pure (.bool (decide (x.kind = 3)))) ?_
        refine s_nil ?_
        refine xs_then ?_
        refine k_cond (decide (x.kind = 3)) (fun c15 => ?_) (fun c15 => ?_)
        ·
          have p16 := of_decide_eq_true c15
          refine k_seq ?_
          refine k_reg ?_
          refine s_lt (t_pure (.pointer (some ⟨qb, 0, none⟩))) ?_
          refine s_call [3] (next_s (pend := pend) (by (try simp only [List.length_nil, List.length_cons, List.length_append, List.length_take, List.length_drop, List.length_set, List.length_replicate, List.length_reverse, bits_len]); omega)) ?_
          rintro _ _ ⟨rfl, rfl⟩
          refine s_lt (t_pure (.tuple #[.int .i64 (nextI pend), .bool (nextB pend)])) ?_
          refine s_lt (t_pure (.int .i64 (nextI pend))) ?_
          refine s_lt (t_pure (.bool (nextB pend))) ?_
          refine s_lt (t_pure (.int .i64 (nextI pend))) ?_
          refine s_lt (t_pure (.bool (nextB pend))) ?_
          refine s_nil ?_
          refine xs_then ?_
          refine k_reg ?_
          refine s_lt (t_pure (.int .i64 (nextI pend))) ?_
          refine s_lt (t_pure (.bool (nextB pend))) ?_
          refine s_lt (t_kern (.agg #[(.slice none 0 0), .int .i64 (nextI pend), .bool (nextB pend), .int .i64 0])) ?_
          refine s_store 1 #[(.slice none 0 0), .int .i64 (nextI pend), .bool (nextB pend), .int .i64 0] ?_
          refine s_nil ?_
          refine xs_block ?_
          refine xs_then ?_
          refine k_seq ?_
          refine k_reg ?_
          refine s_lt (t_loadA 1 #[(.slice none 0 0), .int .i64 (nextI pend), .bool (nextB pend), .int .i64 0]) ?_
          refine s_store 2 #[(.slice none 0 0), .int .i64 (nextI pend), .bool (nextB pend), .int .i64 0] ?_
          refine s_nil ?_
          refine xs_then ?_
          refine k_ret ?_
          have e_prL : prL x reg pend = [] := by simp [prL, p6, p9, p14, p16]
          have e_prN : prN x pend = (nextI pend) := by simp [prN, p6, p9, p14, p16]
          have e_prB : prB x reg pend = (nextB pend) := by simp [prB, p6, p9, p14, p16]
          have e_prE : prE x reg = 0 := by simp [prE, p6, p9, p14, p16]
          have e_prR : prR x reg = reg := by simp [prR, p6, p9, p14, p16]
          have e_prP : prP x reg pend = pend.tail := by simp [prP, p6, p9, p14, p16]
          refine xs_fin [.agg #[(.slice none 0 0), .int .i64 (nextI pend), .bool (nextB pend), .int .i64 0]] (qA qb reg pend.tail :: own iTy (.slice none 0 0) [] :: F) (SI.agg 4 37 2 SI.nil) (fun _ h => (Holds.nilS (T := iTy) h).re [1, 0] [2, 2, 2]) ?_
          rw [e_prL, e_prN, e_prB, e_prE, e_prR, e_prP]; exact ⟨_, rfl, rfl⟩
        ·
          have p17 := of_decide_eq_false c15
          refine k_seq ?_
          refine k_reg ?_
          refine s_lt t_cmp ?_
          refine s_lt (t_pure (.bool (decide (x.kind = 4)))) ?_
          refine s_nil ?_
          refine xs_then ?_
          refine k_cond (decide (x.kind = 4)) (fun c18 => ?_) (fun c18 => ?_)
          ·
            have p19 := of_decide_eq_true c18
            refine k_reg ?_
            refine s_lt (t_pure (.pointer (some ⟨qb, 0, none⟩))) ?_
            refine s_call [3] (pending_s (pend := pend) (by (try simp only [List.length_nil, List.length_cons, List.length_append, List.length_take, List.length_drop, List.length_set, List.length_replicate, List.length_reverse, bits_len]); omega)) ?_
            rintro v20 _ rfl
            refine s_fact (fun H h => ((Acc.own (T := iTy) (L := pend) 0 rfl) H h).form) (fun hf21 => ?_)
            refine s_lt (t_pure (.pointer (some ⟨g3, 0, none⟩))) ?_
            refine s_store (u := v20) (m := 1) 2 #[v20, .int .i64 0, .bool false, .int .i64 0] ?_ (hm := by (obtain ⟨_, _, e0⟩ := hf21; rw [e0]; rfl)) (h1 := by (obtain ⟨_, _, e0⟩ := hf21; rw [e0]; rfl)) (ha' := by (obtain ⟨_, _, e0⟩ := hf21; rw [e0]; rfl))
            refine s_nil ?_
            refine xs_block ?_
            refine xs_then ?_
            refine k_seq ?_
            refine k_reg ?_
            refine s_lt (t_loadA 2 #[v20, .int .i64 0, .bool false, .int .i64 0]) ?_
            refine s_store (u := .agg #[v20, .int .i64 0, .bool false, .int .i64 0]) (m := 4) 3 #[v20, .int .i64 0, .bool false, .int .i64 0] ?_ (hm := by (obtain ⟨_, _, e0⟩ := hf21; rw [e0]; rfl)) (h1 := by (obtain ⟨_, _, e0⟩ := hf21; rw [e0]; rfl)) (ha' := by (obtain ⟨_, _, e0⟩ := hf21; rw [e0]; rfl))
            refine s_nil ?_
            refine xs_then ?_
            refine k_ret ?_
            have e_prL : prL x reg pend = pend := by simp [prL, p6, p9, p14, p17, p19]
            have e_prN : prN x pend = 0 := by simp [prN, p6, p9, p14, p17, p19]
            have e_prB : prB x reg pend = false := by simp [prB, p6, p9, p14, p17, p19]
            have e_prE : prE x reg = 0 := by simp [prE, p6, p9, p14, p17, p19]
            have e_prR : prR x reg = reg := by simp [prR, p6, p9, p14, p17, p19]
            have e_prP : prP x reg pend = pend := by simp [prP, p6, p9, p14, p17, p19]
            refine xs_fin [.agg #[v20, .int .i64 0, .bool false, .int .i64 0]] (qA qb reg pend :: own iTy v20 pend :: F) (SI.agg 4 37 3 SI.nil) (fun _ h => h.re [1, 0] [2, 2, 2]) ?_
            rw [e_prL, e_prN, e_prB, e_prE, e_prR, e_prP]; exact ⟨_, rfl, rfl⟩
          ·
            have p22 := of_decide_eq_false c18
            refine k_seq ?_
            refine k_reg ?_
            refine s_lt t_cmp ?_
            refine s_lt (t_pure (.bool (decide (x.kind = 5)))) ?_
            refine s_nil ?_
            refine xs_then ?_
            refine k_cond (decide (x.kind = 5)) (fun c23 => ?_) (fun c23 => ?_)
            ·
              have p24 := of_decide_eq_true c23
              refine k_reg ?_
              refine s_lt (t_pure (.pointer (some ⟨qb, 0, none⟩))) ?_
              refine s_call [3] (registered_s (reg := reg) (by (try simp only [List.length_nil, List.length_cons, List.length_append, List.length_take, List.length_drop, List.length_set, List.length_replicate, List.length_reverse, bits_len]); omega)) ?_
              rintro v25 _ rfl
              refine s_fact (fun H h => ((Acc.own (T := iTy) (L := reg) 0 rfl) H h).form) (fun hf26 => ?_)
              refine s_lt (t_pure (.pointer (some ⟨g3, 0, none⟩))) ?_
              refine s_store (u := v25) (m := 1) 2 #[v25, .int .i64 0, .bool false, .int .i64 0] ?_ (hm := by (obtain ⟨_, _, e0⟩ := hf26; rw [e0]; rfl)) (h1 := by (obtain ⟨_, _, e0⟩ := hf26; rw [e0]; rfl)) (ha' := by (obtain ⟨_, _, e0⟩ := hf26; rw [e0]; rfl))
              refine s_nil ?_
              refine xs_block ?_
              refine xs_then ?_
              refine k_seq ?_
              refine k_reg ?_
              refine s_lt (t_loadA 2 #[v25, .int .i64 0, .bool false, .int .i64 0]) ?_
              refine s_store (u := .agg #[v25, .int .i64 0, .bool false, .int .i64 0]) (m := 4) 3 #[v25, .int .i64 0, .bool false, .int .i64 0] ?_ (hm := by (obtain ⟨_, _, e0⟩ := hf26; rw [e0]; rfl)) (h1 := by (obtain ⟨_, _, e0⟩ := hf26; rw [e0]; rfl)) (ha' := by (obtain ⟨_, _, e0⟩ := hf26; rw [e0]; rfl))
              refine s_nil ?_
              refine xs_then ?_
              refine k_ret ?_
              have e_prL : prL x reg pend = reg := by simp [prL, p6, p9, p14, p17, p22, p24]
              have e_prN : prN x pend = 0 := by simp [prN, p6, p9, p14, p17, p22, p24]
              have e_prB : prB x reg pend = false := by simp [prB, p6, p9, p14, p17, p22, p24]
              have e_prE : prE x reg = 0 := by simp [prE, p6, p9, p14, p17, p22, p24]
              have e_prR : prR x reg = reg := by simp [prR, p6, p9, p14, p17, p22, p24]
              have e_prP : prP x reg pend = pend := by simp [prP, p6, p9, p14, p17, p22, p24]
              refine xs_fin [.agg #[v25, .int .i64 0, .bool false, .int .i64 0]] (qA qb reg pend :: own iTy v25 reg :: F) (SI.agg 4 37 3 SI.nil) (fun _ h => h.re [1, 0] [2, 2, 2]) ?_
              rw [e_prL, e_prN, e_prB, e_prE, e_prR, e_prP]; exact ⟨_, rfl, rfl⟩
            ·
              have p27 := of_decide_eq_false c23
              refine k_reg ?_
              refine s_lt (t_pure (.pointer (some ⟨qb, 0, none⟩))) ?_
              refine s_call [3] (end_s (reg := reg) (pend := pend) (by (try simp only [List.length_nil, List.length_cons, List.length_append, List.length_take, List.length_drop, List.length_set, List.length_replicate, List.length_reverse, bits_len]); omega) (by (try simp only [List.length_nil, List.length_cons, List.length_append, List.length_take, List.length_drop, List.length_set, List.length_replicate, List.length_reverse, bits_len]); omega)) ?_
              rintro v28 _ rfl
              refine s_fact (fun H h => ((Acc.own (T := iTy) (L := (sepL [] reg)) 1 rfl) H h).form) (fun hf29 => ?_)
              refine s_lt (t_pure (.pointer (some ⟨g3, 0, none⟩))) ?_
              refine s_store (u := v28) (m := 1) 2 #[v28, .int .i64 0, .bool false, .int .i64 0] ?_ (hm := by (obtain ⟨_, _, e0⟩ := hf29; rw [e0]; rfl)) (h1 := by (obtain ⟨_, _, e0⟩ := hf29; rw [e0]; rfl)) (ha' := by (obtain ⟨_, _, e0⟩ := hf29; rw [e0]; rfl))
              refine s_nil ?_
              refine xs_block ?_
              refine xs_then ?_
              refine k_seq ?_
              refine k_reg ?_
              refine s_lt (t_loadA 2 #[v28, .int .i64 0, .bool false, .int .i64 0]) ?_
              refine s_store (u := .agg #[v28, .int .i64 0, .bool false, .int .i64 0]) (m := 4) 3 #[v28, .int .i64 0, .bool false, .int .i64 0] ?_ (hm := by (obtain ⟨_, _, e0⟩ := hf29; rw [e0]; rfl)) (h1 := by (obtain ⟨_, _, e0⟩ := hf29; rw [e0]; rfl)) (ha' := by (obtain ⟨_, _, e0⟩ := hf29; rw [e0]; rfl))
              refine s_nil ?_
              refine xs_then ?_
              refine k_ret ?_
              have e_prL : prL x reg pend = (sepL [] reg) := by simp [prL, p6, p9, p14, p17, p22, p27]
              have e_prN : prN x pend = 0 := by simp [prN, p6, p9, p14, p17, p22, p27]
              have e_prB : prB x reg pend = false := by simp [prB, p6, p9, p14, p17, p22, p27]
              have e_prE : prE x reg = 0 := by simp [prE, p6, p9, p14, p17, p22, p27]
              have e_prR : prR x reg = (stayL [] reg) := by simp [prR, p6, p9, p14, p17, p22, p27]
              have e_prP : prP x reg pend = (pend ++ (sepL [] reg)) := by simp [prP, p6, p9, p14, p17, p22, p27]
              refine xs_fin [.agg #[v28, .int .i64 0, .bool false, .int .i64 0]] (qA qb (stayL [] reg) (pend ++ (sepL [] reg)) :: own iTy v28 (sepL [] reg) :: F) (SI.agg 4 37 3 SI.nil) (fun _ h => h.re [0, 0] [2, 2, 2]) ?_
              rw [e_prL, e_prN, e_prB, e_prE, e_prR, e_prP]; exact ⟨_, rfl, rfl⟩
theorem program_nil {Z : Zone} {x : Cl} (hx : KnC Z x) : SF Try.prog 20 #[.pointer none, x.v] Z [] fun r Bs => r = .agg #[.slice none 0 0, .int .i64 0, .bool false, .int .i64 (nonE x)] ∧ Bs = [] := by
  refine sf_enter Try.func20 56 [(0, .pointer none), (1, .agg #[.int .i64 x.kind, .int .i64 x.id, x.av.v])] (fun w0 => ?_)
  refine k_seq ?_
  refine k_reg ?_
  refine s_box #[.int .i64 x.kind, .int .i64 x.id, x.av.v] (fun g1 => ?_)
  refine s_alloc (.agg #[(.slice none 0 0), .int .i64 0, .bool false, .int .i64 0]) #[(.slice none 0 0), .int .i64 0, .bool false, .int .i64 0] (fun g2 => ?_)
  refine s_nil ?_
  refine xs_then ?_
  refine k_seq ?_
  refine k_reg ?_
  refine s_lt (t_kern (.agg #[(.slice none 0 0), .int .i64 0, .bool false, .int .i64 0])) ?_
  refine s_alloc (.agg #[(.slice none 0 0), .int .i64 0, .bool false, .int .i64 0]) #[(.slice none 0 0), .int .i64 0, .bool false, .int .i64 0] (fun g3 => ?_)
  refine s_store 0 #[(.slice none 0 0), .int .i64 0, .bool false, .int .i64 0] ?_
  refine s_nil ?_
  refine xs_then ?_
  refine k_seq ?_
  refine k_seq ?_
  refine k_reg ?_
  refine s_lt (t_pure (.pointer (some ⟨g1, 0, none⟩))) ?_
  refine s_lt (t_load 2 (.int .i64 x.kind)) ?_
  refine s_nil ?_
  refine xs_then ?_
  refine k_block ?_
  refine k_seq ?_
  refine k_reg ?_
  refine s_lt t_cmp ?_
  refine s_lt (t_pure (.bool (decide (x.kind = 0)))) ?_
  refine s_nil ?_
  refine xs_then ?_
  refine k_cond (decide (x.kind = 0)) (fun c4 => ?_) (fun c4 => ?_)
  ·
    have p5 := of_decide_eq_true c4
    refine k_reg ?_
    refine s_lt (t_pure (.pointer none)) ?_
    refine s_lt (t_pure (.pointer (some ⟨g1, 1, none⟩))) ?_
    refine s_lt (t_load 2 (.int .i64 x.id)) ?_
    refine s_vcall (fun _ h => add_nil x.id) ?_
    rintro _ rfl
    refine s_lt (t_pure (.pointer (some ⟨g3, 3, none⟩))) ?_
    refine s_store 0 #[(.slice none 0 0), .int .i64 0, .bool false, .int .i64 1] ?_
    refine s_nil ?_
    refine xs_block ?_
    refine xs_then ?_
    refine k_seq ?_
    refine k_reg ?_
    refine s_lt (t_loadA 0 #[(.slice none 0 0), .int .i64 0, .bool false, .int .i64 1]) ?_
    refine s_store 1 #[(.slice none 0 0), .int .i64 0, .bool false, .int .i64 1] ?_
    refine s_nil ?_
    refine xs_then ?_
    refine k_ret ?_
    have e_n : nonE x = 1 := by simp [nonE, p5]
    refine xs_fin [.agg #[(.slice none 0 0), .int .i64 0, .bool false, .int .i64 1]] [] (SI.agg 4 37 1 SI.nil) (fun _ h => h.re [] [0, 0, 0]) ?_
    rw [e_n]; exact ⟨rfl, rfl⟩
  ·
    have p6 := of_decide_eq_false c4
    refine k_seq ?_
    refine k_reg ?_
    refine s_lt t_cmp ?_
    refine s_lt (t_pure (.bool (decide (x.kind = 1)))) ?_
    refine s_nil ?_
    refine xs_then ?_
    refine k_cond (decide (x.kind = 1)) (fun c7 => ?_) (fun c7 => ?_)
    ·
      have p8 := of_decide_eq_true c7
      refine k_reg ?_
      refine s_lt (t_pure (.pointer none)) ?_
      refine s_lt (t_pure (.pointer (some ⟨g1, 1, none⟩))) ?_
      refine s_lt (t_load 2 (.int .i64 x.id)) ?_
      refine s_vcall (fun _ h => has_nil x.id) ?_
      rintro _ rfl
      refine s_lt (t_pure (.pointer (some ⟨g3, 2, none⟩))) ?_
      refine s_store 0 #[(.slice none 0 0), .int .i64 0, .bool false, .int .i64 0] ?_
      refine s_nil ?_
      refine xs_block ?_
      refine xs_then ?_
      refine k_seq ?_
      refine k_reg ?_
      refine s_lt (t_loadA 0 #[(.slice none 0 0), .int .i64 0, .bool false, .int .i64 0]) ?_
      refine s_store 1 #[(.slice none 0 0), .int .i64 0, .bool false, .int .i64 0] ?_
      refine s_nil ?_
      refine xs_then ?_
      refine k_ret ?_
      have e_n : nonE x = 0 := by simp [nonE, p6, p8]
      refine xs_fin [.agg #[(.slice none 0 0), .int .i64 0, .bool false, .int .i64 0]] [] (SI.agg 4 37 1 SI.nil) (fun _ h => h.re [] [0, 0, 0]) ?_
      rw [e_n]; exact ⟨rfl, rfl⟩
    ·
      have p9 := of_decide_eq_false c7
      refine k_seq ?_
      refine k_reg ?_
      refine s_lt t_cmp ?_
      refine s_lt (t_pure (.bool (decide (x.kind = 2)))) ?_
      refine s_nil ?_
      refine xs_then ?_
      refine k_cond (decide (x.kind = 2)) (fun c10 => ?_) (fun c10 => ?_)
      ·
        have p11 := of_decide_eq_true c10
        refine k_reg ?_
        refine s_lt (t_pure (.pointer none)) ?_
        refine s_lt (t_pure (.pointer (some ⟨g1, 2, none⟩))) ?_
        refine s_lt (t_load 2 x.av.v) ?_
        refine s_vcall (fun _ h => sepa_nil x.av.v) ?_
        rintro _ rfl
        refine s_lt (t_pure (.pointer (some ⟨g3, 0, none⟩))) ?_
        refine s_store 0 #[(.slice none 0 0), .int .i64 0, .bool false, .int .i64 0] ?_
        refine s_nil ?_
        refine xs_block ?_
        refine xs_then ?_
        refine k_seq ?_
        refine k_reg ?_
        refine s_lt (t_loadA 0 #[(.slice none 0 0), .int .i64 0, .bool false, .int .i64 0]) ?_
        refine s_store 1 #[(.slice none 0 0), .int .i64 0, .bool false, .int .i64 0] ?_
        refine s_nil ?_
        refine xs_then ?_
        refine k_ret ?_
        have e_n : nonE x = 0 := by simp [nonE, p6, p9, p11]
        refine xs_fin [.agg #[(.slice none 0 0), .int .i64 0, .bool false, .int .i64 0]] [] (SI.agg 4 37 1 SI.nil) (fun _ h => h.re [] [0, 0, 0]) ?_
        rw [e_n]; exact ⟨rfl, rfl⟩
      ·
        have p12 := of_decide_eq_false c10
        refine k_seq ?_
        refine k_reg ?_
        refine s_lt t_cmp ?_
        refine s_lt (t_pure (.bool (decide (x.kind = 3)))) ?_
        refine s_nil ?_
        refine xs_then ?_
        refine k_cond (decide (x.kind = 3)) (fun c13 => ?_) (fun c13 => ?_)
        ·
          have p14 := of_decide_eq_true c13
          refine k_seq ?_
          refine k_reg ?_
          refine s_lt (t_pure (.pointer none)) ?_
          refine s_vcall (fun _ h => next_nil) ?_
          rintro _ rfl
          refine s_lt (t_pure (.tuple #[.int .i64 0, .bool false])) ?_
          refine s_lt (t_pure (.int .i64 0)) ?_
          refine s_lt (t_pure (.bool false)) ?_
          refine s_lt (t_pure (.int .i64 0)) ?_
          refine s_lt (t_pure (.bool false)) ?_
          refine s_nil ?_
          refine xs_then ?_
          refine k_reg ?_
          refine s_lt (t_pure (.int .i64 0)) ?_
          refine s_lt (t_pure (.bool false)) ?_
          refine s_lt (t_kern (.agg #[(.slice none 0 0), .int .i64 0, .bool false, .int .i64 0])) ?_
          refine s_store 0 #[(.slice none 0 0), .int .i64 0, .bool false, .int .i64 0] ?_
          refine s_nil ?_
          refine xs_block ?_
          refine xs_then ?_
          refine k_seq ?_
          refine k_reg ?_
          refine s_lt (t_loadA 0 #[(.slice none 0 0), .int .i64 0, .bool false, .int .i64 0]) ?_
          refine s_store 1 #[(.slice none 0 0), .int .i64 0, .bool false, .int .i64 0] ?_
          refine s_nil ?_
          refine xs_then ?_
          refine k_ret ?_
          have e_n : nonE x = 0 := by simp [nonE, p6, p9, p12, p14]
          refine xs_fin [.agg #[(.slice none 0 0), .int .i64 0, .bool false, .int .i64 0]] [] (SI.agg 4 37 1 SI.nil) (fun _ h => h.re [] [0, 0, 0]) ?_
          rw [e_n]; exact ⟨rfl, rfl⟩
        ·
          have p15 := of_decide_eq_false c13
          refine k_seq ?_
          refine k_reg ?_
          refine s_lt t_cmp ?_
          refine s_lt (t_pure (.bool (decide (x.kind = 4)))) ?_
          refine s_nil ?_
          refine xs_then ?_
          refine k_cond (decide (x.kind = 4)) (fun c16 => ?_) (fun c16 => ?_)
          ·
            have p17 := of_decide_eq_true c16
            refine k_reg ?_
            refine s_lt (t_pure (.pointer none)) ?_
            refine s_vcall (fun _ h => pend_nil) ?_
            rintro _ rfl
            refine s_lt (t_pure (.pointer (some ⟨g3, 0, none⟩))) ?_
            refine s_store 0 #[(.slice none 0 0), .int .i64 0, .bool false, .int .i64 0] ?_
            refine s_nil ?_
            refine xs_block ?_
            refine xs_then ?_
            refine k_seq ?_
            refine k_reg ?_
            refine s_lt (t_loadA 0 #[(.slice none 0 0), .int .i64 0, .bool false, .int .i64 0]) ?_
            refine s_store 1 #[(.slice none 0 0), .int .i64 0, .bool false, .int .i64 0] ?_
            refine s_nil ?_
            refine xs_then ?_
            refine k_ret ?_
            have e_n : nonE x = 0 := by simp [nonE, p6, p9, p12, p15, p17]
            refine xs_fin [.agg #[(.slice none 0 0), .int .i64 0, .bool false, .int .i64 0]] [] (SI.agg 4 37 1 SI.nil) (fun _ h => h.re [] [0, 0, 0]) ?_
            rw [e_n]; exact ⟨rfl, rfl⟩
          ·
            have p18 := of_decide_eq_false c16
            refine k_seq ?_
            refine k_reg ?_
            refine s_lt t_cmp ?_
            refine s_lt (t_pure (.bool (decide (x.kind = 5)))) ?_
            refine s_nil ?_
            refine xs_then ?_
            refine k_cond (decide (x.kind = 5)) (fun c19 => ?_) (fun c19 => ?_)
            ·
              have p20 := of_decide_eq_true c19
              refine k_reg ?_
              refine s_lt (t_pure (.pointer none)) ?_
              refine s_vcall (fun _ h => reg_nil) ?_
              rintro _ rfl
              refine s_lt (t_pure (.pointer (some ⟨g3, 0, none⟩))) ?_
              refine s_store 0 #[(.slice none 0 0), .int .i64 0, .bool false, .int .i64 0] ?_
              refine s_nil ?_
              refine xs_block ?_
              refine xs_then ?_
              refine k_seq ?_
              refine k_reg ?_
              refine s_lt (t_loadA 0 #[(.slice none 0 0), .int .i64 0, .bool false, .int .i64 0]) ?_
              refine s_store 1 #[(.slice none 0 0), .int .i64 0, .bool false, .int .i64 0] ?_
              refine s_nil ?_
              refine xs_then ?_
              refine k_ret ?_
              have e_n : nonE x = 0 := by simp [nonE, p6, p9, p12, p15, p18, p20]
              refine xs_fin [.agg #[(.slice none 0 0), .int .i64 0, .bool false, .int .i64 0]] [] (SI.agg 4 37 1 SI.nil) (fun _ h => h.re [] [0, 0, 0]) ?_
              rw [e_n]; exact ⟨rfl, rfl⟩
            ·
              have p21 := of_decide_eq_false c19
              refine k_reg ?_
              refine s_lt (t_pure (.pointer none)) ?_
              refine s_vcall (fun _ h => end_nil) ?_
              rintro _ rfl
              refine s_lt (t_pure (.pointer (some ⟨g3, 0, none⟩))) ?_
              refine s_store 0 #[(.slice none 0 0), .int .i64 0, .bool false, .int .i64 0] ?_
              refine s_nil ?_
              refine xs_block ?_
              refine xs_then ?_
              refine k_seq ?_
              refine k_reg ?_
              refine s_lt (t_loadA 0 #[(.slice none 0 0), .int .i64 0, .bool false, .int .i64 0]) ?_
              refine s_store 1 #[(.slice none 0 0), .int .i64 0, .bool false, .int .i64 0] ?_
              refine s_nil ?_
              refine xs_then ?_
              refine k_ret ?_
              have e_n : nonE x = 0 := by simp [nonE, p6, p9, p12, p15, p18, p21]
              refine xs_fin [.agg #[(.slice none 0 0), .int .i64 0, .bool false, .int .i64 0]] [] (SI.agg 4 37 1 SI.nil) (fun _ h => h.re [] [0, 0, 0]) ?_
              rw [e_n]; exact ⟨rfl, rfl⟩
theorem KnC.up {Z : Zone} {As : List Asr} {H : Heap} {x : Cl} (k : KnC Z x) (h : Holds Z As H) : KnC (zoneOf H) x := Kn.up k h
theorem none_w {Z : Zone} {x : Cl} (hx : KnC Z x) : SF Try.prog 8 #[x.v] Z [] fun r Bs => r = .bool true ∧ Bs = [] := by
  refine sf_enter Try.func8 35 [(0, .agg #[.int .i64 x.kind, .int .i64 x.id, x.av.v])] (fun w0 => ?_)
  refine k_seq ?_
  refine k_reg ?_
  refine s_box #[.int .i64 x.kind, .int .i64 x.id, x.av.v] (fun g1 => ?_)
  refine s_lt (t_pure (.bool false)) ?_
  refine s_nil ?_
  refine xs_then ?_
  refine k_seq ?_
  refine k_reg ?_
  refine s_lt (t_pure (.pointer none)) ?_
  refine s_nil ?_
  refine xs_then ?_
  refine k_seq ?_
  refine k_reg ?_
  refine s_lt (t_pure (.pointer none)) ?_
  refine s_lt (t_loadA 0 #[.int .i64 x.kind, .int .i64 x.id, x.av.v]) ?_
  refine s_vcall (fun _ h => program_nil (hx.up h)) ?_
  rintro _ rfl
  refine s_alloc (.agg #[(.slice none 0 0), .int .i64 0, .bool false, .int .i64 0]) #[(.slice none 0 0), .int .i64 0, .bool false, .int .i64 0] (fun g2 => ?_)
  refine s_store 0 #[(.slice none 0 0), .int .i64 0, .bool false, .int .i64 (nonE x)] ?_
  refine s_nil ?_
  refine xs_then ?_
  refine k_seq ?_
  refine k_reg ?_
  refine s_lt (t_pure (.int .i64 0)) ?_
  refine s_nil ?_
  refine xs_then ?_
  refine k_seq ?_
  refine k_seq ?_
  refine k_reg ?_
  refine s_lt (t_pure (.pointer (some ⟨g1, 0, none⟩))) ?_
  refine s_lt (t_load 1 (.int .i64 x.kind)) ?_
  refine s_lt t_cmp ?_
  refine s_nil ?_
  refine xs_then ?_
  refine k_cond (decide (x.kind = 0)) (fun c3 => ?_) (fun c3 => ?_)
  ·
    have p4 := of_decide_eq_true c3
    refine k_reg ?_
    refine s_lt (t_pure (.int .i64 1)) ?_
    refine s_nil ?_
    refine xs_then ?_
    refine k_seq ?_
    refine k_reg ?_
    refine s_lt (t_pure (.pointer (some ⟨g2, 0, none⟩))) ?_
    refine s_lt (t_load 0 (.slice none 0 0)) ?_
    refine s_lt (Lt.to (v' := .int .i64 0) (t_len (T := iTy) (L := []) iTy_ok Try.underlying22 .nil) rfl) ?_
    refine s_lt (t_cmp (c := true)) ?_
    refine s_lt (t_pure (.bool true)) ?_
    refine s_lt (t_pure (.pointer (some ⟨g2, 1, none⟩))) ?_
    refine s_lt (t_load 0 (.int .i64 0)) ?_
    refine s_lt (t_cmp (c := true)) ?_
    refine s_lt (t_pure (.bool true)) ?_
    refine s_lt (t_pure (.bool true)) ?_
    refine s_lt (t_pure (.pointer (some ⟨g2, 2, none⟩))) ?_
    refine s_lt (t_load 0 (.bool false)) ?_
    refine s_lt (t_pure (.bool true)) ?_
    refine s_lt (t_pure (.bool true)) ?_
    refine s_lt (t_pure (.bool true)) ?_
    refine s_lt (t_pure (.pointer (some ⟨g2, 3, none⟩))) ?_
    refine s_lt (t_load 0 (.int .i64 (nonE x))) ?_
    refine s_lt (t_pure (.int .i64 1)) ?_
    refine s_lt (Lt.to t_cmp (congrArg Value.bool (decide_eq_true (by simp [nonE, p4]) : (decide ((nonE x) = 1)) = true))) ?_
    refine s_lt (t_pure (.bool true)) ?_
    refine s_lt (t_pure (.bool true)) ?_
    refine s_vcall (fun _ h => awake_s) ?_
    rintro _ rfl
    refine s_lt (t_pure (.bool true)) ?_
    refine s_lt (t_pure (.bool true)) ?_
    refine s_nil ?_
    refine xs_then ?_
    refine k_ret ?_
    exact xs_fin [.bool true] [] (SI.tmp 2 SI.nil) (fun _ h => h.re [] [0, 0]) ⟨rfl, rfl⟩
  ·
    have p5 := of_decide_eq_false c3
    refine k_skip ?_
    refine xs_then ?_
    refine k_seq ?_
    refine k_reg ?_
    refine s_lt (t_pure (.pointer (some ⟨g2, 0, none⟩))) ?_
    refine s_lt (t_load 0 (.slice none 0 0)) ?_
    refine s_lt (Lt.to (v' := .int .i64 0) (t_len (T := iTy) (L := []) iTy_ok Try.underlying22 .nil) rfl) ?_
    refine s_lt (t_cmp (c := true)) ?_
    refine s_lt (t_pure (.bool true)) ?_
    refine s_lt (t_pure (.pointer (some ⟨g2, 1, none⟩))) ?_
    refine s_lt (t_load 0 (.int .i64 0)) ?_
    refine s_lt (t_cmp (c := true)) ?_
    refine s_lt (t_pure (.bool true)) ?_
    refine s_lt (t_pure (.bool true)) ?_
    refine s_lt (t_pure (.pointer (some ⟨g2, 2, none⟩))) ?_
    refine s_lt (t_load 0 (.bool false)) ?_
    refine s_lt (t_pure (.bool true)) ?_
    refine s_lt (t_pure (.bool true)) ?_
    refine s_lt (t_pure (.bool true)) ?_
    refine s_lt (t_pure (.pointer (some ⟨g2, 3, none⟩))) ?_
    refine s_lt (t_load 0 (.int .i64 (nonE x))) ?_
    refine s_lt (t_pure (.int .i64 0)) ?_
    refine s_lt (Lt.to t_cmp (congrArg Value.bool (decide_eq_true (by simp [nonE, p5]) : (decide ((nonE x) = 0)) = true))) ?_
    refine s_lt (t_pure (.bool true)) ?_
    refine s_lt (t_pure (.bool true)) ?_
    refine s_vcall (fun _ h => awake_s) ?_
    rintro _ rfl
    refine s_lt (t_pure (.bool true)) ?_
    refine s_lt (t_pure (.bool true)) ?_
    refine s_nil ?_
    refine xs_then ?_
    refine k_ret ?_
    exact xs_fin [.bool true] [] (SI.tmp 2 SI.nil) (fun _ h => h.re [] [0, 0]) ⟨rfl, rfl⟩
theorem long_s {Z : Zone} {lv : Value} {L : List Cl} (hL : Kn Z ClT lv L) (hC : ∀ x ∈ L, KnC Z x) : SF Try.prog 18 #[lv] Z [] fun r Bs => ∃ b, r = .bool b ∧ (b = false → L.length ≤ 100 ∧ ∀ x ∈ L, x.alive.length ≤ 100) ∧ Bs = [] := by
  refine sf_enter Try.func18 24 [(0, lv)] (fun w0 => ?_)
  refine k_fact (fun H h => (hL.get h).len_le) (fun lA => ?_)
  refine k_seq ?_
  refine k_reg ?_
  refine s_lt (t_pure (.bool false)) ?_
  refine s_nil ?_
  refine xs_then ?_
  refine k_seq ?_
  refine k_seq ?_
  refine k_reg ?_
  refine s_lt (t_pure (.int .i64 0)) ?_
  refine s_nil ?_
  refine xs_then ?_
  refine k_block ?_
  refine k_loop (ι := Nat) (fun i => i ≤ L.length ∧ i ≤ 100 ∧ ∀ x ∈ L.take i, x.alive.length ≤ 100) (fun i => [(0, lv), (2, .bool false), (3, .int .i64 (i : Int))]) (fun i => []) (fun i => L.length - i) 0 ⟨Nat.zero_le _, Nat.zero_le _, by simp⟩ (sub_of rfl ⟨⟨rfl, rfl⟩, ⟨⟨rfl, rfl⟩, ⟨⟨rfl, rfl⟩, trivial⟩⟩⟩) (fun _ h => h.re [] []) ?_
  rintro i hi1
  show SK _ _ _ _ _ [(0, lv), (2, .bool false), (3, .int .i64 (i : Int))] _ []
  refine k_seq ?_
  refine k_cut (ι := Unit) (fun _ => True) (fun _ => [(0, lv), (2, .bool false), (3, .int .i64 (i : Int)), (4, .int .i64 (i : Int)), (5, lv), (6, .int .i64 (L.length : Int)), (7, .bool (decide ((i : Int) < (L.length : Int)))), (8, .bool (decide ((i : Int) < (L.length : Int)))), (11, .bool ((decide ((i : Int) < (L.length : Int))) && (decide ((i : Int) < 100))))]) (fun _ => []) ?_ (fun _ _ => ?_)
  ·
    refine k_reg ?_
    refine s_lt (t_pure (.int .i64 (i : Int))) ?_
    refine s_lt (t_pure lv) ?_
    refine s_lt (t_len ClT_ok Try.underlying32 (.zn hL)) ?_
    refine s_lt t_cmp ?_
    refine s_lt (t_pure (.bool (decide ((i : Int) < (L.length : Int))))) ?_
    refine s_fork 8 (decide ((i : Int) < (L.length : Int))) (fun c2 => ?_) (fun c2 => ?_)
    ·
      have p3 := of_decide_eq_true c2
      refine s_lt (t_pure (.int .i64 (i : Int))) ?_
      refine s_lt t_cmp ?_
      refine s_lt (t_pure (.bool (decide ((i : Int) < 100)))) ?_
      refine s_nil ?_
      exact xs_cut () trivial (sub_of rfl ⟨⟨rfl, rfl⟩, ⟨⟨rfl, rfl⟩, ⟨⟨rfl, rfl⟩, ⟨⟨rfl, rfl⟩, ⟨⟨rfl, rfl⟩, ⟨⟨rfl, rfl⟩, ⟨⟨rfl, rfl⟩, ⟨⟨rfl, show Value.bool true = Value.bool (decide ((i : Int) < (L.length : Int))) by first | (simp only [c2, Bool.true_and, Bool.false_and, Bool.and_true, Bool.and_false, Bool.true_or, Bool.or_true, Bool.false_or, Bool.or_false, Bool.not_true, Bool.not_false]; done) | simp [c2]⟩, ⟨⟨rfl, show Value.bool (decide ((i : Int) < 100)) = Value.bool ((decide ((i : Int) < (L.length : Int))) && (decide ((i : Int) < 100))) by first | (simp only [c2, Bool.true_and, Bool.false_and, Bool.and_true, Bool.and_false, Bool.true_or, Bool.or_true, Bool.false_or, Bool.or_false, Bool.not_true, Bool.not_false]; done) | simp [c2]⟩, trivial⟩⟩⟩⟩⟩⟩⟩⟩⟩) (fun _ h => h.re [] [])
    ·
      have p4 := of_decide_eq_false c2
      refine s_skip ?_
      refine s_skip ?_
      refine s_lt (t_pure (.bool false)) ?_
      refine s_nil ?_
      exact xs_cut () trivial (sub_of rfl ⟨⟨rfl, rfl⟩, ⟨⟨rfl, rfl⟩, ⟨⟨rfl, rfl⟩, ⟨⟨rfl, rfl⟩, ⟨⟨rfl, rfl⟩, ⟨⟨rfl, rfl⟩, ⟨⟨rfl, rfl⟩, ⟨⟨rfl, show Value.bool false = Value.bool (decide ((i : Int) < (L.length : Int))) by first | (simp only [c2, Bool.true_and, Bool.false_and, Bool.and_true, Bool.and_false, Bool.true_or, Bool.or_true, Bool.false_or, Bool.or_false, Bool.not_true, Bool.not_false]; done) | simp [c2]⟩, ⟨⟨rfl, show Value.bool false = Value.bool ((decide ((i : Int) < (L.length : Int))) && (decide ((i : Int) < 100))) by first | (simp only [c2, Bool.true_and, Bool.false_and, Bool.and_true, Bool.and_false, Bool.true_or, Bool.or_true, Bool.false_or, Bool.or_false, Bool.not_true, Bool.not_false]; done) | simp [c2]⟩, trivial⟩⟩⟩⟩⟩⟩⟩⟩⟩) (fun _ h => h.re [] [])
  ·
    refine k_cond ((decide ((i : Int) < (L.length : Int))) && (decide ((i : Int) < 100))) (fun c5 => ?_) (fun c5 => ?_)
    ·
      obtain ⟨c6, c7⟩ := and_t c5
      have p8 := of_decide_eq_true c6
      have p9 := of_decide_eq_true c7
      refine k_skip ?_
      refine xs_then ?_
      refine k_seq ?_
      refine k_block ?_
      refine k_seq ?_
      refine k_reg ?_
      refine s_lt (t_pure lv) ?_
      refine s_lt (t_pure (.int .i64 (i : Int))) ?_
      refine s_lt (t_index ClT_ok Try.underlying32 (.zn hL) (i : Int) i (by omega) (by (try simp only [List.length_nil, List.length_cons, List.length_append, List.length_take, List.length_drop, List.length_set, List.length_replicate, List.length_reverse, bits_len]); omega) (by omega)) ?_
      refine s_lt (t_pure (.pointer (some ((elemAt ClT.size lv i).add 2)))) ?_
      obtain ⟨y10, hy11⟩ : ∃ y, L[i]? = some y := ⟨_, List.getElem?_eq_getElem (by (try simp only [List.length_nil, List.length_cons, List.length_append, List.length_take, List.length_drop, List.length_set, List.length_replicate, List.length_reverse, bits_len]); omega)⟩
      have hk12 := hC y10 (List.mem_of_getElem? hy11)
      refine s_lt (t_loadF 2 ClT_ok (.zn hL) hy11) ?_
      refine s_lt (t_len iTy_ok Try.underlying22 (.zn hk12)) ?_
      refine s_lt t_cmp ?_
      refine s_nil ?_
      refine xs_then ?_
      refine k_cond (decide ((100 : Int) < (y10.alive.length : Int))) (fun c13 => ?_) (fun c13 => ?_)
      ·
        have p14 := of_decide_eq_true c13
        refine k_seq ?_
        refine k_reg ?_
        refine s_lt (t_pure (.bool true)) ?_
        refine s_nil ?_
        refine xs_then ?_
        refine k_ret ?_
        refine xs_retBlock ?_
        refine xs_ret ?_
        refine xs_ret ?_
        refine xs_retBlock ?_
        refine xs_ret ?_
        refine xs_fin [.bool true] [] (SI.tmp 2 SI.nil) (fun _ h => h.re [] []) ?_
        exact ⟨true, rfl, (fun h => by cases h), rfl⟩
      ·
        have p15 := of_decide_eq_false c13
        refine k_skip ?_
        refine xs_block ?_
        refine xs_then ?_
        refine k_reg ?_
        refine s_lt (t_pure (.int .i64 (i : Int))) ?_
        refine s_lt (t_add (i : Int) 1 (by (try simp only [List.length_nil, List.length_cons, List.length_append, List.length_take, List.length_drop, List.length_set, List.length_replicate, List.length_reverse, bits_len]); omega)) ?_
        refine s_lt (t_pure (.int .i64 ((i : Int) + 1))) ?_
        refine s_nil ?_
        exact xs_round (i + 1) (by omega) (by obtain ⟨hi1, hi2, hi3⟩ := hi1; refine ⟨by omega, by omega, fun x hx => ?_⟩; rw [← take_snoc hy11] at hx; rcases List.mem_append.1 hx with hx | hx; exact hi3 x hx; simp at hx; subst hx; omega) (sub_of rfl ⟨⟨rfl, rfl⟩, ⟨⟨rfl, rfl⟩, ⟨⟨rfl, rfl⟩, trivial⟩⟩⟩) (fun _ h => h.re [] [])
    ·
      have p16 := c5
      simp only [Bool.and_eq_true, Bool.or_eq_true, Bool.and_eq_false_iff, Bool.or_eq_false_iff, Bool.not_eq_true', Bool.not_eq_false', decide_eq_true_eq, decide_eq_false_iff_not] at p16
      refine k_exit ?_
      refine xs_exit ?_
      refine xs_exit ?_
      refine xs_here ?_
      refine xs_then ?_
      refine k_seq ?_
      refine k_reg ?_
      refine s_lt (t_pure lv) ?_
      refine s_lt (t_len ClT_ok Try.underlying32 (.zn hL)) ?_
      refine s_lt t_cmp ?_
      refine s_lt (t_pure (.bool (decide ((100 : Int) < (L.length : Int))))) ?_
      refine s_nil ?_
      refine xs_then ?_
      refine k_ret ?_
      refine xs_fin [.bool (decide ((100 : Int) < (L.length : Int)))] [] (SI.tmp 2 SI.nil) (fun _ h => h.re [] []) ?_
      refine ⟨_, rfl, fun h => ?_, rfl⟩
      have q := of_decide_eq_false h; obtain ⟨hi1, hi2, hi3⟩ := hi1
      have hps : True := trivial
      refine ⟨by omega, fun x hx => hi3 x ?_⟩
      rw [List.take_of_length_le (by omega)]; exact hx
end Go.Proofs.Ytipmkaabogocfaa
