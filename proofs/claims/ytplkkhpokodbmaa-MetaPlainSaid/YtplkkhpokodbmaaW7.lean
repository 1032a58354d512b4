/-
  Layer 15: specifications, worlds, handlers. Each law says its conditions.
-/
import Derived.Test.YtplkkhpokodbmaaW6
set_option linter.unusedSimpArgs false
set_option linter.unusedVariables false
set_option maxRecDepth 100000
set_option maxHeartbeats 2000000
namespace Go.Proofs.Ytplkkhpokodbmaa
open Go.Hp Go.J Go.S
open Go.Mem (Ty KTy blk elemAt pre suf blk_pre blk_suf aget aset strK aggDesc)
open Go.Mem (adel apos aget_aset aget_adel)
structure Spc where
  v : Vl
  obj : Int
structure Opc where
  kind : Int
  a : Spc
  b : Spc
  c : Spc
def Spc.w (x : Spc) : Value := .agg #[.int .i64 x.v.kind, .int .i64 x.v.p, .int .i64 x.v.q, .string x.v.str, .int .i64 x.v.ref, .int .i64 x.obj]
def Opc.w (x : Opc) : Value := .agg #[.int .i64 x.kind, .int .i64 x.a.v.kind, .int .i64 x.a.v.p, .int .i64 x.a.v.q, .string x.a.v.str, .int .i64 x.a.v.ref, .int .i64 x.a.obj, .int .i64 x.b.v.kind, .int .i64 x.b.v.p, .int .i64 x.b.v.q, .string x.b.v.str, .int .i64 x.b.v.ref, .int .i64 x.b.obj, .int .i64 x.c.v.kind, .int .i64 x.c.v.p, .int .i64 x.c.v.q, .string x.c.v.str, .int .i64 x.c.v.ref, .int .i64 x.c.obj]
def SpT : Ty Spc := ⟨28, 6, 56, true, Spc.w, ⟨zVl, 0⟩⟩
theorem SpT_ok : SpT.Ok Try.prog := ok_of SpT _ Try.t28 (by decide) (fun _ => rfl) (fun x u hu => by simp [Ty.enc, SpT, Spc.w, Value.cells] at hu; rcases hu with rfl | rfl | rfl | rfl | rfl | rfl <;> rfl) (fun _ => rfl) Try.underlying28 rfl (fun h => by cases h) (by kernel_rfl) (by kernel_rfl) (by kernel_rfl) (by kernel_rfl)
def OpT : Ty Opc := ⟨74, 19, 176, true, Opc.w, ⟨0, ⟨zVl, 0⟩, ⟨zVl, 0⟩, ⟨zVl, 0⟩⟩⟩
theorem OpT_ok : OpT.Ok Try.prog := ok_of OpT _ Try.t74 (by decide) (fun _ => rfl) (fun x u hu => by simp [Ty.enc, OpT, Opc.w, Value.cells] at hu; rcases hu with rfl | rfl | rfl | rfl | rfl | rfl | rfl | rfl | rfl | rfl | rfl | rfl | rfl | rfl | rfl | rfl | rfl | rfl | rfl <;> rfl) (fun _ => rfl) Try.underlying74 rfl (fun h => by cases h) (by kernel_rfl) (by kernel_rfl) (by kernel_rfl) (by kernel_rfl)
theorem ofstr_s {Z : Zone} (s : ByteArray) : SF Try.prog 47 #[.string s] Z [] fun r Bs => r = (strV s).v ∧ Bs = [] := by
 refine sf_enter Try.func47 5 [(0, .string s)] (fun w0 => ?_)
 refine k_sr ?_
 refine s_alloc (.agg #[.int .i64 0, .int .i64 0, .int .i64 0, .string ByteArray.empty, .int .i64 0]) #[.int .i64 0, .int .i64 0, .int .i64 0, .string ByteArray.empty, .int .i64 0] (fun g1 => ?_)
 refine s_nr ?_
 refine sp (.string s) ?_
 refine s_lt (t_kern (.agg #[.int .i64 3, .int .i64 0, .int .i64 0, .string s, .int .i64 0])) ?_
 refine s_store 0 #[.int .i64 3, .int .i64 0, .int .i64 0, .string s, .int .i64 0] ?_
 refine s_nt ?_
 refine k_ret ?_
 exact xs_fin [.agg #[.int .i64 3, .int .i64 0, .int .i64 0, .string s, .int .i64 0]] [] (SI.agg 2 26 0 SI.nil) (fun _ h => h.re [] [0]) ⟨rfl, rfl⟩
theorem rtext_s {Z : Zone} (s : ByteArray) : SF Try.prog 49 #[.string s] Z [] fun r Bs => r = (strV s).v ∧ Bs = [] := by
 refine sf_enter Try.func49 5 [(0, .string s)] (fun w0 => ?_)
 refine k_sr ?_
 refine s_alloc (.agg #[.int .i64 0, .int .i64 0, .int .i64 0, .string ByteArray.empty, .int .i64 0]) #[.int .i64 0, .int .i64 0, .int .i64 0, .string ByteArray.empty, .int .i64 0] (fun g1 => ?_)
 refine s_nr ?_
 refine sp (.string s) ?_
 refine s_lt (t_kern (.agg #[.int .i64 3, .int .i64 0, .int .i64 0, .string s, .int .i64 0])) ?_
 refine s_store 0 #[.int .i64 3, .int .i64 0, .int .i64 0, .string s, .int .i64 0] ?_
 refine s_nt ?_
 refine k_ret ?_
 exact xs_fin [.agg #[.int .i64 3, .int .i64 0, .int .i64 0, .string s, .int .i64 0]] [] (SI.agg 2 26 0 SI.nil) (fun _ h => h.re [] [0]) ⟨rfl, rfl⟩
theorem lstr_s {Z : Zone} (s : ByteArray) : SF Try.prog 30 #[.string s] Z [] fun r Bs => r = (strV s).v ∧ Bs = [] := by
 refine sf_enter Try.func30 5 [(0, .string s)] (fun w0 => ?_)
 refine k_sr ?_
 refine s_alloc (.agg #[.int .i64 0, .int .i64 0, .int .i64 0, .string ByteArray.empty, .int .i64 0]) #[.int .i64 0, .int .i64 0, .int .i64 0, .string ByteArray.empty, .int .i64 0] (fun g1 => ?_)
 refine s_nr ?_
 refine sp (.string s) ?_
 refine s_lt (t_kern (.agg #[.int .i64 3, .int .i64 0, .int .i64 0, .string s, .int .i64 0])) ?_
 refine s_store 0 #[.int .i64 3, .int .i64 0, .int .i64 0, .string s, .int .i64 0] ?_
 refine s_nt ?_
 refine k_ret ?_
 exact xs_fin [.agg #[.int .i64 3, .int .i64 0, .int .i64 0, .string s, .int .i64 0]] [] (SI.agg 2 26 0 SI.nil) (fun _ h => h.re [] [0]) ⟨rfl, rfl⟩
def fnB (v : Vl) : Bool := decide (v.kind = 5) || decide (v.kind = 6)
/-- The metamethod of a value. -/
def hdl (st : Hst) (v : Vl) (ev : ByteArray) : Vl := if (hmeta st v).kind = 0 then zVl else hgetV st (hmeta st v) (strV ev)
theorem hget_kind {st : Hst} {m k : Vl} (h : m.kind ≠ 4) : hgetV st m k = zVl := by
  refine hgetV_none ?_
  cases hf : hfind st m with
  | none => exact htab_none hf
  | some o => exact htab_not hf (by rw [(hfind_some hf).2]; exact h)
theorem fun_s {Z : Zone} (v : Vl) : SF Try.prog 51 #[v.v] Z [] fun r Bs => r = .bool (fnB v) ∧ Bs = [] := by
 refine sf_enter Try.func51 11 [(0, .agg #[.int .i64 v.kind, .int .i64 v.p, .int .i64 v.q, .string v.str, .int .i64 v.ref])] (fun w0 => ?_)
 refine k_sr ?_
 refine s_box #[.int .i64 v.kind, .int .i64 v.p, .int .i64 v.q, .string v.str, .int .i64 v.ref] (fun g1 => ?_)
 refine sp (.bool false) ?_
 refine s_nr ?_
 refine sp (pB g1 0) ?_
 refine s_lt (t_load 0 (.int .i64 v.kind)) ?_
 refine s_lt t_cmp ?_
 refine sp (.bool (decide (v.kind = 5))) ?_
 refine s_fork 6 (decide (v.kind = 5)) (fun c2 => ?_) (fun c2 => ?_)
 ·
  have p3 := of_decide_eq_true c2
  refine s_skip ?_
  refine s_skip ?_
  refine s_skip ?_
  refine sp (.bool true) ?_
  refine sp (.bool true) ?_
  refine s_nt ?_
  refine k_ret ?_
  refine xs_fin [.bool true] [] (SI.tmp 2 SI.nil) (fun _ h => h.re [] [0]) ⟨congrArg Value.bool ?_, rfl⟩
  unfold fnB; simp [c2, p3]
 ·
  have p4 := of_decide_eq_false c2
  refine sp (pB g1 0) ?_
  refine s_lt (t_load 0 (.int .i64 v.kind)) ?_
  refine s_lt t_cmp ?_
  refine sp (.bool (decide (v.kind = 6))) ?_
  refine sp (.bool (decide (v.kind = 6))) ?_
  refine s_nt ?_
  refine k_ret ?_
  refine xs_fin [.bool (decide (v.kind = 6))] [] (SI.tmp 2 SI.nil) (fun _ h => h.re [] [0]) ⟨congrArg Value.bool ?_, rfl⟩
  unfold fnB; simp [c2, p4]
theorem rfun_s {Z : Zone} (v : Vl) : SF Try.prog 52 #[v.v] Z [] fun r Bs => r = .bool (fnB v) ∧ Bs = [] := by
 refine sf_enter Try.func52 11 [(0, .agg #[.int .i64 v.kind, .int .i64 v.p, .int .i64 v.q, .string v.str, .int .i64 v.ref])] (fun w0 => ?_)
 refine k_sr ?_
 refine s_box #[.int .i64 v.kind, .int .i64 v.p, .int .i64 v.q, .string v.str, .int .i64 v.ref] (fun g1 => ?_)
 refine sp (.bool false) ?_
 refine s_nr ?_
 refine sp (pB g1 0) ?_
 refine s_lt (t_load 0 (.int .i64 v.kind)) ?_
 refine s_lt t_cmp ?_
 refine sp (.bool (decide (v.kind = 5))) ?_
 refine s_fork 6 (decide (v.kind = 5)) (fun c2 => ?_) (fun c2 => ?_)
 ·
  have p3 := of_decide_eq_true c2
  refine s_skip ?_
  refine s_skip ?_
  refine s_skip ?_
  refine sp (.bool true) ?_
  refine sp (.bool true) ?_
  refine s_nt ?_
  refine k_ret ?_
  refine xs_fin [.bool true] [] (SI.tmp 2 SI.nil) (fun _ h => h.re [] [0]) ⟨congrArg Value.bool ?_, rfl⟩
  unfold fnB; simp [c2, p3]
 ·
  have p4 := of_decide_eq_false c2
  refine sp (pB g1 0) ?_
  refine s_lt (t_load 0 (.int .i64 v.kind)) ?_
  refine s_lt t_cmp ?_
  refine sp (.bool (decide (v.kind = 6))) ?_
  refine sp (.bool (decide (v.kind = 6))) ?_
  refine s_nt ?_
  refine k_ret ?_
  refine xs_fin [.bool (decide (v.kind = 6))] [] (SI.tmp 2 SI.nil) (fun _ h => h.re [] [0]) ⟨congrArg Value.bool ?_, rfl⟩
  unfold fnB; simp [c2, p4]
theorem hdl_s {Z : Zone} {F : List Asr} {b : Nat} {st : Hst} {n : Nat} (hsm : HSm n st) (hn : n ≤ 300) (v : Vl) (ev : ByteArray) : SF Try.prog 14 #[.pointer (some ⟨b, 0, none⟩), v.v, .string ev] Z (hpA b st :: F) fun r Bs => r = (hdl st v ev).v ∧ Bs = hpA b st :: F := by
 refine sf_enter Try.func14 26 [(0, pB b 0), (1, .agg #[.int .i64 v.kind, .int .i64 v.p, .int .i64 v.q, .string v.str, .int .i64 v.ref]), (2, .string ev)] (fun w0 => ?_)
 have hlen0 := hsm.len
 refine k_sr ?_
 refine s_box #[.int .i64 v.kind, .int .i64 v.p, .int .i64 v.q, .string v.str, .int .i64 v.ref] (fun g1 => ?_)
 refine s_alloc (.agg #[.int .i64 0, .int .i64 0, .int .i64 0, .string ByteArray.empty, .int .i64 0]) #[.int .i64 0, .int .i64 0, .int .i64 0, .string ByteArray.empty, .int .i64 0] (fun g2 => ?_)
 refine s_nr ?_
 refine sp (pB b 0) ?_
 refine s_lt (t_loadA 1 #[.int .i64 v.kind, .int .i64 v.p, .int .i64 v.q, .string v.str, .int .i64 v.ref]) ?_
 refine s_call [2] (hmeta_s (st := st) v) ?_
 rintro _ _ ⟨rfl, rfl⟩
 refine s_alloc (.agg #[.int .i64 0, .int .i64 0, .int .i64 0, .string ByteArray.empty, .int .i64 0]) #[.int .i64 0, .int .i64 0, .int .i64 0, .string ByteArray.empty, .int .i64 0] (fun g3 => ?_)
 refine s_store 0 #[.int .i64 ((hmeta st v).kind), .int .i64 ((hmeta st v).p), .int .i64 ((hmeta st v).q), .string ((hmeta st v).str), .int .i64 ((hmeta st v).ref)] ?_
 refine s_nt ?_
 refine k_seq ?_
 refine k_sr ?_
 refine sp (pB g3 0) ?_
 refine s_lt (t_load 0 (.int .i64 ((hmeta st v).kind))) ?_
 refine s_lt t_cmp ?_
 refine s_nt ?_
 refine k_cond (decide ((hmeta st v).kind = 0)) (fun c4 => ?_) (fun c4 => ?_)
 ·
  have p5 := of_decide_eq_true c4
  refine k_sr ?_
  refine s_lt (t_kern (.agg #[.int .i64 0, .int .i64 0, .int .i64 0, .string ByteArray.empty, .int .i64 0])) ?_
  refine s_store 2 #[.int .i64 0, .int .i64 0, .int .i64 0, .string ByteArray.empty, .int .i64 0] ?_
  refine s_nt ?_
  refine k_ret ?_
  refine xs_ret ?_
  refine xs_fin [.agg #[.int .i64 0, .int .i64 0, .int .i64 0, .string ByteArray.empty, .int .i64 0]] (hpA b st :: F) (SI.agg 6 26 2 SI.nil) (fun _ h => h.re [1] [1, 1, 1]) ⟨?_, rfl⟩
  unfold hdl; rw [if_pos (of_decide_eq_true c4)]; rfl
 ·
  have p6 := of_decide_eq_false c4
  refine k_st ?_
  refine k_seq ?_
  refine k_held [blkA g3 #[.int .i64 ((hmeta st v).kind), .int .i64 ((hmeta st v).p), .int .i64 ((hmeta st v).q), .string ((hmeta st v).str), .int .i64 ((hmeta st v).ref)] 26, blkA g2 #[.int .i64 0, .int .i64 0, .int .i64 0, .string ByteArray.empty, .int .i64 0] 26, blkA g1 #[.int .i64 v.kind, .int .i64 v.p, .int .i64 v.q, .string v.str, .int .i64 v.ref] 26] ?_
  refine hp_ 0 [0, 1, 1] (pB b 0) ?_
  refine h_l 1 rfl [0, 1, 1] (fun _ => (t_loadA 0 #[.int .i64 ((hmeta st v).kind), .int .i64 ((hmeta st v).p), .int .i64 ((hmeta st v).q), .string ((hmeta st v).str), .int .i64 ((hmeta st v).ref)])) ?_
  refine hp_ 2 [0, 1, 1] (.string ev) ?_
  refine h_join (ι := Nat) 2 #[true, true, true, true, true, true, true, true, true, false, false] (fun g7 => [(6, pB g2 0), (8, pB g7 0), (23, .agg #[.int .i64 ((hgetV st (hmeta st v) (strV ev)).kind), .int .i64 ((hgetV st (hmeta st v) (strV ev)).p), .int .i64 ((hgetV st (hmeta st v) (strV ev)).q), .string ((hgetV st (hmeta st v) (strV ev)).str), .int .i64 ((hgetV st (hmeta st v) (strV ev)).ref)]), (24, .int .i64 (hgetE st (hmeta st v)))]) (fun g7 => blkA g7 #[.int .i64 0, .int .i64 0, .int .i64 0, .string ByteArray.empty, .int .i64 0] 26 :: hpA b st :: blkA g3 #[.int .i64 ((hmeta st v).kind), .int .i64 ((hmeta st v).p), .int .i64 ((hmeta st v).q), .string ((hmeta st v).str), .int .i64 ((hmeta st v).ref)] 26 :: blkA g2 #[.int .i64 0, .int .i64 0, .int .i64 0, .string ByteArray.empty, .int .i64 0] 26 :: blkA g1 #[.int .i64 v.kind, .int .i64 v.p, .int .i64 v.q, .string v.str, .int .i64 v.ref] 26 :: F) ?_ (fun hj10 => ?_)
  ·
   rintro g7
   try dsimp only
   refine h_stepS 9 ?_
   refine s_store 0 #[.int .i64 ((hgetV st (hmeta st v) (strV ev)).kind), .int .i64 ((hgetV st (hmeta st v) (strV ev)).p), .int .i64 ((hgetV st (hmeta st v) (strV ev)).q), .string ((hgetV st (hmeta st v) (strV ev)).str), .int .i64 ((hgetV st (hmeta st v) (strV ev)).ref)] ?_
   refine s_nil (xs_held [2, 2, 2] ?_)
   refine hp_ 10 [2, 2, 2] (.int .i64 (hgetE st (hmeta st v))) ?_
   refine h_doneS ?_
   refine xs_then ?_
   refine k_sr ?_
   refine s_lt (t_loadA 0 #[.int .i64 ((hgetV st (hmeta st v) (strV ev)).kind), .int .i64 ((hgetV st (hmeta st v) (strV ev)).p), .int .i64 ((hgetV st (hmeta st v) (strV ev)).q), .string ((hgetV st (hmeta st v) (strV ev)).str), .int .i64 ((hgetV st (hmeta st v) (strV ev)).ref)]) ?_
   refine s_store 3 #[.int .i64 ((hgetV st (hmeta st v) (strV ev)).kind), .int .i64 ((hgetV st (hmeta st v) (strV ev)).p), .int .i64 ((hgetV st (hmeta st v) (strV ev)).q), .string ((hgetV st (hmeta st v) (strV ev)).str), .int .i64 ((hgetV st (hmeta st v) (strV ev)).ref)] ?_
   refine s_nt ?_
   refine k_ret ?_
   refine xs_fin [.agg #[.int .i64 ((hgetV st (hmeta st v) (strV ev)).kind), .int .i64 ((hgetV st (hmeta st v) (strV ev)).p), .int .i64 ((hgetV st (hmeta st v) (strV ev)).q), .string ((hgetV st (hmeta st v) (strV ev)).str), .int .i64 ((hgetV st (hmeta st v) (strV ev)).ref)]] (hpA b st :: F) (SI.agg 6 26 3 SI.nil) (fun _ h => h.re [1] [1, 1, 1, 1]) ⟨?_, rfl⟩
   unfold hdl; rw [if_neg (of_decide_eq_false c4)]; rfl
  refine h_join (ι := Nat) 6 #[true, true, true, true, false, false, false, false, true, false, false] (fun g8 => [(6, pB g2 0), (8, pB g8 0), (18, pB b 0), (19, .agg #[.int .i64 ((hmeta st v).kind), .int .i64 ((hmeta st v).p), .int .i64 ((hmeta st v).q), .string ((hmeta st v).str), .int .i64 ((hmeta st v).ref)]), (21, .agg #[.int .i64 ((strV ev).kind), .int .i64 ((strV ev).p), .int .i64 ((strV ev).q), .string ((strV ev).str), .int .i64 ((strV ev).ref)])]) (fun g8 => blkA g8 #[.int .i64 0, .int .i64 0, .int .i64 0, .string ByteArray.empty, .int .i64 0] 26 :: blkA g3 #[.int .i64 ((hmeta st v).kind), .int .i64 ((hmeta st v).p), .int .i64 ((hmeta st v).q), .string ((hmeta st v).str), .int .i64 ((hmeta st v).ref)] 26 :: hpA b st :: blkA g2 #[.int .i64 0, .int .i64 0, .int .i64 0, .string ByteArray.empty, .int .i64 0] 26 :: blkA g1 #[.int .i64 v.kind, .int .i64 v.p, .int .i64 v.q, .string v.str, .int .i64 v.ref] 26 :: F) ?_ (fun hj11 => ?_)
  ·
   rintro g8
   try dsimp only
   refine h_stepS 4 ?_
   refine s_call [2] (hget_s (st := st) hsm (by omega) (hmeta st v) (strV ev)) ?_
   rintro _ _ ⟨rfl, rfl⟩
   refine s_nil (xs_held [2, 2, 2] ?_)
   refine hp_ 5 [2, 2, 2] (.tuple #[.agg #[.int .i64 ((hgetV st (hmeta st v) (strV ev)).kind), .int .i64 ((hgetV st (hmeta st v) (strV ev)).p), .int .i64 ((hgetV st (hmeta st v) (strV ev)).q), .string ((hgetV st (hmeta st v) (strV ev)).str), .int .i64 ((hgetV st (hmeta st v) (strV ev)).ref)], .int .i64 (hgetE st (hmeta st v))]) ?_
   refine hp_ 6 [2, 2, 2] (.agg #[.int .i64 ((hgetV st (hmeta st v) (strV ev)).kind), .int .i64 ((hgetV st (hmeta st v) (strV ev)).p), .int .i64 ((hgetV st (hmeta st v) (strV ev)).q), .string ((hgetV st (hmeta st v) (strV ev)).str), .int .i64 ((hgetV st (hmeta st v) (strV ev)).ref)]) ?_
   refine hp_ 7 [2, 2, 2] (.int .i64 (hgetE st (hmeta st v))) ?_
   exact h_use hj10 g8 (fun _ h => h.re [1, 0, 0, 0, 0] [])
  refine h_stepS2 3 8 ?_ ?_
  ·
   refine s_vcall (fun _ h => ofstr_s ev) ?_
   rintro _ rfl
   refine s_nil (xs_held [0, 1, 1] ?_)
   refine h_stepS2 4 8 ?_ ?_
   ·
    refine s_call [1] (hget_s (st := st) hsm (by omega) (hmeta st v) (strV ev)) ?_
    rintro _ _ ⟨rfl, rfl⟩
    refine s_nil (xs_held [1, 1, 1] ?_)
    refine hp_ 5 [1, 1, 1] (.tuple #[.agg #[.int .i64 ((hgetV st (hmeta st v) (strV ev)).kind), .int .i64 ((hgetV st (hmeta st v) (strV ev)).p), .int .i64 ((hgetV st (hmeta st v) (strV ev)).q), .string ((hgetV st (hmeta st v) (strV ev)).str), .int .i64 ((hgetV st (hmeta st v) (strV ev)).ref)], .int .i64 (hgetE st (hmeta st v))]) ?_
    refine hp_ 6 [1, 1, 1] (.agg #[.int .i64 ((hgetV st (hmeta st v) (strV ev)).kind), .int .i64 ((hgetV st (hmeta st v) (strV ev)).p), .int .i64 ((hgetV st (hmeta st v) (strV ev)).q), .string ((hgetV st (hmeta st v) (strV ev)).str), .int .i64 ((hgetV st (hmeta st v) (strV ev)).ref)]) ?_
    refine hp_ 7 [1, 1, 1] (.int .i64 (hgetE st (hmeta st v))) ?_
    refine h_stepS 8 ?_
    refine s_alloc (.agg #[.int .i64 0, .int .i64 0, .int .i64 0, .string ByteArray.empty, .int .i64 0]) #[.int .i64 0, .int .i64 0, .int .i64 0, .string ByteArray.empty, .int .i64 0] (fun g12 => ?_)
    refine s_nil (xs_held [2, 2, 2] ?_)
    exact h_use hj10 g12 (fun _ h => h.re [0, 0, 0, 0, 0] [])
   ·
    refine s_alloc (.agg #[.int .i64 0, .int .i64 0, .int .i64 0, .string ByteArray.empty, .int .i64 0]) #[.int .i64 0, .int .i64 0, .int .i64 0, .string ByteArray.empty, .int .i64 0] (fun g13 => ?_)
    refine s_nil (xs_held [1, 2, 2] ?_)
    exact h_use hj11 g13 (fun _ h => h.re [0, 0, 0, 0, 0] [])
  ·
   refine s_alloc (.agg #[.int .i64 0, .int .i64 0, .int .i64 0, .string ByteArray.empty, .int .i64 0]) #[.int .i64 0, .int .i64 0, .int .i64 0, .string ByteArray.empty, .int .i64 0] (fun g14 => ?_)
   refine s_nil (xs_held [1, 2, 2] ?_)
   refine h_stepS 3 ?_
   refine s_vcall (fun _ h => ofstr_s ev) ?_
   rintro _ rfl
   refine s_nil (xs_held [1, 2, 2] ?_)
   exact h_use hj11 g14 (fun _ h => h.re [0, 0, 0, 0, 0] [])
theorem rhdl_s {Z : Zone} {F : List Asr} {b : Nat} {st : Hst} {n : Nat} (hsm : HSm n st) (hn : n ≤ 300) (v : Vl) (ev : ByteArray) : SF Try.prog 15 #[.pointer (some ⟨b, 0, none⟩), v.v, .string ev] Z (rhA b st :: F) fun r Bs => r = (hdl st v ev).v ∧ Bs = rhA b st :: F := by
 refine sf_enter Try.func15 35 [(0, pB b 0), (1, .agg #[.int .i64 v.kind, .int .i64 v.p, .int .i64 v.q, .string v.str, .int .i64 v.ref]), (2, .string ev)] (fun w0 => ?_)
 have hlen0 := hsm.len
 refine k_fact (fun H h => rh_inv (h.re [0] [])) (fun hi0 => ?_)
 refine k_sr ?_
 refine s_box #[.int .i64 v.kind, .int .i64 v.p, .int .i64 v.q, .string v.str, .int .i64 v.ref] (fun g1 => ?_)
 refine s_alloc (.agg #[.int .i64 0, .int .i64 0, .int .i64 0, .string ByteArray.empty, .int .i64 0]) #[.int .i64 0, .int .i64 0, .int .i64 0, .string ByteArray.empty, .int .i64 0] (fun g2 => ?_)
 refine s_nt ?_
 refine k_seq ?_
 refine k_cut (ι := Unit) (fun _ => True) (fun _ => [(0, pB b 0), (2, .string ev), (4, pB g1 0), (6, pB g2 0), (17, .bool ((decide (v.kind ≠ 4)) && (decide (v.kind ≠ 8))))]) (fun _ => blkA g2 #[.int .i64 0, .int .i64 0, .int .i64 0, .string ByteArray.empty, .int .i64 0] 26 :: blkA g1 #[.int .i64 v.kind, .int .i64 v.p, .int .i64 v.q, .string v.str, .int .i64 v.ref] 26 :: rhA b st :: F) ?_ (fun _ _ => ?_)
 ·
  refine k_reg ?_
  refine sp (pB g1 0) ?_
  refine s_lt (t_load 1 (.int .i64 v.kind)) ?_
  refine s_lt t_cmp ?_
  refine sp (.bool (decide (v.kind ≠ 4))) ?_
  refine s_fork 13 (decide (v.kind ≠ 4)) (fun c3 => ?_) (fun c3 => ?_)
  ·
   have p4 := of_decide_eq_true c3
   refine sp (pB g1 0) ?_
   refine s_lt (t_load 1 (.int .i64 v.kind)) ?_
   refine s_lt t_cmp ?_
   refine sp (.bool (decide (v.kind ≠ 8))) ?_
   refine s_nil ?_
   exact xs_cut () trivial (sub_of rfl ⟨⟨rfl, rfl⟩, ⟨⟨rfl, rfl⟩, ⟨⟨rfl, rfl⟩, ⟨⟨rfl, rfl⟩, ⟨⟨rfl, show Value.bool (decide (v.kind ≠ 8)) = Value.bool ((decide (v.kind ≠ 4)) && (decide (v.kind ≠ 8))) by first | (simp only [c3, bls]; done) | simp [c3]⟩, trivial⟩⟩⟩⟩⟩) (fun _ h => h.re [0, 0, 0] [])
  ·
   have p5 := Decidable.not_not.1 (of_decide_eq_false c3)
   refine s_skip ?_
   refine s_skip ?_
   refine s_skip ?_
   refine sp (.bool false) ?_
   refine s_nil ?_
   exact xs_cut () trivial (sub_of rfl ⟨⟨rfl, rfl⟩, ⟨⟨rfl, rfl⟩, ⟨⟨rfl, rfl⟩, ⟨⟨rfl, rfl⟩, ⟨⟨rfl, show Value.bool false = Value.bool ((decide (v.kind ≠ 4)) && (decide (v.kind ≠ 8))) by first | (simp only [c3, bls]; done) | simp [c3]⟩, trivial⟩⟩⟩⟩⟩) (fun _ h => h.re [0, 0, 0] [])
 ·
  refine k_cond ((decide (v.kind ≠ 4)) && (decide (v.kind ≠ 8))) (fun c6 => ?_) (fun c6 => ?_)
  ·
   obtain ⟨c7, c8⟩ := and_t c6
   have p9 := of_decide_eq_true c7
   have p10 := of_decide_eq_true c8
   refine k_sr ?_
   refine s_lt (t_kern (.agg #[.int .i64 0, .int .i64 0, .int .i64 0, .string ByteArray.empty, .int .i64 0])) ?_
   refine s_store 0 #[.int .i64 0, .int .i64 0, .int .i64 0, .string ByteArray.empty, .int .i64 0] ?_
   refine s_nt ?_
   refine k_ret ?_
   refine xs_ret ?_
   refine xs_fin [.agg #[.int .i64 0, .int .i64 0, .int .i64 0, .string ByteArray.empty, .int .i64 0]] (rhA b st :: F) (SI.agg 6 26 0 SI.nil) (fun _ h => h.re [2] [1, 1]) ⟨?_, rfl⟩
   have hm0 := hmeta_no hi0 (v := v) (.inr (by omega)) (.inr (by omega))
   unfold hdl; rw [hm0]; rfl
  ·
   have p11 := c6
   simp only [Bool.and_eq_true, Bool.or_eq_true, Bool.and_eq_false_iff, Bool.or_eq_false_iff, Bool.not_eq_true', Bool.not_eq_false', decide_eq_true_eq, decide_eq_false_iff_not] at p11
   refine k_st ?_
   refine k_sr ?_
   refine sp (pB b 0) ?_
   refine s_lt (t_loadA 1 #[.int .i64 v.kind, .int .i64 v.p, .int .i64 v.q, .string v.str, .int .i64 v.ref]) ?_
   refine s_call [2] (rhmeta_s (st := st) (by have := hsm.len; omega) v) ?_
   rintro _ _ ⟨rfl, rfl⟩
   refine s_alloc (.agg #[.int .i64 0, .int .i64 0, .int .i64 0, .string ByteArray.empty, .int .i64 0]) #[.int .i64 0, .int .i64 0, .int .i64 0, .string ByteArray.empty, .int .i64 0] (fun g12 => ?_)
   refine s_store 0 #[.int .i64 ((hmeta st v).kind), .int .i64 ((hmeta st v).p), .int .i64 ((hmeta st v).q), .string ((hmeta st v).str), .int .i64 ((hmeta st v).ref)] ?_
   refine s_nt ?_
   refine k_seq ?_
   refine k_sr ?_
   refine sp (pB g12 0) ?_
   refine s_lt (t_load 0 (.int .i64 ((hmeta st v).kind))) ?_
   refine s_lt t_cmp ?_
   refine s_nt ?_
   refine k_cond (decide ((hmeta st v).kind ≠ 4)) (fun c13 => ?_) (fun c13 => ?_)
   ·
    have p14 := of_decide_eq_true c13
    refine k_sr ?_
    refine s_lt (t_kern (.agg #[.int .i64 0, .int .i64 0, .int .i64 0, .string ByteArray.empty, .int .i64 0])) ?_
    refine s_store 2 #[.int .i64 0, .int .i64 0, .int .i64 0, .string ByteArray.empty, .int .i64 0] ?_
    refine s_nt ?_
    refine k_ret ?_
    refine xs_ret ?_
    refine xs_fin [.agg #[.int .i64 0, .int .i64 0, .int .i64 0, .string ByteArray.empty, .int .i64 0]] (rhA b st :: F) (SI.agg 6 26 2 SI.nil) (fun _ h => h.re [1] [1, 1, 1]) ⟨?_, rfl⟩
    have hk4 := of_decide_eq_true c13
    unfold hdl; rw [hget_kind hk4]; split <;> rfl
   ·
    have p15 := Decidable.not_not.1 (of_decide_eq_false c13)
    refine k_st ?_
    refine k_cut (ι := Nat) (fun _ => True) (fun jb8 => [(6, pB g2 0), (8, pB jb8 0)]) (fun jb8 => blkA jb8 #[.int .i64 ((hgetV st (hmeta st v) (strV ev)).kind), .int .i64 ((hgetV st (hmeta st v) (strV ev)).p), .int .i64 ((hgetV st (hmeta st v) (strV ev)).q), .string ((hgetV st (hmeta st v) (strV ev)).str), .int .i64 ((hgetV st (hmeta st v) (strV ev)).ref)] 26 :: blkA g12 #[.int .i64 ((hmeta st v).kind), .int .i64 ((hmeta st v).p), .int .i64 ((hmeta st v).q), .string ((hmeta st v).str), .int .i64 ((hmeta st v).ref)] 26 :: rhA b st :: blkA g2 #[.int .i64 0, .int .i64 0, .int .i64 0, .string ByteArray.empty, .int .i64 0] 26 :: blkA g1 #[.int .i64 v.kind, .int .i64 v.p, .int .i64 v.q, .string v.str, .int .i64 v.ref] 26 :: F) ?_ (fun ix _ => ?_)
    ·
     refine k_held [blkA g12 #[.int .i64 ((hmeta st v).kind), .int .i64 ((hmeta st v).p), .int .i64 ((hmeta st v).q), .string ((hmeta st v).str), .int .i64 ((hmeta st v).ref)] 26, blkA g2 #[.int .i64 0, .int .i64 0, .int .i64 0, .string ByteArray.empty, .int .i64 0] 26, blkA g1 #[.int .i64 v.kind, .int .i64 v.p, .int .i64 v.q, .string v.str, .int .i64 v.ref] 26] ?_
     refine hp_ 0 [0, 1, 1] (pB b 0) ?_
     refine h_l 1 rfl [0, 1, 1] (fun _ => (t_loadA 0 #[.int .i64 ((hmeta st v).kind), .int .i64 ((hmeta st v).p), .int .i64 ((hmeta st v).q), .string ((hmeta st v).str), .int .i64 ((hmeta st v).ref)])) ?_
     refine hp_ 2 [0, 1, 1] (.string ev) ?_
     refine h_stepS2 3 8 ?_ ?_
     ·
      refine s_vcall (fun _ h => rtext_s ev) ?_
      rintro _ rfl
      refine s_nil (xs_held [0, 1, 1] ?_)
      refine h_stepS2 4 8 ?_ ?_
      ·
       refine s_call [1] (rhget_s (st := st) hsm (by omega) (hmeta st v) (strV ev)) ?_
       rintro _ _ ⟨rfl, rfl⟩
       refine s_nil (xs_held [1, 1, 1] ?_)
       refine hp_ 5 [1, 1, 1] (.tuple #[.agg #[.int .i64 ((hgetV st (hmeta st v) (strV ev)).kind), .int .i64 ((hgetV st (hmeta st v) (strV ev)).p), .int .i64 ((hgetV st (hmeta st v) (strV ev)).q), .string ((hgetV st (hmeta st v) (strV ev)).str), .int .i64 ((hgetV st (hmeta st v) (strV ev)).ref)], .int .i64 (hgetE st (hmeta st v))]) ?_
       refine hp_ 6 [1, 1, 1] (.agg #[.int .i64 ((hgetV st (hmeta st v) (strV ev)).kind), .int .i64 ((hgetV st (hmeta st v) (strV ev)).p), .int .i64 ((hgetV st (hmeta st v) (strV ev)).q), .string ((hgetV st (hmeta st v) (strV ev)).str), .int .i64 ((hgetV st (hmeta st v) (strV ev)).ref)]) ?_
       refine hp_ 7 [1, 1, 1] (.int .i64 (hgetE st (hmeta st v))) ?_
       refine h_stepS 8 ?_
       refine s_alloc (.agg #[.int .i64 0, .int .i64 0, .int .i64 0, .string ByteArray.empty, .int .i64 0]) #[.int .i64 0, .int .i64 0, .int .i64 0, .string ByteArray.empty, .int .i64 0] (fun g16 => ?_)
       refine s_nil (xs_held [2, 2, 2] ?_)
       refine h_stepS 9 ?_
       refine s_store 0 #[.int .i64 ((hgetV st (hmeta st v) (strV ev)).kind), .int .i64 ((hgetV st (hmeta st v) (strV ev)).p), .int .i64 ((hgetV st (hmeta st v) (strV ev)).q), .string ((hgetV st (hmeta st v) (strV ev)).str), .int .i64 ((hgetV st (hmeta st v) (strV ev)).ref)] ?_
       refine s_nil (xs_held [2, 2, 2] ?_)
       refine hp_ 10 [2, 2, 2] (.int .i64 (hgetE st (hmeta st v))) ?_
       refine h_doneS ?_
       exact xcut g16 (fun _ h => h.re [0, 1, 0, 0, 0] [])
      ·
       refine s_alloc (.agg #[.int .i64 0, .int .i64 0, .int .i64 0, .string ByteArray.empty, .int .i64 0]) #[.int .i64 0, .int .i64 0, .int .i64 0, .string ByteArray.empty, .int .i64 0] (fun g17 => ?_)
       refine s_nil (xs_held [1, 2, 2] ?_)
       refine h_stepS 4 ?_
       refine s_call [2] (rhget_s (st := st) hsm (by omega) (hmeta st v) (strV ev)) ?_
       rintro _ _ ⟨rfl, rfl⟩
       refine s_nil (xs_held [2, 2, 2] ?_)
       refine hp_ 5 [2, 2, 2] (.tuple #[.agg #[.int .i64 ((hgetV st (hmeta st v) (strV ev)).kind), .int .i64 ((hgetV st (hmeta st v) (strV ev)).p), .int .i64 ((hgetV st (hmeta st v) (strV ev)).q), .string ((hgetV st (hmeta st v) (strV ev)).str), .int .i64 ((hgetV st (hmeta st v) (strV ev)).ref)], .int .i64 (hgetE st (hmeta st v))]) ?_
       refine hp_ 6 [2, 2, 2] (.agg #[.int .i64 ((hgetV st (hmeta st v) (strV ev)).kind), .int .i64 ((hgetV st (hmeta st v) (strV ev)).p), .int .i64 ((hgetV st (hmeta st v) (strV ev)).q), .string ((hgetV st (hmeta st v) (strV ev)).str), .int .i64 ((hgetV st (hmeta st v) (strV ev)).ref)]) ?_
       refine hp_ 7 [2, 2, 2] (.int .i64 (hgetE st (hmeta st v))) ?_
       refine h_stepS 9 ?_
       refine s_store 1 #[.int .i64 ((hgetV st (hmeta st v) (strV ev)).kind), .int .i64 ((hgetV st (hmeta st v) (strV ev)).p), .int .i64 ((hgetV st (hmeta st v) (strV ev)).q), .string ((hgetV st (hmeta st v) (strV ev)).str), .int .i64 ((hgetV st (hmeta st v) (strV ev)).ref)] ?_
       refine s_nil (xs_held [2, 2, 2] ?_)
       refine hp_ 10 [2, 2, 2] (.int .i64 (hgetE st (hmeta st v))) ?_
       refine h_doneS ?_
       exact xcut g17 (fun _ h => h.re [1, 1, 0, 0, 0] [])
     ·
      refine s_alloc (.agg #[.int .i64 0, .int .i64 0, .int .i64 0, .string ByteArray.empty, .int .i64 0]) #[.int .i64 0, .int .i64 0, .int .i64 0, .string ByteArray.empty, .int .i64 0] (fun g18 => ?_)
      refine s_nil (xs_held [1, 2, 2] ?_)
      refine h_stepS 3 ?_
      refine s_vcall (fun _ h => rtext_s ev) ?_
      rintro _ rfl
      refine s_nil (xs_held [1, 2, 2] ?_)
      refine h_stepS 4 ?_
      refine s_call [2] (rhget_s (st := st) hsm (by omega) (hmeta st v) (strV ev)) ?_
      rintro _ _ ⟨rfl, rfl⟩
      refine s_nil (xs_held [2, 2, 2] ?_)
      refine hp_ 5 [2, 2, 2] (.tuple #[.agg #[.int .i64 ((hgetV st (hmeta st v) (strV ev)).kind), .int .i64 ((hgetV st (hmeta st v) (strV ev)).p), .int .i64 ((hgetV st (hmeta st v) (strV ev)).q), .string ((hgetV st (hmeta st v) (strV ev)).str), .int .i64 ((hgetV st (hmeta st v) (strV ev)).ref)], .int .i64 (hgetE st (hmeta st v))]) ?_
      refine hp_ 6 [2, 2, 2] (.agg #[.int .i64 ((hgetV st (hmeta st v) (strV ev)).kind), .int .i64 ((hgetV st (hmeta st v) (strV ev)).p), .int .i64 ((hgetV st (hmeta st v) (strV ev)).q), .string ((hgetV st (hmeta st v) (strV ev)).str), .int .i64 ((hgetV st (hmeta st v) (strV ev)).ref)]) ?_
      refine hp_ 7 [2, 2, 2] (.int .i64 (hgetE st (hmeta st v))) ?_
      refine h_stepS 9 ?_
      refine s_store 1 #[.int .i64 ((hgetV st (hmeta st v) (strV ev)).kind), .int .i64 ((hgetV st (hmeta st v) (strV ev)).p), .int .i64 ((hgetV st (hmeta st v) (strV ev)).q), .string ((hgetV st (hmeta st v) (strV ev)).str), .int .i64 ((hgetV st (hmeta st v) (strV ev)).ref)] ?_
      refine s_nil (xs_held [2, 2, 2] ?_)
      refine hp_ 10 [2, 2, 2] (.int .i64 (hgetE st (hmeta st v))) ?_
      refine h_doneS ?_
      exact xcut g18 (fun _ h => h.re [1, 1, 0, 0, 0] [])
    ·
     revert ix; intro jb8
     show SK _ _ _ _ _ [(6, .pointer (some ⟨g2, 0, none⟩)), (8, .pointer (some ⟨jb8, 0, none⟩))] _ (blkA jb8 #[.int .i64 ((hgetV st (hmeta st v) (strV ev)).kind), .int .i64 ((hgetV st (hmeta st v) (strV ev)).p), .int .i64 ((hgetV st (hmeta st v) (strV ev)).q), .string ((hgetV st (hmeta st v) (strV ev)).str), .int .i64 ((hgetV st (hmeta st v) (strV ev)).ref)] 26 :: blkA g12 #[.int .i64 ((hmeta st v).kind), .int .i64 ((hmeta st v).p), .int .i64 ((hmeta st v).q), .string ((hmeta st v).str), .int .i64 ((hmeta st v).ref)] 26 :: rhA b st :: blkA g2 #[.int .i64 0, .int .i64 0, .int .i64 0, .string ByteArray.empty, .int .i64 0] 26 :: blkA g1 #[.int .i64 v.kind, .int .i64 v.p, .int .i64 v.q, .string v.str, .int .i64 v.ref] 26 :: F)
     refine k_sr ?_
     refine s_lt (t_loadA 0 #[.int .i64 ((hgetV st (hmeta st v) (strV ev)).kind), .int .i64 ((hgetV st (hmeta st v) (strV ev)).p), .int .i64 ((hgetV st (hmeta st v) (strV ev)).q), .string ((hgetV st (hmeta st v) (strV ev)).str), .int .i64 ((hgetV st (hmeta st v) (strV ev)).ref)]) ?_
     refine s_store 3 #[.int .i64 ((hgetV st (hmeta st v) (strV ev)).kind), .int .i64 ((hgetV st (hmeta st v) (strV ev)).p), .int .i64 ((hgetV st (hmeta st v) (strV ev)).q), .string ((hgetV st (hmeta st v) (strV ev)).str), .int .i64 ((hgetV st (hmeta st v) (strV ev)).ref)] ?_
     refine s_nt ?_
     refine k_ret ?_
     refine xs_fin [.agg #[.int .i64 ((hgetV st (hmeta st v) (strV ev)).kind), .int .i64 ((hgetV st (hmeta st v) (strV ev)).p), .int .i64 ((hgetV st (hmeta st v) (strV ev)).q), .string ((hgetV st (hmeta st v) (strV ev)).str), .int .i64 ((hgetV st (hmeta st v) (strV ev)).ref)]] (rhA b st :: F) (SI.agg 6 26 3 SI.nil) (fun _ h => h.re [2] [1, 1, 1, 1]) ⟨?_, rfl⟩
     have hk4 := Decidable.not_not.1 (of_decide_eq_false c13)
     unfold hdl; rw [if_neg (by omega)]; rfl
/-- The value of a specification. -/
def ofS (L : List Vl) (s : Spc) : Vl := if 0 < s.obj ∧ 0 < L.length then (L[(Int.tmod s.obj (L.length : Int)).toNat]?).getD zVl else s.v
theorem ofS_in {L : List Vl} {s : Spc} {y : Vl} (h1 : 0 < s.obj) (h2 : 0 < L.length) (hy : L[(Int.tmod s.obj (L.length : Int)).toNat]? = some y) : ofS L s = y := by unfold ofS; rw [if_pos ⟨h1, h2⟩, hy]; rfl
theorem ofS_out {L : List Vl} {s : Spc} (h : ¬ (0 < s.obj ∧ 0 < L.length)) : ofS L s = s.v := by unfold ofS; rw [if_neg h]
theorem tmod_lt {a : Int} {n : Nat} (ha : 0 < a) (hn : 0 < n) : 0 ≤ Int.tmod a n ∧ Int.tmod a n < n := ⟨Int.tmod_nonneg _ (by omega), Int.tmod_lt_of_pos _ (by omega)⟩
theorem of_s {Z : Zone} {F : List Asr} {hv gv lv : Value} {L : List Vl} (hl : L.length ≤ 100000) (s : Spc) : SF Try.prog 13 #[.agg #[hv, gv, lv], s.w] Z (own VlT lv L :: F) fun r Bs => r = (ofS L s).v ∧ Bs = own VlT lv L :: F := by
 refine sf_enter Try.func13 26 [(0, .agg #[hv, gv, lv]), (1, .agg #[.int .i64 s.v.kind, .int .i64 s.v.p, .int .i64 s.v.q, .string s.v.str, .int .i64 s.v.ref, .int .i64 s.obj])] (fun w0 => ?_)
 refine k_sr ?_
 refine s_box #[hv, gv, lv] (fun g1 => ?_)
 refine s_box #[.int .i64 s.v.kind, .int .i64 s.v.p, .int .i64 s.v.q, .string s.v.str, .int .i64 s.v.ref, .int .i64 s.obj] (fun g2 => ?_)
 refine s_alloc (.agg #[.int .i64 0, .int .i64 0, .int .i64 0, .string ByteArray.empty, .int .i64 0]) #[.int .i64 0, .int .i64 0, .int .i64 0, .string ByteArray.empty, .int .i64 0] (fun g3 => ?_)
 refine s_nt ?_
 refine k_seq ?_
 refine k_cut (ι := Unit) (fun _ => True) (fun _ => [(2, pB g1 0), (3, pB g2 0), (4, pB g3 0), (13, .bool ((decide ((0 : Int) < s.obj)) && (decide ((0 : Int) < (L.length : Int)))))]) (fun _ => blkA g3 #[.int .i64 0, .int .i64 0, .int .i64 0, .string ByteArray.empty, .int .i64 0] 26 :: blkA g2 #[.int .i64 s.v.kind, .int .i64 s.v.p, .int .i64 s.v.q, .string s.v.str, .int .i64 s.v.ref, .int .i64 s.obj] 28 :: blkA g1 #[hv, gv, lv] 35 :: own VlT lv L :: F) ?_ (fun _ _ => ?_)
 ·
  refine k_reg ?_
  refine sp (pB g2 5) ?_
  refine s_lt (t_load 1 (.int .i64 s.obj)) ?_
  refine s_lt t_cmp ?_
  refine sp (.bool (decide ((0 : Int) < s.obj))) ?_
  refine s_fork 8 (decide ((0 : Int) < s.obj)) (fun c4 => ?_) (fun c4 => ?_)
  ·
   have p5 := of_decide_eq_true c4
   refine sp (pB g1 2) ?_
   refine s_lt (t_load 2 lv) ?_
   refine s_lt (t_len VlT_ok Try.underlying33 (.own 3)) ?_
   refine s_lt t_cmp ?_
   refine sp (.bool (decide ((0 : Int) < (L.length : Int)))) ?_
   refine s_nil ?_
   exact xs_cut () trivial (sub_of rfl ⟨⟨rfl, rfl⟩, ⟨⟨rfl, rfl⟩, ⟨⟨rfl, rfl⟩, ⟨⟨rfl, show Value.bool (decide ((0 : Int) < (L.length : Int))) = Value.bool ((decide ((0 : Int) < s.obj)) && (decide ((0 : Int) < (L.length : Int)))) by first | (simp only [c4, bls]; done) | simp [c4]⟩, trivial⟩⟩⟩⟩) (fun _ h => h.re [0, 0, 0, 0] [])
  ·
   have p6 := of_decide_eq_false c4
   refine s_skip ?_
   refine s_skip ?_
   refine s_skip ?_
   refine s_skip ?_
   refine sp (.bool false) ?_
   refine s_nil ?_
   exact xs_cut () trivial (sub_of rfl ⟨⟨rfl, rfl⟩, ⟨⟨rfl, rfl⟩, ⟨⟨rfl, rfl⟩, ⟨⟨rfl, show Value.bool false = Value.bool ((decide ((0 : Int) < s.obj)) && (decide ((0 : Int) < (L.length : Int)))) by first | (simp only [c4, bls]; done) | simp [c4]⟩, trivial⟩⟩⟩⟩) (fun _ h => h.re [0, 0, 0, 0] [])
 ·
  refine k_cond ((decide ((0 : Int) < s.obj)) && (decide ((0 : Int) < (L.length : Int)))) (fun c7 => ?_) (fun c7 => ?_)
  ·
   obtain ⟨c8, c9⟩ := and_t c7
   have p10 := of_decide_eq_true c8
   have p11 := of_decide_eq_true c9
   refine k_seq ?_
   refine k_draw ?_
   refine sp (pB g1 2) ?_
   refine s_lt (t_load 2 lv) ?_
   refine sp (pB g2 5) ?_
   refine s_lt (t_load 1 (.int .i64 s.obj)) ?_
   refine sp (pB g1 2) ?_
   refine s_lt (t_load 2 lv) ?_
   refine s_fact (fun H h => ((Acc.own (T := VlT) (L := L) 3 rfl) H h).form) (fun hf12 => ?_)
   refine s_lt (t_len VlT_ok Try.underlying33 (.own 3)) ?_
   obtain ⟨htm1, htm2⟩ := tmod_lt (a := s.obj) (n := L.length) (by omega) (by omega)
   refine s_lt (t_rem s.obj (L.length : Int) (by omega)) ?_
   refine s_lt (t_index VlT_ok Try.underlying33 (.own 3) (Int.tmod s.obj (L.length : Int)) (((Int.tmod s.obj (L.length : Int))).toNat) (by omega) (by (try simp only [lnm]); omega) (by omega)) ?_
   obtain ⟨y13, hy14⟩ : ∃ y, L[((Int.tmod s.obj (L.length : Int))).toNat]? = some y := ⟨_, List.getElem?_eq_getElem (by (try simp only [lnm]); omega)⟩
   refine s_lt (t_loadE VlT_ok (.own 3) hy14) ?_
   refine s_store 0 #[.int .i64 y13.kind, .int .i64 y13.p, .int .i64 y13.q, .string y13.str, .int .i64 y13.ref] ?_
   refine s_nil ?_
   refine x_dynS (fun _ h => by obtain ⟨_, _, e⟩ := hf12; subst e; kernel_rfl) ?_
   refine xs_then ?_
   refine k_ret ?_
   refine xs_ret ?_
   refine xs_fin [.agg #[.int .i64 y13.kind, .int .i64 y13.p, .int .i64 y13.q, .string y13.str, .int .i64 y13.ref]] (own VlT lv L :: F) (SI.agg 4 26 0 SI.nil) (fun _ h => h.re [3] [1, 1, 1]) ⟨?_, rfl⟩
   rw [ofS_in (by omega) (by omega) hy14]; rfl
  ·
   have p15 := c7
   simp only [Bool.and_eq_true, Bool.or_eq_true, Bool.and_eq_false_iff, Bool.or_eq_false_iff, Bool.not_eq_true', Bool.not_eq_false', decide_eq_true_eq, decide_eq_false_iff_not] at p15
   refine k_st ?_
   refine k_sr ?_
   refine sp (pB g2 0) ?_
   refine s_lt (t_loadA 1 #[.int .i64 s.v.kind, .int .i64 s.v.p, .int .i64 s.v.q, .string s.v.str, .int .i64 s.v.ref]) ?_
   refine s_store 0 #[.int .i64 s.v.kind, .int .i64 s.v.p, .int .i64 s.v.q, .string s.v.str, .int .i64 s.v.ref] ?_
   refine s_nt ?_
   refine k_ret ?_
   refine xs_fin [.agg #[.int .i64 s.v.kind, .int .i64 s.v.p, .int .i64 s.v.q, .string s.v.str, .int .i64 s.v.ref]] (own VlT lv L :: F) (SI.agg 4 26 0 SI.nil) (fun _ h => h.re [3] [1, 1, 1]) ⟨?_, rfl⟩
   rw [ofS_out (by omega)]; rfl
theorem large_pre {A X : List Spc} {P : Spc → Prop} (h : A <+: X) (hP : ∀ s ∈ X, P s) : ∀ s ∈ A, P s := fun s hs => hP s (h.subset hs)
theorem large_step {X : List Spc} {i : Nat} {y : Spc} (h : ∀ s ∈ X.take i, (s.v.str.size : Int) ≤ 5000) (hy : X[i]? = some y) (h2 : (y.v.str.size : Int) ≤ 5000) : ∀ s ∈ X.take (i + 1), (s.v.str.size : Int) ≤ 5000 := fun s hs => by
  rw [List.take_add_one, hy] at hs
  rcases List.mem_append.1 hs with hs | hs
  · exact h s hs
  · rw [Option.toList_some, List.mem_singleton] at hs; rw [hs]; exact h2
theorem large_s {Z : Zone} {F : List Asr} {lv mv : Value} {l : List Opc} {M : List Spc} (hl0 : Kn Z OpT lv l) (hM : M.length ≤ 100000) : SF Try.prog 10 #[lv, mv] Z (own SpT mv M :: F) fun r Bs => ∃ x, r = .bool x ∧ (x = false → ∀ s ∈ M, (s.v.str.size : Int) ≤ 5000) ∧ Bs = F := by
 refine sf_enter Try.func10 49 [(0, lv), (1, mv)] (fun w0 => ?_)
 refine k_fact (fun H h => (hl0.get h).len_le) (fun lA => ?_)
 refine k_sr ?_
 refine sp (.bool false) ?_
 refine s_nt ?_
 refine k_seq ?_
 refine k_sr ?_
 refine sp (.int .i64 0) ?_
 refine s_nt ?_
 refine k_block ?_
 refine k_loop (ι := Value × List Spc × Nat) (fun (xv, X, i) => M <+: X ∧ i ≤ 100 ∧ X.length ≤ M.length + 3 * i) (fun (xv, X, i) => [(0, lv), (1, xv), (5, .int .i64 (i : Int))]) (fun (xv, X, i) => own SpT xv X :: F) (fun (xv, X, i) => 100 - i) (mv, M, 0) ⟨List.prefix_refl _, by omega, by omega⟩ (sub_of rfl ⟨⟨rfl, rfl⟩, ⟨⟨rfl, rfl⟩, ⟨⟨rfl, rfl⟩, trivial⟩⟩⟩) (fun _ h => h.re [0] []) ?_
 rintro ⟨xv, X, i⟩ hi1
 replace hi1 : M <+: X ∧ i ≤ 100 ∧ X.length ≤ M.length + 3 * i := hi1
 show SK _ _ _ _ _ [(0, lv), (1, xv), (5, .int .i64 (i : Int))] _ (own SpT xv X :: F)
 refine k_seq ?_
 refine k_cut (ι := Unit) (fun _ => True) (fun _ => [(0, lv), (1, xv), (5, .int .i64 (i : Int)), (14, .bool ((decide ((i : Int) < (l.length : Int))) && (decide ((i : Int) < 100))))]) (fun _ => own SpT xv X :: F) ?_ (fun _ _ => ?_)
 ·
  refine k_reg ?_
  refine sp (.int .i64 (i : Int)) ?_
  refine sp lv ?_
  refine s_lt (t_len OpT_ok Try.underlying22 (.zn hl0)) ?_
  refine s_lt t_cmp ?_
  refine sp (.bool (decide ((i : Int) < (l.length : Int)))) ?_
  refine s_fork 11 (decide ((i : Int) < (l.length : Int))) (fun c2 => ?_) (fun c2 => ?_)
  ·
   have p3 := of_decide_eq_true c2
   refine sp (.int .i64 (i : Int)) ?_
   refine s_lt t_cmp ?_
   refine sp (.bool (decide ((i : Int) < 100))) ?_
   refine s_nil ?_
   exact xs_cut () trivial (sub_of rfl ⟨⟨rfl, rfl⟩, ⟨⟨rfl, rfl⟩, ⟨⟨rfl, rfl⟩, ⟨⟨rfl, show Value.bool (decide ((i : Int) < 100)) = Value.bool ((decide ((i : Int) < (l.length : Int))) && (decide ((i : Int) < 100))) by first | (simp only [c2, bls]; done) | simp [c2]⟩, trivial⟩⟩⟩⟩) (fun _ h => h.re [0] [])
  ·
   have p4 := of_decide_eq_false c2
   refine s_skip ?_
   refine s_skip ?_
   refine sp (.bool false) ?_
   refine s_nil ?_
   exact xs_cut () trivial (sub_of rfl ⟨⟨rfl, rfl⟩, ⟨⟨rfl, rfl⟩, ⟨⟨rfl, rfl⟩, ⟨⟨rfl, show Value.bool false = Value.bool ((decide ((i : Int) < (l.length : Int))) && (decide ((i : Int) < 100))) by first | (simp only [c2, bls]; done) | simp [c2]⟩, trivial⟩⟩⟩⟩) (fun _ h => h.re [0] [])
 ·
  refine k_cond ((decide ((i : Int) < (l.length : Int))) && (decide ((i : Int) < 100))) (fun c5 => ?_) (fun c5 => ?_)
  ·
   obtain ⟨c6, c7⟩ := and_t c5
   have p8 := of_decide_eq_true c6
   have p9 := of_decide_eq_true c7
   refine k_st ?_
   refine k_seq ?_
   refine k_block ?_
   refine k_draw ?_
   refine sp xv ?_
   refine sp lv ?_
   refine sp (.int .i64 (i : Int)) ?_
   refine s_lt (t_index OpT_ok Try.underlying22 (.zn hl0) (i : Int) i (by omega) (by (try simp only [lnm]); omega) (by omega)) ?_
   refine sp (.pointer (some ((elemAt OpT.size lv i).add 1))) ?_
   obtain ⟨y10, hy11⟩ : ∃ y, l[i]? = some y := ⟨_, List.getElem?_eq_getElem (by (try simp only [lnm]); omega)⟩
   refine s_lt (t_loadG 1 #[.int .i64 y10.a.v.kind, .int .i64 y10.a.v.p, .int .i64 y10.a.v.q, .string y10.a.v.str, .int .i64 y10.a.v.ref, .int .i64 y10.a.obj] OpT_ok (.zn hl0) hy11) ?_
   refine sp lv ?_
   refine sp (.int .i64 (i : Int)) ?_
   refine s_lt (t_index OpT_ok Try.underlying22 (.zn hl0) (i : Int) i (by omega) (by (try simp only [lnm]); omega) (by omega)) ?_
   refine sp (.pointer (some ((elemAt OpT.size lv i).add 7))) ?_
   refine s_lt (t_loadG 7 #[.int .i64 y10.b.v.kind, .int .i64 y10.b.v.p, .int .i64 y10.b.v.q, .string y10.b.v.str, .int .i64 y10.b.v.ref, .int .i64 y10.b.obj] OpT_ok (.zn hl0) hy11) ?_
   refine sp lv ?_
   refine sp (.int .i64 (i : Int)) ?_
   refine s_lt (t_index OpT_ok Try.underlying22 (.zn hl0) (i : Int) i (by omega) (by (try simp only [lnm]); omega) (by omega)) ?_
   refine sp (.pointer (some ((elemAt OpT.size lv i).add 13))) ?_
   refine s_lt (t_loadG 13 #[.int .i64 y10.c.v.kind, .int .i64 y10.c.v.p, .int .i64 y10.c.v.q, .string y10.c.v.str, .int .i64 y10.c.v.ref, .int .i64 y10.c.obj] OpT_ok (.zn hl0) hy11) ?_
   refine s_buildSlice (e := 28) [(0, .agg #[.int .i64 y10.a.v.kind, .int .i64 y10.a.v.p, .int .i64 y10.a.v.q, .string y10.a.v.str, .int .i64 y10.a.v.ref, .int .i64 y10.a.obj]), (1, .agg #[.int .i64 y10.b.v.kind, .int .i64 y10.b.v.p, .int .i64 y10.b.v.q, .string y10.b.v.str, .int .i64 y10.b.v.ref, .int .i64 y10.b.obj]), (2, .agg #[.int .i64 y10.c.v.kind, .int .i64 y10.c.v.p, .int .i64 y10.c.v.q, .string y10.c.v.str, .int .i64 y10.c.v.ref, .int .i64 y10.c.obj])] #[.int .i64 y10.a.v.kind, .int .i64 y10.a.v.p, .int .i64 y10.a.v.q, .string y10.a.v.str, .int .i64 y10.a.v.ref, .int .i64 y10.a.obj, .int .i64 y10.b.v.kind, .int .i64 y10.b.v.p, .int .i64 y10.b.v.q, .string y10.b.v.str, .int .i64 y10.b.v.ref, .int .i64 y10.b.obj, .int .i64 y10.c.v.kind, .int .i64 y10.c.v.p, .int .i64 y10.c.v.q, .string y10.c.v.str, .int .i64 y10.c.v.ref, .int .i64 y10.c.obj] (fun g12 => ?_) (hb := by kernel_rfl)
   refine s_append (L := X) 1 SpT_ok Try.underlying42 (.lit 0 SpT_ok [y10.a, y10.b, y10.c]) (by show _ * 56 ≤ _; (try simp only [lnm]); omega) (by (try simp only [lnm]); omega) (fun v13 => ?_)
   refine sp v13 ?_
   refine s_nil ?_
   refine x_dynS (fun _ h => by kernel_rfl) ?_
   refine xs_block ?_
   refine xs_then ?_
   refine k_reg ?_
   refine sp (.int .i64 (i : Int)) ?_
   refine s_lt (t_add (i : Int) 1 (by (try simp only [lnm]); omega)) ?_
   refine sp (.int .i64 ((i : Int) + 1)) ?_
   refine s_nil ?_
   exact xs_round (v13, (X ++ [y10.a, y10.b, y10.c]), i + 1) (by show 100 - (i + 1) < 100 - i; omega) (by show _ <+: _ ∧ _; exact ⟨hi1.1.trans (List.prefix_append _ _), by show i + 1 ≤ 100; omega, by simp only [lnm]; omega⟩) (sub_of rfl ⟨⟨rfl, rfl⟩, ⟨⟨rfl, rfl⟩, ⟨⟨rfl, rfl⟩, trivial⟩⟩⟩) (fun _ h => h.re [1] [1])
  ·
   have p14 := c5
   simp only [Bool.and_eq_true, Bool.or_eq_true, Bool.and_eq_false_iff, Bool.or_eq_false_iff, Bool.not_eq_true', Bool.not_eq_false', decide_eq_true_eq, decide_eq_false_iff_not] at p14
   refine k_exit ?_
   refine xs_exit ?_
   refine xs_exit ?_
   refine xs_here ?_
   refine xs_then ?_
   refine k_seq ?_
   refine k_sr ?_
   refine sp (.int .i64 0) ?_
   refine s_nt ?_
   refine k_block ?_
   refine k_loop (ι := Nat) (fun j => j ≤ X.length ∧ ∀ s ∈ X.take j, (s.v.str.size : Int) ≤ 5000) (fun j => [(1, xv), (6, .int .i64 (j : Int))]) (fun j => own SpT xv X :: F) (fun j => X.length - j) 0 ⟨by omega, by simp⟩ (sub_of rfl ⟨⟨rfl, rfl⟩, ⟨⟨rfl, rfl⟩, trivial⟩⟩) (fun _ h => h.re [0] []) ?_
   rintro j hi15
   show SK _ _ _ _ _ [(1, xv), (6, .int .i64 (j : Int))] _ (own SpT xv X :: F)
   refine k_seq ?_
   refine k_sr ?_
   refine sp (.int .i64 (j : Int)) ?_
   refine sp xv ?_
   refine s_lt (t_len SpT_ok Try.underlying42 (.own 0)) ?_
   refine s_lt t_cmp ?_
   refine s_nt ?_
   refine k_cond (decide ((j : Int) < (X.length : Int))) (fun c16 => ?_) (fun c16 => ?_)
   ·
    have p17 := of_decide_eq_true c16
    refine k_st ?_
    refine k_seq ?_
    refine k_block ?_
    refine k_sr ?_
    refine sp xv ?_
    refine sp (.int .i64 (j : Int)) ?_
    refine s_lt (t_index SpT_ok Try.underlying42 (.own 0) (j : Int) j (by omega) (by (try simp only [lnm]); omega) (by omega)) ?_
    refine sp (.pointer (some (elemAt SpT.size xv j))) ?_
    refine sp (.pointer (some ((elemAt SpT.size xv j).add 3))) ?_
    obtain ⟨y18, hy19⟩ : ∃ y, X[j]? = some y := ⟨_, List.getElem?_eq_getElem (by (try simp only [lnm]); omega)⟩
    refine s_lt (t_loadF 3 SpT_ok (.own 0) hy19) ?_
    refine s_lt (t_kern (.int .i64 (y18.v.str.size : Int))) ?_
    refine s_lt t_cmp ?_
    refine s_nt ?_
    refine k_cond (decide ((5000 : Int) < (y18.v.str.size : Int))) (fun c20 => ?_) (fun c20 => ?_)
    ·
     have p21 := of_decide_eq_true c20
     refine k_sr ?_
     refine sp (.bool true) ?_
     refine s_nt ?_
     refine k_ret ?_
     refine xs_retBlock ?_
     refine xs_ret ?_
     refine xs_ret ?_
     refine xs_retBlock ?_
     refine xs_ret ?_
     exact xs_fin [.bool true] F (SI.tmp 4 SI.nil) (fun _ h => h.re [] [0]) ⟨true, rfl, (fun h => by cases h), rfl⟩
    ·
     have p22 := of_decide_eq_false c20
     refine k_skip ?_
     refine xs_block ?_
     refine xs_then ?_
     refine k_reg ?_
     refine sp (.int .i64 (j : Int)) ?_
     refine s_lt (t_add (j : Int) 1 (by (try simp only [lnm]); omega)) ?_
     refine sp (.int .i64 ((j : Int) + 1)) ?_
     refine s_nil ?_
     exact xs_round (j + 1) (by omega) ⟨by omega, large_step hi15.2 hy19 (by omega)⟩ (sub_of rfl ⟨⟨rfl, rfl⟩, ⟨⟨rfl, rfl⟩, trivial⟩⟩) (fun _ h => h.re [0] [])
   ·
    have p23 := of_decide_eq_false c16
    refine k_exit ?_
    refine xs_exit ?_
    refine xs_exit ?_
    refine xs_here ?_
    refine xs_then ?_
    refine k_sr ?_
    refine sp (.bool false) ?_
    refine s_nt ?_
    refine k_ret ?_
    refine xs_fin [.bool false] F (SI.tmp 4 SI.nil) (fun _ h => h.re [] [0]) ⟨false, rfl, fun _ => ?_, rfl⟩
    have hall := hi15.2; rw [List.take_of_length_le (by omega)] at hall; exact large_pre hi1.1 hall
theorem large0_s {Z : Zone} {mv : Value} {M : List Spc} (hM0 : Kn Z SpT mv M) (hM : M.length ≤ 9223372036854775807) : SF Try.prog 10 #[.slice none 0 0, mv] Z [] fun r Bs => ∃ x, r = .bool x ∧ (x = false → ∀ s ∈ M, (s.v.str.size : Int) ≤ 5000) ∧ Bs = [] := by
 refine sf_enter Try.func10 49 [(0, (.slice none 0 0)), (1, mv)] (fun w0 => ?_)
 refine k_fact (fun H h => (hM0.get h).len_le) (fun lA => ?_)
 refine k_sr ?_
 refine sp (.bool false) ?_
 refine s_nt ?_
 refine k_seq ?_
 refine k_sr ?_
 refine sp (.int .i64 0) ?_
 refine s_nt ?_
 refine k_block ?_
 refine k_loop (ι := Nat) (fun i => i ≤ 0) (fun i => [(0, (.slice none 0 0)), (1, mv), (5, .int .i64 (i : Int))]) (fun i => []) (fun i => 0) 0 (Nat.le_refl _) (sub_of rfl ⟨⟨rfl, rfl⟩, ⟨⟨rfl, rfl⟩, ⟨⟨rfl, rfl⟩, trivial⟩⟩⟩) (fun _ h => h.re [] []) ?_
 rintro i hi1
 show SK _ _ _ _ _ [(0, (.slice none 0 0)), (1, mv), (5, .int .i64 (i : Int))] _ []
 refine k_seq ?_
 refine k_sr ?_
 refine sp (.int .i64 (i : Int)) ?_
 refine sp (.slice none 0 0) ?_
 refine s_lt (t_len OpT_ok Try.underlying22 .nil) ?_
 refine s_lt (Lt.to t_cmp (congrArg Value.bool (decide_eq_false (by simp) : (decide ((i : Int) < ([].length : Int))) = false))) ?_
 refine sp (.bool false) ?_
 refine s_skip ?_
 refine s_skip ?_
 refine sp (.bool false) ?_
 refine s_nt ?_
 refine k_false ?_
 refine k_exit ?_
 refine xs_exit ?_
 refine xs_exit ?_
 refine xs_here ?_
 refine xs_then ?_
 refine k_seq ?_
 refine k_sr ?_
 refine sp (.int .i64 0) ?_
 refine s_nt ?_
 refine k_block ?_
 refine k_loop (ι := Nat) (fun j => j ≤ M.length ∧ ∀ s ∈ M.take j, (s.v.str.size : Int) ≤ 5000) (fun j => [(1, mv), (6, .int .i64 (j : Int))]) (fun j => []) (fun j => M.length - j) 0 ⟨by omega, by simp⟩ (sub_of rfl ⟨⟨rfl, rfl⟩, ⟨⟨rfl, rfl⟩, trivial⟩⟩) (fun _ h => h.re [] []) ?_
 rintro j hi2
 show SK _ _ _ _ _ [(1, mv), (6, .int .i64 (j : Int))] _ []
 refine k_seq ?_
 refine k_sr ?_
 refine sp (.int .i64 (j : Int)) ?_
 refine sp mv ?_
 refine s_lt (t_len SpT_ok Try.underlying42 (.zn hM0)) ?_
 refine s_lt t_cmp ?_
 refine s_nt ?_
 refine k_cond (decide ((j : Int) < (M.length : Int))) (fun c3 => ?_) (fun c3 => ?_)
 ·
  have p4 := of_decide_eq_true c3
  refine k_st ?_
  refine k_seq ?_
  refine k_block ?_
  refine k_sr ?_
  refine sp mv ?_
  refine sp (.int .i64 (j : Int)) ?_
  refine s_lt (t_index SpT_ok Try.underlying42 (.zn hM0) (j : Int) j (by omega) (by (try simp only [lnm]); omega) (by omega)) ?_
  refine sp (.pointer (some (elemAt SpT.size mv j))) ?_
  refine sp (.pointer (some ((elemAt SpT.size mv j).add 3))) ?_
  obtain ⟨y5, hy6⟩ : ∃ y, M[j]? = some y := ⟨_, List.getElem?_eq_getElem (by (try simp only [lnm]); omega)⟩
  refine s_lt (t_loadF 3 SpT_ok (.zn hM0) hy6) ?_
  refine s_lt (t_kern (.int .i64 (y5.v.str.size : Int))) ?_
  refine s_lt t_cmp ?_
  refine s_nt ?_
  refine k_cond (decide ((5000 : Int) < (y5.v.str.size : Int))) (fun c7 => ?_) (fun c7 => ?_)
  ·
   have p8 := of_decide_eq_true c7
   refine k_sr ?_
   refine sp (.bool true) ?_
   refine s_nt ?_
   refine k_ret ?_
   refine xs_retBlock ?_
   refine xs_ret ?_
   refine xs_ret ?_
   refine xs_retBlock ?_
   refine xs_ret ?_
   exact xs_fin [.bool true] [] (SI.tmp 4 SI.nil) (fun _ h => h.re [] []) ⟨true, rfl, (fun h => by cases h), rfl⟩
  ·
   have p9 := of_decide_eq_false c7
   refine k_skip ?_
   refine xs_block ?_
   refine xs_then ?_
   refine k_reg ?_
   refine sp (.int .i64 (j : Int)) ?_
   refine s_lt (t_add (j : Int) 1 (by (try simp only [lnm]); omega)) ?_
   refine sp (.int .i64 ((j : Int) + 1)) ?_
   refine s_nil ?_
   exact xs_round (j + 1) (by omega) ⟨by omega, large_step hi2.2 hy6 (by omega)⟩ (sub_of rfl ⟨⟨rfl, rfl⟩, ⟨⟨rfl, rfl⟩, trivial⟩⟩) (fun _ h => h.re [] [])
 ·
  have p10 := of_decide_eq_false c3
  refine k_exit ?_
  refine xs_exit ?_
  refine xs_exit ?_
  refine xs_here ?_
  refine xs_then ?_
  refine k_sr ?_
  refine sp (.bool false) ?_
  refine s_nt ?_
  refine k_ret ?_
  refine xs_fin [.bool false] [] (SI.tmp 4 SI.nil) (fun _ h => h.re [] []) ⟨false, rfl, fun _ => ?_, rfl⟩
  have hall := hi2.2; rw [List.take_of_length_le (by omega)] at hall; exact hall
end Go.Proofs.Ytplkkhpokodbmaa
