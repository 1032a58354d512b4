/-
  Layer 15: specifications, worlds, handlers. Each law says its conditions.
-/
import Derived.Test.YtplkkhpokodbmaaW6
set_option linter.unusedSimpArgs false
set_option linter.unusedVariables false
set_option maxRecDepth 100000
set_option maxHeartbeats 2000000
namespace Go.Proofs.Ytplkkhpokodbmaa
open Go.Hp Go.J Go.S
open Go.Mem (Ty KTy blk elemAt pre suf blk_pre blk_suf aget aset strK aggDesc)
open Go.Mem (adel apos aget_aset aget_adel)
structure Spc where
  v : Vl
  obj : Int
structure Opc where
  kind : Int
  a : Spc
  b : Spc
  c : Spc
def Spc.w (x : Spc) : Value := .agg #[.int .i64 x.v.kind, .int .i64 x.v.p, .int .i64 x.v.q, .string x.v.str, .int .i64 x.v.ref, .int .i64 x.obj]
def Opc.w (x : Opc) : Value := .agg #[.int .i64 x.kind, .int .i64 x.a.v.kind, .int .i64 x.a.v.p, .int .i64 x.a.v.q, .string x.a.v.str, .int .i64 x.a.v.ref, .int .i64 x.a.obj, .int .i64 x.b.v.kind, .int .i64 x.b.v.p, .int .i64 x.b.v.q, .string x.b.v.str, .int .i64 x.b.v.ref, .int .i64 x.b.obj, .int .i64 x.c.v.kind, .int .i64 x.c.v.p, .int .i64 x.c.v.q, .string x.c.v.str, .int .i64 x.c.v.ref, .int .i64 x.c.obj]
def SpT : Ty Spc := ⟨28, 6, 56, true, Spc.w, ⟨zVl, 0⟩⟩
theorem SpT_ok : SpT.Ok Try.prog := ok_of SpT _ Try.t28 (by decide) (fun _ => rfl) (fun x u hu => by simp [Ty.enc, SpT, Spc.w, Value.cells] at hu; rcases hu with rfl | rfl | rfl | rfl | rfl | rfl <;> rfl) (fun _ => rfl) Try.underlying28 rfl (fun h => by cases h) (by kernel_rfl) (by kernel_rfl) (by kernel_rfl) (by kernel_rfl)
theorem ofstr_s {Z : Zone} (s : ByteArray) : SF Try.prog 47 #[.string s] Z [] fun r Bs => r = (strV s).v ∧ Bs = [] := by
 refine sf_enter Try.func47 5 [(0, .string s)] (fun w0 => ?_)
 refine k_sr ?_
 refine s_alloc (.agg #[.int .i64 0, .int .i64 0, .int .i64 0, .string ByteArray.empty, .int .i64 0]) #[.int .i64 0, .int .i64 0, .int .i64 0, .string ByteArray.empty, .int .i64 0] (fun g1 => ?_)
 refine s_nr ?_
 refine sp (.string s) ?_
 refine s_lt (t_kern (.agg #[.int .i64 3, .int .i64 0, .int .i64 0, .string s, .int .i64 0])) ?_
 refine s_store 0 #[.int .i64 3, .int .i64 0, .int .i64 0, .string s, .int .i64 0] ?_
 refine s_nt ?_
 refine k_ret ?_
 exact xs_fin [.agg #[.int .i64 3, .int .i64 0, .int .i64 0, .string s, .int .i64 0]] [] (SI.agg 2 26 0 SI.nil) (fun _ h => h.re [] [0]) ⟨rfl, rfl⟩
theorem lstr_s {Z : Zone} (s : ByteArray) : SF Try.prog 30 #[.string s] Z [] fun r Bs => r = (strV s).v ∧ Bs = [] := by
 refine sf_enter Try.func30 5 [(0, .string s)] (fun w0 => ?_)
 refine k_sr ?_
 refine s_alloc (.agg #[.int .i64 0, .int .i64 0, .int .i64 0, .string ByteArray.empty, .int .i64 0]) #[.int .i64 0, .int .i64 0, .int .i64 0, .string ByteArray.empty, .int .i64 0] (fun g1 => ?_)
 refine s_nr ?_
 refine sp (.string s) ?_
 refine s_lt (t_kern (.agg #[.int .i64 3, .int .i64 0, .int .i64 0, .string s, .int .i64 0])) ?_
 refine s_store 0 #[.int .i64 3, .int .i64 0, .int .i64 0, .string s, .int .i64 0] ?_
 refine s_nt ?_
 refine k_ret ?_
 exact xs_fin [.agg #[.int .i64 3, .int .i64 0, .int .i64 0, .string s, .int .i64 0]] [] (SI.agg 2 26 0 SI.nil) (fun _ h => h.re [] [0]) ⟨rfl, rfl⟩
def fnB (v : Vl) : Bool := decide (v.kind = 5) || decide (v.kind = 6)
/-- The metamethod of a value. -/
def hdl (st : Hst) (v : Vl) (ev : ByteArray) : Vl := if (hmeta st v).kind = 0 then zVl else hgetV st (hmeta st v) (strV ev)
theorem fun_s {Z : Zone} (v : Vl) : SF Try.prog 51 #[v.v] Z [] fun r Bs => r = .bool (fnB v) ∧ Bs = [] := by
 refine sf_enter Try.func51 11 [(0, .agg #[.int .i64 v.kind, .int .i64 v.p, .int .i64 v.q, .string v.str, .int .i64 v.ref])] (fun w0 => ?_)
 refine k_sr ?_
 refine s_box #[.int .i64 v.kind, .int .i64 v.p, .int .i64 v.q, .string v.str, .int .i64 v.ref] (fun g1 => ?_)
 refine sp (.bool false) ?_
 refine s_nr ?_
 refine sp (pB g1 0) ?_
 refine s_lt (t_load 0 (.int .i64 v.kind)) ?_
 refine s_lt t_cmp ?_
 refine sp (.bool (decide (v.kind = 5))) ?_
 refine s_fork 6 (decide (v.kind = 5)) (fun c2 => ?_) (fun c2 => ?_)
 ·
  have p3 := of_decide_eq_true c2
  refine s_skip ?_
  refine s_skip ?_
  refine s_skip ?_
  refine sp (.bool true) ?_
  refine sp (.bool true) ?_
  refine s_nt ?_
  refine k_ret ?_
  refine xs_fin [.bool true] [] (SI.tmp 2 SI.nil) (fun _ h => h.re [] [0]) ⟨congrArg Value.bool ?_, rfl⟩
  unfold fnB; simp [c2, p3]
 ·
  have p4 := of_decide_eq_false c2
  refine sp (pB g1 0) ?_
  refine s_lt (t_load 0 (.int .i64 v.kind)) ?_
  refine s_lt t_cmp ?_
  refine sp (.bool (decide (v.kind = 6))) ?_
  refine sp (.bool (decide (v.kind = 6))) ?_
  refine s_nt ?_
  refine k_ret ?_
  refine xs_fin [.bool (decide (v.kind = 6))] [] (SI.tmp 2 SI.nil) (fun _ h => h.re [] [0]) ⟨congrArg Value.bool ?_, rfl⟩
  unfold fnB; simp [c2, p4]
theorem hdl_s {Z : Zone} {F : List Asr} {b : Nat} {st : Hst} {n : Nat} (hsm : HSm n st) (hn : n ≤ 300) (v : Vl) (ev : ByteArray) : SF Try.prog 14 #[.pointer (some ⟨b, 0, none⟩), v.v, .string ev] Z (hpA b st :: F) fun r Bs => r = (hdl st v ev).v ∧ Bs = hpA b st :: F := by
 refine sf_enter Try.func14 26 [(0, pB b 0), (1, .agg #[.int .i64 v.kind, .int .i64 v.p, .int .i64 v.q, .string v.str, .int .i64 v.ref]), (2, .string ev)] (fun w0 => ?_)
 have hlen0 := hsm.len
 refine k_sr ?_
 refine s_box #[.int .i64 v.kind, .int .i64 v.p, .int .i64 v.q, .string v.str, .int .i64 v.ref] (fun g1 => ?_)
 refine s_alloc (.agg #[.int .i64 0, .int .i64 0, .int .i64 0, .string ByteArray.empty, .int .i64 0]) #[.int .i64 0, .int .i64 0, .int .i64 0, .string ByteArray.empty, .int .i64 0] (fun g2 => ?_)
 refine s_nr ?_
 refine sp (pB b 0) ?_
 refine s_lt (t_loadA 1 #[.int .i64 v.kind, .int .i64 v.p, .int .i64 v.q, .string v.str, .int .i64 v.ref]) ?_
 refine s_call [2] (hmeta_s (st := st) v) ?_
 rintro _ _ ⟨rfl, rfl⟩
 refine s_alloc (.agg #[.int .i64 0, .int .i64 0, .int .i64 0, .string ByteArray.empty, .int .i64 0]) #[.int .i64 0, .int .i64 0, .int .i64 0, .string ByteArray.empty, .int .i64 0] (fun g3 => ?_)
 refine s_store 0 #[.int .i64 ((hmeta st v).kind), .int .i64 ((hmeta st v).p), .int .i64 ((hmeta st v).q), .string ((hmeta st v).str), .int .i64 ((hmeta st v).ref)] ?_
 refine s_nt ?_
 refine k_seq ?_
 refine k_sr ?_
 refine sp (pB g3 0) ?_
 refine s_lt (t_load 0 (.int .i64 ((hmeta st v).kind))) ?_
 refine s_lt t_cmp ?_
 refine s_nt ?_
 refine k_cond (decide ((hmeta st v).kind = 0)) (fun c4 => ?_) (fun c4 => ?_)
 ·
  have p5 := of_decide_eq_true c4
  refine k_sr ?_
  refine s_lt (t_kern (.agg #[.int .i64 0, .int .i64 0, .int .i64 0, .string ByteArray.empty, .int .i64 0])) ?_
  refine s_store 2 #[.int .i64 0, .int .i64 0, .int .i64 0, .string ByteArray.empty, .int .i64 0] ?_
  refine s_nt ?_
  refine k_ret ?_
  refine xs_ret ?_
  refine xs_fin [.agg #[.int .i64 0, .int .i64 0, .int .i64 0, .string ByteArray.empty, .int .i64 0]] (hpA b st :: F) (SI.agg 6 26 2 SI.nil) (fun _ h => h.re [1] [1, 1, 1]) ⟨?_, rfl⟩
  unfold hdl; rw [if_pos (of_decide_eq_true c4)]; rfl
 ·
  have p6 := of_decide_eq_false c4
  refine k_st ?_
  refine k_seq ?_
  refine k_held [blkA g3 #[.int .i64 ((hmeta st v).kind), .int .i64 ((hmeta st v).p), .int .i64 ((hmeta st v).q), .string ((hmeta st v).str), .int .i64 ((hmeta st v).ref)] 26, blkA g2 #[.int .i64 0, .int .i64 0, .int .i64 0, .string ByteArray.empty, .int .i64 0] 26, blkA g1 #[.int .i64 v.kind, .int .i64 v.p, .int .i64 v.q, .string v.str, .int .i64 v.ref] 26] ?_
  refine hp_ 0 [0, 1, 1] (pB b 0) ?_
  refine h_l 1 rfl [0, 1, 1] (fun _ => (t_loadA 0 #[.int .i64 ((hmeta st v).kind), .int .i64 ((hmeta st v).p), .int .i64 ((hmeta st v).q), .string ((hmeta st v).str), .int .i64 ((hmeta st v).ref)])) ?_
  refine hp_ 2 [0, 1, 1] (.string ev) ?_
  refine h_join (ι := Nat) 2 #[true, true, true, true, true, true, true, true, true, false, false] (fun g7 => [(6, pB g2 0), (8, pB g7 0), (23, .agg #[.int .i64 ((hgetV st (hmeta st v) (strV ev)).kind), .int .i64 ((hgetV st (hmeta st v) (strV ev)).p), .int .i64 ((hgetV st (hmeta st v) (strV ev)).q), .string ((hgetV st (hmeta st v) (strV ev)).str), .int .i64 ((hgetV st (hmeta st v) (strV ev)).ref)]), (24, .int .i64 (hgetE st (hmeta st v)))]) (fun g7 => blkA g7 #[.int .i64 0, .int .i64 0, .int .i64 0, .string ByteArray.empty, .int .i64 0] 26 :: hpA b st :: blkA g3 #[.int .i64 ((hmeta st v).kind), .int .i64 ((hmeta st v).p), .int .i64 ((hmeta st v).q), .string ((hmeta st v).str), .int .i64 ((hmeta st v).ref)] 26 :: blkA g2 #[.int .i64 0, .int .i64 0, .int .i64 0, .string ByteArray.empty, .int .i64 0] 26 :: blkA g1 #[.int .i64 v.kind, .int .i64 v.p, .int .i64 v.q, .string v.str, .int .i64 v.ref] 26 :: F) ?_ (fun hj10 => ?_)
  ·
   rintro g7
   try dsimp only
   refine h_stepS 9 ?_
   refine s_store 0 #[.int .i64 ((hgetV st (hmeta st v) (strV ev)).kind), .int .i64 ((hgetV st (hmeta st v) (strV ev)).p), .int .i64 ((hgetV st (hmeta st v) (strV ev)).q), .string ((hgetV st (hmeta st v) (strV ev)).str), .int .i64 ((hgetV st (hmeta st v) (strV ev)).ref)] ?_
   refine s_nil (xs_held [2, 2, 2] ?_)
   refine hp_ 10 [2, 2, 2] (.int .i64 (hgetE st (hmeta st v))) ?_
   refine h_doneS ?_
   refine xs_then ?_
   refine k_sr ?_
   refine s_lt (t_loadA 0 #[.int .i64 ((hgetV st (hmeta st v) (strV ev)).kind), .int .i64 ((hgetV st (hmeta st v) (strV ev)).p), .int .i64 ((hgetV st (hmeta st v) (strV ev)).q), .string ((hgetV st (hmeta st v) (strV ev)).str), .int .i64 ((hgetV st (hmeta st v) (strV ev)).ref)]) ?_
   refine s_store 3 #[.int .i64 ((hgetV st (hmeta st v) (strV ev)).kind), .int .i64 ((hgetV st (hmeta st v) (strV ev)).p), .int .i64 ((hgetV st (hmeta st v) (strV ev)).q), .string ((hgetV st (hmeta st v) (strV ev)).str), .int .i64 ((hgetV st (hmeta st v) (strV ev)).ref)] ?_
   refine s_nt ?_
   refine k_ret ?_
   refine xs_fin [.agg #[.int .i64 ((hgetV st (hmeta st v) (strV ev)).kind), .int .i64 ((hgetV st (hmeta st v) (strV ev)).p), .int .i64 ((hgetV st (hmeta st v) (strV ev)).q), .string ((hgetV st (hmeta st v) (strV ev)).str), .int .i64 ((hgetV st (hmeta st v) (strV ev)).ref)]] (hpA b st :: F) (SI.agg 6 26 3 SI.nil) (fun _ h => h.re [1] [1, 1, 1, 1]) ⟨?_, rfl⟩
   unfold hdl; rw [if_neg (of_decide_eq_false c4)]; rfl
  refine h_join (ι := Nat) 6 #[true, true, true, true, false, false, false, false, true, false, false] (fun g8 => [(6, pB g2 0), (8, pB g8 0), (18, pB b 0), (19, .agg #[.int .i64 ((hmeta st v).kind), .int .i64 ((hmeta st v).p), .int .i64 ((hmeta st v).q), .string ((hmeta st v).str), .int .i64 ((hmeta st v).ref)]), (21, .agg #[.int .i64 ((strV ev).kind), .int .i64 ((strV ev).p), .int .i64 ((strV ev).q), .string ((strV ev).str), .int .i64 ((strV ev).ref)])]) (fun g8 => blkA g8 #[.int .i64 0, .int .i64 0, .int .i64 0, .string ByteArray.empty, .int .i64 0] 26 :: blkA g3 #[.int .i64 ((hmeta st v).kind), .int .i64 ((hmeta st v).p), .int .i64 ((hmeta st v).q), .string ((hmeta st v).str), .int .i64 ((hmeta st v).ref)] 26 :: hpA b st :: blkA g2 #[.int .i64 0, .int .i64 0, .int .i64 0, .string ByteArray.empty, .int .i64 0] 26 :: blkA g1 #[.int .i64 v.kind, .int .i64 v.p, .int .i64 v.q, .string v.str, .int .i64 v.ref] 26 :: F) ?_ (fun hj11 => ?_)
  ·
   rintro g8
   try dsimp only
   refine h_stepS 4 ?_
   refine s_call [2] (hget_s (st := st) hsm (by omega) (hmeta st v) (strV ev)) ?_
   rintro _ _ ⟨rfl, rfl⟩
   refine s_nil (xs_held [2, 2, 2] ?_)
   refine hp_ 5 [2, 2, 2] (.tuple #[.agg #[.int .i64 ((hgetV st (hmeta st v) (strV ev)).kind), .int .i64 ((hgetV st (hmeta st v) (strV ev)).p), .int .i64 ((hgetV st (hmeta st v) (strV ev)).q), .string ((hgetV st (hmeta st v) (strV ev)).str), .int .i64 ((hgetV st (hmeta st v) (strV ev)).ref)], .int .i64 (hgetE st (hmeta st v))]) ?_
   refine hp_ 6 [2, 2, 2] (.agg #[.int .i64 ((hgetV st (hmeta st v) (strV ev)).kind), .int .i64 ((hgetV st (hmeta st v) (strV ev)).p), .int .i64 ((hgetV st (hmeta st v) (strV ev)).q), .string ((hgetV st (hmeta st v) (strV ev)).str), .int .i64 ((hgetV st (hmeta st v) (strV ev)).ref)]) ?_
   refine hp_ 7 [2, 2, 2] (.int .i64 (hgetE st (hmeta st v))) ?_
   exact h_use hj10 g8 (fun _ h => h.re [1, 0, 0, 0, 0] [])
  refine h_stepS2 3 8 ?_ ?_
  ·
   refine s_vcall (fun _ h => ofstr_s ev) ?_
   rintro _ rfl
   refine s_nil (xs_held [0, 1, 1] ?_)
   refine h_stepS2 4 8 ?_ ?_
   ·
    refine s_call [1] (hget_s (st := st) hsm (by omega) (hmeta st v) (strV ev)) ?_
    rintro _ _ ⟨rfl, rfl⟩
    refine s_nil (xs_held [1, 1, 1] ?_)
    refine hp_ 5 [1, 1, 1] (.tuple #[.agg #[.int .i64 ((hgetV st (hmeta st v) (strV ev)).kind), .int .i64 ((hgetV st (hmeta st v) (strV ev)).p), .int .i64 ((hgetV st (hmeta st v) (strV ev)).q), .string ((hgetV st (hmeta st v) (strV ev)).str), .int .i64 ((hgetV st (hmeta st v) (strV ev)).ref)], .int .i64 (hgetE st (hmeta st v))]) ?_
    refine hp_ 6 [1, 1, 1] (.agg #[.int .i64 ((hgetV st (hmeta st v) (strV ev)).kind), .int .i64 ((hgetV st (hmeta st v) (strV ev)).p), .int .i64 ((hgetV st (hmeta st v) (strV ev)).q), .string ((hgetV st (hmeta st v) (strV ev)).str), .int .i64 ((hgetV st (hmeta st v) (strV ev)).ref)]) ?_
    refine hp_ 7 [1, 1, 1] (.int .i64 (hgetE st (hmeta st v))) ?_
    refine h_stepS 8 ?_
    refine s_alloc (.agg #[.int .i64 0, .int .i64 0, .int .i64 0, .string ByteArray.empty, .int .i64 0]) #[.int .i64 0, .int .i64 0, .int .i64 0, .string ByteArray.empty, .int .i64 0] (fun g12 => ?_)
    refine s_nil (xs_held [2, 2, 2] ?_)
    exact h_use hj10 g12 (fun _ h => h.re [0, 0, 0, 0, 0] [])
   ·
    refine s_alloc (.agg #[.int .i64 0, .int .i64 0, .int .i64 0, .string ByteArray.empty, .int .i64 0]) #[.int .i64 0, .int .i64 0, .int .i64 0, .string ByteArray.empty, .int .i64 0] (fun g13 => ?_)
    refine s_nil (xs_held [1, 2, 2] ?_)
    exact h_use hj11 g13 (fun _ h => h.re [0, 0, 0, 0, 0] [])
  ·
   refine s_alloc (.agg #[.int .i64 0, .int .i64 0, .int .i64 0, .string ByteArray.empty, .int .i64 0]) #[.int .i64 0, .int .i64 0, .int .i64 0, .string ByteArray.empty, .int .i64 0] (fun g14 => ?_)
   refine s_nil (xs_held [1, 2, 2] ?_)
   refine h_stepS 3 ?_
   refine s_vcall (fun _ h => ofstr_s ev) ?_
   rintro _ rfl
   refine s_nil (xs_held [1, 2, 2] ?_)
   exact h_use hj11 g14 (fun _ h => h.re [0, 0, 0, 0, 0] [])
/-- The value of a specification. -/
def ofS (L : List Vl) (s : Spc) : Vl := if 0 < s.obj ∧ 0 < L.length then (L[(Int.tmod s.obj (L.length : Int)).toNat]?).getD zVl else s.v
end Go.Proofs.Ytplkkhpokodbmaa
