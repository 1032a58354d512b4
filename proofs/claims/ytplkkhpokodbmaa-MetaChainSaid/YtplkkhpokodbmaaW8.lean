/-
  Layer 15: worlds that are made, the small case, MetaHandler. Each law says its conditions.
-/
import Derived.Test.YtplkkhpokodbmaaW7
set_option linter.unusedSimpArgs false
set_option linter.unusedVariables false
set_option maxRecDepth 100000
set_option maxHeartbeats 2000000
namespace Go.Proofs.Ytplkkhpokodbmaa
open Go.Hp Go.J Go.S
open Go.Mem (Ty KTy blk elemAt pre suf blk_pre blk_suf aget aset strK aggDesc)
open Go.Mem (adel apos aget_aset aget_adel)
def boxB : ByteArray := ⟨#[98, 111, 120]⟩
/-- A world after an operation: the heap's state, the objects. -/
def mstep (i : Nat) (o : Opc) (s : Hst × List Vl) : Hst × List Vl :=
  if o.kind = 0 then (hmake s.1 (newO 4 0 ByteArray.empty []), if hmakeE s.1 = 0 then s.2 ++ [hmakeV s.1 4] else s.2) else
  if o.kind = 1 then (hdata s.1 boxB, if hdataE s.1 boxB = 0 then s.2 ++ [hdataV s.1 boxB] else s.2) else
  if o.kind = 2 then (hmake s.1 (newO 5 (i : Int) ByteArray.empty []), if hmakeE s.1 = 0 then s.2 ++ [hmakeV s.1 5] else s.2) else
  if o.kind = 3 then (hset s.1 (ofS s.2 o.a) (ofS s.2 o.b) (ofS s.2 o.c), s.2) else
  (hsetMeta s.1 (ofS s.2 o.a) (ofS s.2 o.b), if o.kind ≤ 2 ∧ hsetMetaE s.1 (ofS s.2 o.a) (ofS s.2 o.b) = 0 then s.2 ++ [zVl] else s.2)
def mst (l : List Opc) : Nat → Hst × List Vl
  | 0 => (hp0, [])
  | i + 1 => match l[i]? with
    | some o => mstep i o (mst l i)
    | none => mst l i
def made (l : List Opc) : Hst × List Vl := mst l (min 100 l.length)
theorem lives_s {Z : Zone} : SF Try.prog 11 #[] Z [] fun r Bs => r = .bool true ∧ Bs = [] := by
 refine sf_enter Try.func11 49 [] (fun w0 => ?_)
 refine k_sr ?_
 refine sp (.bool false) ?_
 refine s_nr ?_
 refine s_pcall (fun _ h => hnew_s) ?_
 rintro _ _ ⟨hb1, rfl, rfl⟩
 refine sp (pB hb1 0) ?_
 refine s_nt ?_
 refine k_seq ?_
 refine k_sr ?_
 refine sp (pB hb1 0) ?_
 refine sp (.bool false) ?_
 refine s_nt ?_
 refine k_false ?_
 refine k_st ?_
 refine k_sr ?_
 refine sp (pB hb1 0) ?_
 refine s_call [0] (hnewtable_s (st := hp0) (by have := HSm.nil.len; omega)) ?_
 rintro _ _ ⟨rfl, rfl⟩
 have hi2 := hmake_inv (o := (newO 4 0 ByteArray.empty [])) HInv.nil (newO_inv _ _ _ (by decide))
 have hs3 := hmake_sm (o := (newO 4 0 ByteArray.empty [])) HSm.nil rfl (by decide)
 refine sp (.tuple #[.agg #[.int .i64 ((hmakeV hp0 4).kind), .int .i64 ((hmakeV hp0 4).p), .int .i64 ((hmakeV hp0 4).q), .string ((hmakeV hp0 4).str), .int .i64 ((hmakeV hp0 4).ref)], .int .i64 (hmakeE hp0)]) ?_
 refine sp (.agg #[.int .i64 ((hmakeV hp0 4).kind), .int .i64 ((hmakeV hp0 4).p), .int .i64 ((hmakeV hp0 4).q), .string ((hmakeV hp0 4).str), .int .i64 ((hmakeV hp0 4).ref)]) ?_
 refine sp (.int .i64 (hmakeE hp0)) ?_
 refine s_alloc (.agg #[.int .i64 0, .int .i64 0, .int .i64 0, .string ByteArray.empty, .int .i64 0]) #[.int .i64 0, .int .i64 0, .int .i64 0, .string ByteArray.empty, .int .i64 0] (fun g4 => ?_)
 refine s_store 0 #[.int .i64 ((hmakeV hp0 4).kind), .int .i64 ((hmakeV hp0 4).p), .int .i64 ((hmakeV hp0 4).q), .string ((hmakeV hp0 4).str), .int .i64 ((hmakeV hp0 4).ref)] ?_
 refine sp (.int .i64 (hmakeE hp0)) ?_
 refine s_nr ?_
 refine sp (pB hb1 0) ?_
 refine s_call [1] (hnewtable_s (st := (hmake hp0 (newO 4 0 ByteArray.empty []))) (by have := hs3.len; omega)) ?_
 rintro _ _ ⟨rfl, rfl⟩
 have hi5 := hmake_inv (o := (newO 4 0 ByteArray.empty [])) hi2 (newO_inv _ _ _ (by decide))
 have hs6 := hmake_sm (o := (newO 4 0 ByteArray.empty [])) hs3 rfl (by decide)
 refine sp (.tuple #[.agg #[.int .i64 ((hmakeV (hmake hp0 (newO 4 0 ByteArray.empty [])) 4).kind), .int .i64 ((hmakeV (hmake hp0 (newO 4 0 ByteArray.empty [])) 4).p), .int .i64 ((hmakeV (hmake hp0 (newO 4 0 ByteArray.empty [])) 4).q), .string ((hmakeV (hmake hp0 (newO 4 0 ByteArray.empty [])) 4).str), .int .i64 ((hmakeV (hmake hp0 (newO 4 0 ByteArray.empty [])) 4).ref)], .int .i64 (hmakeE (hmake hp0 (newO 4 0 ByteArray.empty [])))]) ?_
 refine sp (.agg #[.int .i64 ((hmakeV (hmake hp0 (newO 4 0 ByteArray.empty [])) 4).kind), .int .i64 ((hmakeV (hmake hp0 (newO 4 0 ByteArray.empty [])) 4).p), .int .i64 ((hmakeV (hmake hp0 (newO 4 0 ByteArray.empty [])) 4).q), .string ((hmakeV (hmake hp0 (newO 4 0 ByteArray.empty [])) 4).str), .int .i64 ((hmakeV (hmake hp0 (newO 4 0 ByteArray.empty [])) 4).ref)]) ?_
 refine sp (.int .i64 (hmakeE (hmake hp0 (newO 4 0 ByteArray.empty [])))) ?_
 refine s_alloc (.agg #[.int .i64 0, .int .i64 0, .int .i64 0, .string ByteArray.empty, .int .i64 0]) #[.int .i64 0, .int .i64 0, .int .i64 0, .string ByteArray.empty, .int .i64 0] (fun g7 => ?_)
 refine s_store 0 #[.int .i64 ((hmakeV (hmake hp0 (newO 4 0 ByteArray.empty [])) 4).kind), .int .i64 ((hmakeV (hmake hp0 (newO 4 0 ByteArray.empty [])) 4).p), .int .i64 ((hmakeV (hmake hp0 (newO 4 0 ByteArray.empty [])) 4).q), .string ((hmakeV (hmake hp0 (newO 4 0 ByteArray.empty [])) 4).str), .int .i64 ((hmakeV (hmake hp0 (newO 4 0 ByteArray.empty [])) 4).ref)] ?_
 refine sp (.int .i64 (hmakeE (hmake hp0 (newO 4 0 ByteArray.empty [])))) ?_
 refine s_nt ?_
 refine k_seq ?_
 refine k_seq ?_
 refine k_held [blkA g7 #[.int .i64 ((hmakeV (hmake hp0 (newO 4 0 ByteArray.empty [])) 4).kind), .int .i64 ((hmakeV (hmake hp0 (newO 4 0 ByteArray.empty [])) 4).p), .int .i64 ((hmakeV (hmake hp0 (newO 4 0 ByteArray.empty [])) 4).q), .string ((hmakeV (hmake hp0 (newO 4 0 ByteArray.empty [])) 4).str), .int .i64 ((hmakeV (hmake hp0 (newO 4 0 ByteArray.empty [])) 4).ref)] 26, blkA g4 #[.int .i64 ((hmakeV hp0 4).kind), .int .i64 ((hmakeV hp0 4).p), .int .i64 ((hmakeV hp0 4).q), .string ((hmakeV hp0 4).str), .int .i64 ((hmakeV hp0 4).ref)] 26] ?_
 refine hp_ 0 [0, 1] (pB g4 0) ?_
 refine h_l 1 rfl [0, 1] (fun _ => (t_load 1 (.int .i64 ((hmakeV hp0 4).kind)))) ?_
 refine h_l 2 rfl [0, 1] (fun _ => (Lt.to t_cmp (congrArg Value.bool ((by kernel_rfl) : (decide ((hmakeV hp0 4).kind ≠ 4)) = false)))) ?_
 refine hp_ 3 [0, 1] (.bool false) ?_
 refine hp_ 4 [0, 1] (pB hb1 0) ?_
 refine h_l 5 rfl [0, 1] (fun _ => (t_loadA 0 #[.int .i64 ((hmakeV (hmake hp0 (newO 4 0 ByteArray.empty [])) 4).kind), .int .i64 ((hmakeV (hmake hp0 (newO 4 0 ByteArray.empty [])) 4).p), .int .i64 ((hmakeV (hmake hp0 (newO 4 0 ByteArray.empty [])) 4).q), .string ((hmakeV (hmake hp0 (newO 4 0 ByteArray.empty [])) 4).str), .int .i64 ((hmakeV (hmake hp0 (newO 4 0 ByteArray.empty [])) 4).ref)])) ?_
 refine h_stepS 6 ?_
 refine s_vcall (fun _ h => lstr_s ⟨#[95, 95, 108, 101, 110]⟩) ?_
 rintro _ rfl
 refine s_nil (xs_held [0, 1] ?_)
 refine h_stepS 7 ?_
 refine s_vcall (fun _ h => lstr_s ⟨#[120]⟩) ?_
 rintro _ rfl
 refine s_nil (xs_held [0, 1] ?_)
 refine h_stepS 8 ?_
 refine s_call [1] (hset_s (st := (hmake (hmake hp0 (newO 4 0 ByteArray.empty [])) (newO 4 0 ByteArray.empty []))) hs6 (by omega) (hmakeV (hmake hp0 (newO 4 0 ByteArray.empty [])) 4) (strV ⟨#[95, 95, 108, 101, 110]⟩) (strV ⟨#[120]⟩)) ?_
 rintro _ _ ⟨rfl, rfl⟩
 have hi8 := hset_inv hi5 (hmakeV (hmake hp0 (newO 4 0 ByteArray.empty [])) 4) (strV ⟨#[95, 95, 108, 101, 110]⟩) (strV ⟨#[120]⟩)
 have hs9 := hset_sm hi5 hs6 (hmakeV (hmake hp0 (newO 4 0 ByteArray.empty [])) 4) (strV ⟨#[95, 95, 108, 101, 110]⟩) (strV ⟨#[120]⟩)
 refine s_nil (xs_held [1, 1] ?_)
 refine h_l 9 rfl [1, 1] (fun _ => (Lt.to t_cmp (congrArg Value.bool ((by kernel_rfl) : (decide ((hsetE (hmake (hmake hp0 (newO 4 0 ByteArray.empty [])) (newO 4 0 ByteArray.empty [])) (hmakeV (hmake hp0 (newO 4 0 ByteArray.empty [])) 4) (strV ⟨#[95, 95, 108, 101, 110]⟩) (strV ⟨#[120]⟩)) ≠ 0)) = false)))) ?_
 refine hp_ 10 [1, 1] (.bool false) ?_
 refine hp_ 11 [1, 1] (.bool false) ?_
 refine hp_ 12 [1, 1] (pB hb1 0) ?_
 refine h_l 13 rfl [1, 1] (fun _ => (t_loadA 1 #[.int .i64 ((hmakeV hp0 4).kind), .int .i64 ((hmakeV hp0 4).p), .int .i64 ((hmakeV hp0 4).q), .string ((hmakeV hp0 4).str), .int .i64 ((hmakeV hp0 4).ref)])) ?_
 refine h_l 14 rfl [1, 1] (fun _ => (t_loadA 0 #[.int .i64 ((hmakeV (hmake hp0 (newO 4 0 ByteArray.empty [])) 4).kind), .int .i64 ((hmakeV (hmake hp0 (newO 4 0 ByteArray.empty [])) 4).p), .int .i64 ((hmakeV (hmake hp0 (newO 4 0 ByteArray.empty [])) 4).q), .string ((hmakeV (hmake hp0 (newO 4 0 ByteArray.empty [])) 4).str), .int .i64 ((hmakeV (hmake hp0 (newO 4 0 ByteArray.empty [])) 4).ref)])) ?_
 refine h_stepS 15 ?_
 refine s_call [0] (hsetmeta_s (st := (hset (hmake (hmake hp0 (newO 4 0 ByteArray.empty [])) (newO 4 0 ByteArray.empty [])) (hmakeV (hmake hp0 (newO 4 0 ByteArray.empty [])) 4) (strV ⟨#[95, 95, 108, 101, 110]⟩) (strV ⟨#[120]⟩))) (hmakeV hp0 4) (hmakeV (hmake hp0 (newO 4 0 ByteArray.empty [])) 4)) ?_
 rintro _ _ ⟨rfl, rfl⟩
 have hi10 := hsetMeta_inv hi8 (hmakeV hp0 4) (hmakeV (hmake hp0 (newO 4 0 ByteArray.empty [])) 4)
 have hs11 := hsetMeta_sm hs9 (hmakeV hp0 4) (hmakeV (hmake hp0 (newO 4 0 ByteArray.empty [])) 4)
 refine s_nil (xs_held [1, 1] ?_)
 refine h_l 16 rfl [1, 1] (fun _ => (Lt.to t_cmp (congrArg Value.bool ((by kernel_rfl) : (decide ((hsetMetaE (hset (hmake (hmake hp0 (newO 4 0 ByteArray.empty [])) (newO 4 0 ByteArray.empty [])) (hmakeV (hmake hp0 (newO 4 0 ByteArray.empty [])) 4) (strV ⟨#[95, 95, 108, 101, 110]⟩) (strV ⟨#[120]⟩)) (hmakeV hp0 4) (hmakeV (hmake hp0 (newO 4 0 ByteArray.empty [])) 4)) ≠ 0)) = false)))) ?_
 refine hp_ 17 [1, 1] (.bool false) ?_
 refine h_doneS ?_
 refine xs_then ?_
 refine k_false ?_
 refine k_st ?_
 refine k_sr ?_
 refine sp (pB hb1 0) ?_
 refine s_lt (t_loadA 2 #[.int .i64 ((hmakeV hp0 4).kind), .int .i64 ((hmakeV hp0 4).p), .int .i64 ((hmakeV hp0 4).q), .string ((hmakeV hp0 4).str), .int .i64 ((hmakeV hp0 4).ref)]) ?_
 refine s_call [0] (hdl_s (st := (hsetMeta (hset (hmake (hmake hp0 (newO 4 0 ByteArray.empty [])) (newO 4 0 ByteArray.empty [])) (hmakeV (hmake hp0 (newO 4 0 ByteArray.empty [])) 4) (strV ⟨#[95, 95, 108, 101, 110]⟩) (strV ⟨#[120]⟩)) (hmakeV hp0 4) (hmakeV (hmake hp0 (newO 4 0 ByteArray.empty [])) 4))) hs11 (by omega) (hmakeV hp0 4) ⟨#[95, 95, 108, 101, 110]⟩) ?_
 rintro _ _ ⟨rfl, rfl⟩
 refine s_vcall (fun _ h => lstr_s ⟨#[120]⟩) ?_
 rintro _ rfl
 refine s_lt (Lt.to (t_eqS (fun w => (eqVlT (hdl (hsetMeta (hset (hmake (hmake hp0 (newO 4 0 ByteArray.empty [])) (newO 4 0 ByteArray.empty [])) (hmakeV (hmake hp0 (newO 4 0 ByteArray.empty [])) 4) (strV ⟨#[95, 95, 108, 101, 110]⟩) (strV ⟨#[120]⟩)) (hmakeV hp0 4) (hmakeV (hmake hp0 (newO 4 0 ByteArray.empty [])) 4)) (hmakeV hp0 4) ⟨#[95, 95, 108, 101, 110]⟩) (strV ⟨#[120]⟩) w).1)) (congrArg Value.bool ((by kernel_rfl) : (decide ((hdl (hsetMeta (hset (hmake (hmake hp0 (newO 4 0 ByteArray.empty [])) (newO 4 0 ByteArray.empty [])) (hmakeV (hmake hp0 (newO 4 0 ByteArray.empty [])) 4) (strV ⟨#[95, 95, 108, 101, 110]⟩) (strV ⟨#[120]⟩)) (hmakeV hp0 4) (hmakeV (hmake hp0 (newO 4 0 ByteArray.empty [])) 4)) (hmakeV hp0 4) ⟨#[95, 95, 108, 101, 110]⟩) = (strV ⟨#[120]⟩))) = true))) ?_
 refine sp (.bool true) ?_
 refine sp (pB hb1 0) ?_
 refine s_lt (t_loadA 1 #[.int .i64 ((hmakeV (hmake hp0 (newO 4 0 ByteArray.empty [])) 4).kind), .int .i64 ((hmakeV (hmake hp0 (newO 4 0 ByteArray.empty [])) 4).p), .int .i64 ((hmakeV (hmake hp0 (newO 4 0 ByteArray.empty [])) 4).q), .string ((hmakeV (hmake hp0 (newO 4 0 ByteArray.empty [])) 4).str), .int .i64 ((hmakeV (hmake hp0 (newO 4 0 ByteArray.empty [])) 4).ref)]) ?_
 refine s_call [0] (hdl_s (st := (hsetMeta (hset (hmake (hmake hp0 (newO 4 0 ByteArray.empty [])) (newO 4 0 ByteArray.empty [])) (hmakeV (hmake hp0 (newO 4 0 ByteArray.empty [])) 4) (strV ⟨#[95, 95, 108, 101, 110]⟩) (strV ⟨#[120]⟩)) (hmakeV hp0 4) (hmakeV (hmake hp0 (newO 4 0 ByteArray.empty [])) 4))) hs11 (by omega) (hmakeV (hmake hp0 (newO 4 0 ByteArray.empty [])) 4) ⟨#[95, 95, 108, 101, 110]⟩) ?_
 rintro _ _ ⟨rfl, rfl⟩
 refine s_lt (t_kern (.agg #[.int .i64 0, .int .i64 0, .int .i64 0, .string ByteArray.empty, .int .i64 0])) ?_
 refine s_lt (Lt.to (t_eqS (fun w => (eqVlT (hdl (hsetMeta (hset (hmake (hmake hp0 (newO 4 0 ByteArray.empty [])) (newO 4 0 ByteArray.empty [])) (hmakeV (hmake hp0 (newO 4 0 ByteArray.empty [])) 4) (strV ⟨#[95, 95, 108, 101, 110]⟩) (strV ⟨#[120]⟩)) (hmakeV hp0 4) (hmakeV (hmake hp0 (newO 4 0 ByteArray.empty [])) 4)) (hmakeV (hmake hp0 (newO 4 0 ByteArray.empty [])) 4) ⟨#[95, 95, 108, 101, 110]⟩) zVl w).1)) (congrArg Value.bool ((by kernel_rfl) : (decide ((hdl (hsetMeta (hset (hmake (hmake hp0 (newO 4 0 ByteArray.empty [])) (newO 4 0 ByteArray.empty [])) (hmakeV (hmake hp0 (newO 4 0 ByteArray.empty [])) 4) (strV ⟨#[95, 95, 108, 101, 110]⟩) (strV ⟨#[120]⟩)) (hmakeV hp0 4) (hmakeV (hmake hp0 (newO 4 0 ByteArray.empty [])) 4)) (hmakeV (hmake hp0 (newO 4 0 ByteArray.empty [])) 4) ⟨#[95, 95, 108, 101, 110]⟩) = zVl)) = true))) ?_
 refine sp (.bool true) ?_
 refine sp (.bool true) ?_
 refine s_nt ?_
 refine k_ret ?_
 exact xs_fin [.bool true] [] (SI.tmp 0 SI.nil) (fun _ h => h.re [] [0, 0, 0]) ⟨rfl, rfl⟩
end Go.Proofs.Ytplkkhpokodbmaa
