/-
  Layer 14: calls, the small case. Each law says its conditions.
-/
import Derived.Test.YtmilekfknhglkaaG4
import Derived.Test.YtmilekfknhglkaaG2
import Derived.Test.YtmilekfknhglkaaRows
section
set_option linter.unusedSimpArgs false
set_option linter.unusedVariables false
set_option maxRecDepth 100000
set_option maxHeartbeats 2000000
namespace Go.Proofs.Ytmilekfknhglkaa
open Go.Hp Go.J Go.S
open Go.Mem (Ty KTy blk elemAt pre suf blk_pre blk_suf aget aset strK aggDesc)
open Go.Mem (adel apos aget_aset aget_adel)
abbrev Cl.w (x : Cl) : Value := .agg #[.int .i64 x.kind, .int .i64 x.a.kind, .int .i64 x.a.p, .int .i64 x.a.q, .string x.a.str, .int .i64 x.a.ref, .int .i64 x.b.kind, .int .i64 x.b.p, .int .i64 x.b.q, .string x.b.str, .int .i64 x.b.ref, .int .i64 x.c.kind, .int .i64 x.c.p, .int .i64 x.c.q, .string x.c.str, .int .i64 x.c.ref, .int .i64 x.n, .string x.s, x.lv.v]
def ClT : Ty Cl := ⟨29, 19, 200, true, Cl.w, ⟨0, zVl, zVl, zVl, 0, ByteArray.empty, ⟨none, 0, 0⟩, []⟩⟩
theorem ClT_ok : ClT.Ok Try.prog := ok_of ClT _ Try.t29 (by decide) (fun _ => rfl) (fun x u hu => by simp [Ty.enc, ClT, Cl.w, Value.cells] at hu; rcases hu with rfl | rfl | rfl | rfl | rfl | rfl | rfl | rfl | rfl | rfl | rfl | rfl | rfl | rfl | rfl | rfl | rfl | rfl | rfl <;> rfl) (fun _ => rfl) Try.underlying29 rfl (fun h => by cases h) (by kernel_rfl) (by kernel_rfl) (by kernel_rfl) (by kernel_rfl)
def Rs.w_ (x : Rs) : Value := .agg #[.int .i64 x.v.kind, .int .i64 x.v.p, .int .i64 x.v.q, .string x.v.str, .int .i64 x.v.ref, .int .i64 x.w.kind, .int .i64 x.w.p, .int .i64 x.w.q, .string x.w.str, .int .i64 x.w.ref, .int .i64 x.n, .string x.s, .bool x.ok, .int .i64 x.e]
abbrev KnC (Z : Zone) (x : Cl) : Prop := Kn Z VlT x.lv.v x.l
/-- Calls that the zone knows. -/
structure KnL (Z : Zone) (lv : Value) (l : List Cl) : Prop where
  obs : Kn Z ClT lv l
  each : ∀ x ∈ l, KnC Z x
theorem lstr_s {Z : Zone} (s : ByteArray) : SF Try.prog 37 #[.string s] Z [] fun r Bs => r = (strV s).v ∧ Bs = [] := by
 refine sf_enter Try.func37 5 [(0, .string s)] (fun w0 => ?_)
 refine k_sr ?_
 refine s_alloc (.agg #[.int .i64 0, .int .i64 0, .int .i64 0, .string ByteArray.empty, .int .i64 0]) #[.int .i64 0, .int .i64 0, .int .i64 0, .string ByteArray.empty, .int .i64 0] (fun g1 => ?_)
 refine s_nr ?_
 refine sp (.string s) ?_
 refine s_lt (t_kern (.agg #[.int .i64 3, .int .i64 0, .int .i64 0, .string s, .int .i64 0])) ?_
 refine s_store 0 #[.int .i64 3, .int .i64 0, .int .i64 0, .string s, .int .i64 0] ?_
 refine s_nt ?_
 refine k_ret ?_
 exact xs_fin [.agg #[.int .i64 3, .int .i64 0, .int .i64 0, .string s, .int .i64 0]] [] (SI.agg 2 26 0 SI.nil) (fun _ h => h.re [] [0]) ⟨rfl, rfl⟩
def numV (n : Int) : Vl := ⟨2, n, 1, ByteArray.empty, 0⟩
theorem lnum_s {Z : Zone} (n : Int) : SF Try.prog 26 #[.int .i64 n] Z [] fun r Bs => r = (numV n).v ∧ Bs = [] := by
 refine sf_enter Try.func26 6 [(0, .int .i64 n)] (fun w0 => ?_)
 refine k_sr ?_
 refine s_alloc (.agg #[.int .i64 0, .int .i64 0, .int .i64 0, .string ByteArray.empty, .int .i64 0]) #[.int .i64 0, .int .i64 0, .int .i64 0, .string ByteArray.empty, .int .i64 0] (fun g1 => ?_)
 refine s_nr ?_
 refine sp (.int .i64 n) ?_
 refine s_lt (t_kern (.agg #[.int .i64 n, .int .i64 1])) ?_
 refine s_lt (t_kern (.agg #[.int .i64 2, .int .i64 n, .int .i64 1, .string ByteArray.empty, .int .i64 0])) ?_
 refine s_store 0 #[.int .i64 2, .int .i64 n, .int .i64 1, .string ByteArray.empty, .int .i64 0] ?_
 refine s_nt ?_
 refine k_ret ?_
 exact xs_fin [.agg #[.int .i64 2, .int .i64 n, .int .i64 1, .string ByteArray.empty, .int .i64 0]] [] (SI.agg 2 26 0 SI.nil) (fun _ h => h.re [] [0]) ⟨rfl, rfl⟩
theorem awake_s {Z : Zone} : SF Try.prog 9 #[] Z [] fun r Bs => r = .bool true ∧ Bs = [] := by
 refine sf_enter Try.func9 99 [] (fun w0 => ?_)
 refine k_sr ?_
 refine sp (.bool false) ?_
 refine s_nr ?_
 refine s_pcall (fun _ h => hnew_s) ?_
 rintro _ _ ⟨hb1, rfl, rfl⟩
 refine sp (pB hb1 0) ?_
 refine s_nt ?_
 refine k_seq ?_
 refine k_sr ?_
 refine sp (pB hb1 0) ?_
 refine sp (.bool false) ?_
 refine s_nt ?_
 refine k_false ?_
 refine k_st ?_
 refine k_sr ?_
 refine sp (pB hb1 0) ?_
 refine s_call [0] (hnewtable_s (st := hp0) (by have := HSm.nil.len; omega)) ?_
 rintro _ _ ⟨rfl, rfl⟩
 have hi2 := hmake_inv (o := (newO 4 0 ByteArray.empty [])) HInv.nil (newO_inv _ _ _ (by decide))
 have hs3 := hmake_sm (o := (newO 4 0 ByteArray.empty [])) HSm.nil rfl (by decide)
 have hw4 := HW.make (o := (newO 4 0 ByteArray.empty [])) HW.nil (newO_w _ _ _ (fun _ hv => (by cases hv)) (fun h8 => by cases h8))
 refine sp (.tuple #[.agg #[.int .i64 ((hmakeV hp0 4).kind), .int .i64 ((hmakeV hp0 4).p), .int .i64 ((hmakeV hp0 4).q), .string ((hmakeV hp0 4).str), .int .i64 ((hmakeV hp0 4).ref)], .int .i64 (hmakeE hp0)]) ?_
 refine sp (.agg #[.int .i64 ((hmakeV hp0 4).kind), .int .i64 ((hmakeV hp0 4).p), .int .i64 ((hmakeV hp0 4).q), .string ((hmakeV hp0 4).str), .int .i64 ((hmakeV hp0 4).ref)]) ?_
 refine sp (.int .i64 (hmakeE hp0)) ?_
 refine s_alloc (.agg #[.int .i64 0, .int .i64 0, .int .i64 0, .string ByteArray.empty, .int .i64 0]) #[.int .i64 0, .int .i64 0, .int .i64 0, .string ByteArray.empty, .int .i64 0] (fun g5 => ?_)
 refine s_store 0 #[.int .i64 ((hmakeV hp0 4).kind), .int .i64 ((hmakeV hp0 4).p), .int .i64 ((hmakeV hp0 4).q), .string ((hmakeV hp0 4).str), .int .i64 ((hmakeV hp0 4).ref)] ?_
 refine sp (.int .i64 (hmakeE hp0)) ?_
 refine s_nt ?_
 refine k_seq ?_
 refine k_seq ?_
 refine k_held [blkA g5 #[.int .i64 ((hmakeV hp0 4).kind), .int .i64 ((hmakeV hp0 4).p), .int .i64 ((hmakeV hp0 4).q), .string ((hmakeV hp0 4).str), .int .i64 ((hmakeV hp0 4).ref)] 26] ?_
 refine hp_ 0 [0] (.int .i64 (hmakeE hp0)) ?_
 refine h_l 1 rfl [0] (fun _ => (Lt.to t_cmp (congrArg Value.bool ((by kernel_rfl) : (decide ((hmakeE hp0) ≠ 0)) = false)))) ?_
 refine hp_ 2 [0] (.bool false) ?_
 refine h_l 3 rfl [0] (fun _ => (t_loadA 0 #[.int .i64 ((hmakeV hp0 4).kind), .int .i64 ((hmakeV hp0 4).p), .int .i64 ((hmakeV hp0 4).q), .string ((hmakeV hp0 4).str), .int .i64 ((hmakeV hp0 4).ref)])) ?_
 refine h_l 4 rfl [0] (fun _ => (t_kern (.agg #[.int .i64 4, .int .i64 0, .int .i64 0, .string ByteArray.empty, .int .i64 1]))) ?_
 refine h_l 5 rfl [0] (fun _ => (Lt.to (t_eqS (fun w => (eqVlT (hmakeV hp0 4) (⟨4, 0, 0, ByteArray.empty, 1⟩ : Vl) w).2)) (congrArg Value.bool ((congrArg Bool.not ((by kernel_rfl) : (decide ((hmakeV hp0 4) = (⟨4, 0, 0, ByteArray.empty, 1⟩ : Vl))) = true)).trans rfl : (!(decide ((hmakeV hp0 4) = (⟨4, 0, 0, ByteArray.empty, 1⟩ : Vl)))) = false)))) ?_
 refine hp_ 6 [0] (.bool false) ?_
 refine hp_ 7 [0] (.bool false) ?_
 refine hp_ 8 [0] (pB hb1 0) ?_
 refine h_l 9 rfl [0] (fun _ => (t_loadA 0 #[.int .i64 ((hmakeV hp0 4).kind), .int .i64 ((hmakeV hp0 4).p), .int .i64 ((hmakeV hp0 4).q), .string ((hmakeV hp0 4).str), .int .i64 ((hmakeV hp0 4).ref)])) ?_
 refine h_stepS 10 ?_
 refine s_vcall (fun _ h => lnum_s 1) ?_
 rintro _ rfl
 refine s_nil (xs_held [0] ?_)
 refine h_stepS 11 ?_
 refine s_vcall (fun _ h => lstr_s ⟨#[97]⟩) ?_
 rintro _ rfl
 refine s_nil (xs_held [0] ?_)
 refine h_stepS 12 ?_
 refine s_call [1] (hset_s (st := (hmake hp0 (newO 4 0 ByteArray.empty []))) hs3 (by omega) (hmakeV hp0 4) (numV 1) (strV ⟨#[97]⟩)) ?_
 rintro _ _ ⟨rfl, rfl⟩
 have hi6 := hset_inv hi2 (hmakeV hp0 4) (numV 1) (strV ⟨#[97]⟩)
 have hs7 := hset_sm hi2 hs3 (hmakeV hp0 4) (numV 1) (strV ⟨#[97]⟩)
 have hw8 := HW.set hi2 hw4 (hmakeV hp0 4) (numV 1) (strV ⟨#[97]⟩)
 refine s_nil (xs_held [1] ?_)
 refine h_l 13 rfl [1] (fun _ => (Lt.to t_cmp (congrArg Value.bool ((by kernel_rfl) : (decide ((hsetE (hmake hp0 (newO 4 0 ByteArray.empty [])) (hmakeV hp0 4) (numV 1) (strV ⟨#[97]⟩)) ≠ 0)) = false)))) ?_
 refine hp_ 14 [1] (.bool false) ?_
 refine hp_ 15 [1] (.bool false) ?_
 refine hp_ 16 [1] (pB hb1 0) ?_
 refine h_l 17 rfl [1] (fun _ => (t_loadA 0 #[.int .i64 ((hmakeV hp0 4).kind), .int .i64 ((hmakeV hp0 4).p), .int .i64 ((hmakeV hp0 4).q), .string ((hmakeV hp0 4).str), .int .i64 ((hmakeV hp0 4).ref)])) ?_
 refine h_l 18 rfl [1] (fun _ => (t_kern (.agg #[.int .i64 0, .int .i64 0, .int .i64 0, .string ByteArray.empty, .int .i64 0]))) ?_
 refine h_l 19 rfl [1] (fun _ => (t_loadA 0 #[.int .i64 ((hmakeV hp0 4).kind), .int .i64 ((hmakeV hp0 4).p), .int .i64 ((hmakeV hp0 4).q), .string ((hmakeV hp0 4).str), .int .i64 ((hmakeV hp0 4).ref)])) ?_
 refine h_stepS 20 ?_
 refine s_call [0] (hset_s (st := (hset (hmake hp0 (newO 4 0 ByteArray.empty [])) (hmakeV hp0 4) (numV 1) (strV ⟨#[97]⟩))) hs7 (by omega) (hmakeV hp0 4) zVl (hmakeV hp0 4)) ?_
 rintro _ _ ⟨rfl, rfl⟩
 have hi9 := hset_inv hi6 (hmakeV hp0 4) zVl (hmakeV hp0 4)
 have hs10 := hset_sm hi6 hs7 (hmakeV hp0 4) zVl (hmakeV hp0 4)
 have hw11 := HW.set hi6 hw8 (hmakeV hp0 4) zVl (hmakeV hp0 4)
 refine s_nil (xs_held [1] ?_)
 refine h_l 21 rfl [1] (fun _ => (Lt.to t_cmp (congrArg Value.bool ((by kernel_rfl) : (decide ((hsetE (hset (hmake hp0 (newO 4 0 ByteArray.empty [])) (hmakeV hp0 4) (numV 1) (strV ⟨#[97]⟩)) (hmakeV hp0 4) zVl (hmakeV hp0 4)) ≠ 13)) = false)))) ?_
 refine hp_ 22 [1] (.bool false) ?_
 refine h_doneS ?_
 refine xs_then ?_
 refine k_false ?_
 refine k_st ?_
 refine k_seq ?_
 refine k_held [blkA g5 #[.int .i64 ((hmakeV hp0 4).kind), .int .i64 ((hmakeV hp0 4).p), .int .i64 ((hmakeV hp0 4).q), .string ((hmakeV hp0 4).str), .int .i64 ((hmakeV hp0 4).ref)] 26] ?_
 refine hp_ 0 [1] (pB hb1 0) ?_
 refine h_l 1 rfl [1] (fun _ => (t_loadA 0 #[.int .i64 ((hmakeV hp0 4).kind), .int .i64 ((hmakeV hp0 4).p), .int .i64 ((hmakeV hp0 4).q), .string ((hmakeV hp0 4).str), .int .i64 ((hmakeV hp0 4).ref)])) ?_
 refine h_join (ι := Nat) 2 #[true, true, true, true, true, true, true, true, false, false] (fun g12 => [(1, pB hb1 0), (2, pB g5 0), (4, pB g12 0), (45, .agg #[.int .i64 ((hgetV (hset (hset (hmake hp0 (newO 4 0 ByteArray.empty [])) (hmakeV hp0 4) (numV 1) (strV ⟨#[97]⟩)) (hmakeV hp0 4) zVl (hmakeV hp0 4)) (hmakeV hp0 4) (numV 1)).kind), .int .i64 ((hgetV (hset (hset (hmake hp0 (newO 4 0 ByteArray.empty [])) (hmakeV hp0 4) (numV 1) (strV ⟨#[97]⟩)) (hmakeV hp0 4) zVl (hmakeV hp0 4)) (hmakeV hp0 4) (numV 1)).p), .int .i64 ((hgetV (hset (hset (hmake hp0 (newO 4 0 ByteArray.empty [])) (hmakeV hp0 4) (numV 1) (strV ⟨#[97]⟩)) (hmakeV hp0 4) zVl (hmakeV hp0 4)) (hmakeV hp0 4) (numV 1)).q), .string ((hgetV (hset (hset (hmake hp0 (newO 4 0 ByteArray.empty [])) (hmakeV hp0 4) (numV 1) (strV ⟨#[97]⟩)) (hmakeV hp0 4) zVl (hmakeV hp0 4)) (hmakeV hp0 4) (numV 1)).str), .int .i64 ((hgetV (hset (hset (hmake hp0 (newO 4 0 ByteArray.empty [])) (hmakeV hp0 4) (numV 1) (strV ⟨#[97]⟩)) (hmakeV hp0 4) zVl (hmakeV hp0 4)) (hmakeV hp0 4) (numV 1)).ref)]), (46, .int .i64 (hgetE (hset (hset (hmake hp0 (newO 4 0 ByteArray.empty [])) (hmakeV hp0 4) (numV 1) (strV ⟨#[97]⟩)) (hmakeV hp0 4) zVl (hmakeV hp0 4)) (hmakeV hp0 4)))]) (fun g12 => [blkA g12 #[.int .i64 0, .int .i64 0, .int .i64 0, .string ByteArray.empty, .int .i64 0] 26, hpA hb1 (hset (hset (hmake hp0 (newO 4 0 ByteArray.empty [])) (hmakeV hp0 4) (numV 1) (strV ⟨#[97]⟩)) (hmakeV hp0 4) zVl (hmakeV hp0 4)), blkA g5 #[.int .i64 ((hmakeV hp0 4).kind), .int .i64 ((hmakeV hp0 4).p), .int .i64 ((hmakeV hp0 4).q), .string ((hmakeV hp0 4).str), .int .i64 ((hmakeV hp0 4).ref)] 26]) ?_ (fun hj15 => ?_)
 ·
  rintro g12
  try dsimp only
  refine h_stepS 8 ?_
  refine s_store 0 #[.int .i64 ((hgetV (hset (hset (hmake hp0 (newO 4 0 ByteArray.empty [])) (hmakeV hp0 4) (numV 1) (strV ⟨#[97]⟩)) (hmakeV hp0 4) zVl (hmakeV hp0 4)) (hmakeV hp0 4) (numV 1)).kind), .int .i64 ((hgetV (hset (hset (hmake hp0 (newO 4 0 ByteArray.empty [])) (hmakeV hp0 4) (numV 1) (strV ⟨#[97]⟩)) (hmakeV hp0 4) zVl (hmakeV hp0 4)) (hmakeV hp0 4) (numV 1)).p), .int .i64 ((hgetV (hset (hset (hmake hp0 (newO 4 0 ByteArray.empty [])) (hmakeV hp0 4) (numV 1) (strV ⟨#[97]⟩)) (hmakeV hp0 4) zVl (hmakeV hp0 4)) (hmakeV hp0 4) (numV 1)).q), .string ((hgetV (hset (hset (hmake hp0 (newO 4 0 ByteArray.empty [])) (hmakeV hp0 4) (numV 1) (strV ⟨#[97]⟩)) (hmakeV hp0 4) zVl (hmakeV hp0 4)) (hmakeV hp0 4) (numV 1)).str), .int .i64 ((hgetV (hset (hset (hmake hp0 (newO 4 0 ByteArray.empty [])) (hmakeV hp0 4) (numV 1) (strV ⟨#[97]⟩)) (hmakeV hp0 4) zVl (hmakeV hp0 4)) (hmakeV hp0 4) (numV 1)).ref)] ?_
  refine s_nil (xs_held [2] ?_)
  refine hp_ 9 [2] (.int .i64 (hgetE (hset (hset (hmake hp0 (newO 4 0 ByteArray.empty [])) (hmakeV hp0 4) (numV 1) (strV ⟨#[97]⟩)) (hmakeV hp0 4) zVl (hmakeV hp0 4)) (hmakeV hp0 4))) ?_
  refine h_doneS ?_
  refine xs_then ?_
  refine k_sr ?_
  refine sp (pB hb1 0) ?_
  refine s_lt (t_loadA 2 #[.int .i64 ((hmakeV hp0 4).kind), .int .i64 ((hmakeV hp0 4).p), .int .i64 ((hmakeV hp0 4).q), .string ((hmakeV hp0 4).str), .int .i64 ((hmakeV hp0 4).ref)]) ?_
  refine s_call [1] (hlen_s (st := (hset (hset (hmake hp0 (newO 4 0 ByteArray.empty [])) (hmakeV hp0 4) (numV 1) (strV ⟨#[97]⟩)) (hmakeV hp0 4) zVl (hmakeV hp0 4))) hs10 (by omega) (hmakeV hp0 4)) ?_
  rintro _ _ ⟨rfl, rfl⟩
  refine sp (.tuple #[.int .i64 (hlenV (hset (hset (hmake hp0 (newO 4 0 ByteArray.empty [])) (hmakeV hp0 4) (numV 1) (strV ⟨#[97]⟩)) (hmakeV hp0 4) zVl (hmakeV hp0 4)) (hmakeV hp0 4)), .int .i64 (hgetE (hset (hset (hmake hp0 (newO 4 0 ByteArray.empty [])) (hmakeV hp0 4) (numV 1) (strV ⟨#[97]⟩)) (hmakeV hp0 4) zVl (hmakeV hp0 4)) (hmakeV hp0 4))]) ?_
  refine sp (.int .i64 (hlenV (hset (hset (hmake hp0 (newO 4 0 ByteArray.empty [])) (hmakeV hp0 4) (numV 1) (strV ⟨#[97]⟩)) (hmakeV hp0 4) zVl (hmakeV hp0 4)) (hmakeV hp0 4))) ?_
  refine sp (.int .i64 (hgetE (hset (hset (hmake hp0 (newO 4 0 ByteArray.empty [])) (hmakeV hp0 4) (numV 1) (strV ⟨#[97]⟩)) (hmakeV hp0 4) zVl (hmakeV hp0 4)) (hmakeV hp0 4))) ?_
  refine sp (.int .i64 (hlenV (hset (hset (hmake hp0 (newO 4 0 ByteArray.empty [])) (hmakeV hp0 4) (numV 1) (strV ⟨#[97]⟩)) (hmakeV hp0 4) zVl (hmakeV hp0 4)) (hmakeV hp0 4))) ?_
  refine sp (.int .i64 (hgetE (hset (hset (hmake hp0 (newO 4 0 ByteArray.empty [])) (hmakeV hp0 4) (numV 1) (strV ⟨#[97]⟩)) (hmakeV hp0 4) zVl (hmakeV hp0 4)) (hmakeV hp0 4))) ?_
  refine s_nr ?_
  refine sp (pB hb1 0) ?_
  refine s_call [0] (htouched_s (st := (hset (hset (hmake hp0 (newO 4 0 ByteArray.empty [])) (hmakeV hp0 4) (numV 1) (strV ⟨#[97]⟩)) (hmakeV hp0 4) zVl (hmakeV hp0 4))) hs10 (by omega)) ?_
  rintro v16 _ rfl
  refine s_fact (fun H h => ((Acc.own (T := iTy) (L := (htchd (hset (hset (hmake hp0 (newO 4 0 ByteArray.empty [])) (hmakeV hp0 4) (numV 1) (strV ⟨#[97]⟩)) (hmakeV hp0 4) zVl (hmakeV hp0 4)))) 0 rfl) H h).form) (fun hf17 => ?_)
  have hi18 := untch_inv hi9
  have hs19 := untch_sm hs10
  have hw20 := untch_w hw11
  have htl21 : (htchd (hset (hset (hmake hp0 (newO 4 0 ByteArray.empty [])) (hmakeV hp0 4) (numV 1) (strV ⟨#[97]⟩)) (hmakeV hp0 4) zVl (hmakeV hp0 4))) = [1] := by kernel_rfl
  refine s_mem (Bs := [own iTy v16 [1], hpA hb1 (huntch (hset (hset (hmake hp0 (newO 4 0 ByteArray.empty [])) (hmakeV hp0 4) (numV 1) (strV ⟨#[97]⟩)) (hmakeV hp0 4) zVl (hmakeV hp0 4))), blkA g12 #[.int .i64 ((hgetV (hset (hset (hmake hp0 (newO 4 0 ByteArray.empty [])) (hmakeV hp0 4) (numV 1) (strV ⟨#[97]⟩)) (hmakeV hp0 4) zVl (hmakeV hp0 4)) (hmakeV hp0 4) (numV 1)).kind), .int .i64 ((hgetV (hset (hset (hmake hp0 (newO 4 0 ByteArray.empty [])) (hmakeV hp0 4) (numV 1) (strV ⟨#[97]⟩)) (hmakeV hp0 4) zVl (hmakeV hp0 4)) (hmakeV hp0 4) (numV 1)).p), .int .i64 ((hgetV (hset (hset (hmake hp0 (newO 4 0 ByteArray.empty [])) (hmakeV hp0 4) (numV 1) (strV ⟨#[97]⟩)) (hmakeV hp0 4) zVl (hmakeV hp0 4)) (hmakeV hp0 4) (numV 1)).q), .string ((hgetV (hset (hset (hmake hp0 (newO 4 0 ByteArray.empty [])) (hmakeV hp0 4) (numV 1) (strV ⟨#[97]⟩)) (hmakeV hp0 4) zVl (hmakeV hp0 4)) (hmakeV hp0 4) (numV 1)).str), .int .i64 ((hgetV (hset (hset (hmake hp0 (newO 4 0 ByteArray.empty [])) (hmakeV hp0 4) (numV 1) (strV ⟨#[97]⟩)) (hmakeV hp0 4) zVl (hmakeV hp0 4)) (hmakeV hp0 4) (numV 1)).ref)] 26, blkA g5 #[.int .i64 ((hmakeV hp0 4).kind), .int .i64 ((hmakeV hp0 4).p), .int .i64 ((hmakeV hp0 4).q), .string ((hmakeV hp0 4).str), .int .i64 ((hmakeV hp0 4).ref)] 26]) (fun _ h => by rw [htl21] at h; exact h) ?_
  refine sp v16 ?_
  refine s_nt ?_
  refine k_seq ?_
  refine k_held [blkA g12 #[.int .i64 ((hgetV (hset (hset (hmake hp0 (newO 4 0 ByteArray.empty [])) (hmakeV hp0 4) (numV 1) (strV ⟨#[97]⟩)) (hmakeV hp0 4) zVl (hmakeV hp0 4)) (hmakeV hp0 4) (numV 1)).kind), .int .i64 ((hgetV (hset (hset (hmake hp0 (newO 4 0 ByteArray.empty [])) (hmakeV hp0 4) (numV 1) (strV ⟨#[97]⟩)) (hmakeV hp0 4) zVl (hmakeV hp0 4)) (hmakeV hp0 4) (numV 1)).p), .int .i64 ((hgetV (hset (hset (hmake hp0 (newO 4 0 ByteArray.empty [])) (hmakeV hp0 4) (numV 1) (strV ⟨#[97]⟩)) (hmakeV hp0 4) zVl (hmakeV hp0 4)) (hmakeV hp0 4) (numV 1)).q), .string ((hgetV (hset (hset (hmake hp0 (newO 4 0 ByteArray.empty [])) (hmakeV hp0 4) (numV 1) (strV ⟨#[97]⟩)) (hmakeV hp0 4) zVl (hmakeV hp0 4)) (hmakeV hp0 4) (numV 1)).str), .int .i64 ((hgetV (hset (hset (hmake hp0 (newO 4 0 ByteArray.empty [])) (hmakeV hp0 4) (numV 1) (strV ⟨#[97]⟩)) (hmakeV hp0 4) zVl (hmakeV hp0 4)) (hmakeV hp0 4) (numV 1)).ref)] 26, blkA g5 #[.int .i64 ((hmakeV hp0 4).kind), .int .i64 ((hmakeV hp0 4).p), .int .i64 ((hmakeV hp0 4).q), .string ((hmakeV hp0 4).str), .int .i64 ((hmakeV hp0 4).ref)] 26] ?_
  refine hp_ 0 [2, 2] (.int .i64 (hgetE (hset (hset (hmake hp0 (newO 4 0 ByteArray.empty [])) (hmakeV hp0 4) (numV 1) (strV ⟨#[97]⟩)) (hmakeV hp0 4) zVl (hmakeV hp0 4)) (hmakeV hp0 4))) ?_
  refine h_l 1 rfl [2, 2] (fun _ => (Lt.to t_cmp (congrArg Value.bool ((by kernel_rfl) : (decide ((hgetE (hset (hset (hmake hp0 (newO 4 0 ByteArray.empty [])) (hmakeV hp0 4) (numV 1) (strV ⟨#[97]⟩)) (hmakeV hp0 4) zVl (hmakeV hp0 4)) (hmakeV hp0 4)) = 0)) = true)))) ?_
  refine hp_ 2 [2, 2] (.bool true) ?_
  refine h_l 3 rfl [2, 2] (fun _ => (t_loadA 0 #[.int .i64 ((hgetV (hset (hset (hmake hp0 (newO 4 0 ByteArray.empty [])) (hmakeV hp0 4) (numV 1) (strV ⟨#[97]⟩)) (hmakeV hp0 4) zVl (hmakeV hp0 4)) (hmakeV hp0 4) (numV 1)).kind), .int .i64 ((hgetV (hset (hset (hmake hp0 (newO 4 0 ByteArray.empty [])) (hmakeV hp0 4) (numV 1) (strV ⟨#[97]⟩)) (hmakeV hp0 4) zVl (hmakeV hp0 4)) (hmakeV hp0 4) (numV 1)).p), .int .i64 ((hgetV (hset (hset (hmake hp0 (newO 4 0 ByteArray.empty [])) (hmakeV hp0 4) (numV 1) (strV ⟨#[97]⟩)) (hmakeV hp0 4) zVl (hmakeV hp0 4)) (hmakeV hp0 4) (numV 1)).q), .string ((hgetV (hset (hset (hmake hp0 (newO 4 0 ByteArray.empty [])) (hmakeV hp0 4) (numV 1) (strV ⟨#[97]⟩)) (hmakeV hp0 4) zVl (hmakeV hp0 4)) (hmakeV hp0 4) (numV 1)).str), .int .i64 ((hgetV (hset (hset (hmake hp0 (newO 4 0 ByteArray.empty [])) (hmakeV hp0 4) (numV 1) (strV ⟨#[97]⟩)) (hmakeV hp0 4) zVl (hmakeV hp0 4)) (hmakeV hp0 4) (numV 1)).ref)])) ?_
  refine h_stepS 4 ?_
  refine s_vcall (fun _ h => lstr_s ⟨#[97]⟩) ?_
  rintro _ rfl
  refine s_nil (xs_held [2, 2] ?_)
  refine h_l 5 rfl [2, 2] (fun _ => (Lt.to (t_eqS (fun w => (eqVlT (hgetV (hset (hset (hmake hp0 (newO 4 0 ByteArray.empty [])) (hmakeV hp0 4) (numV 1) (strV ⟨#[97]⟩)) (hmakeV hp0 4) zVl (hmakeV hp0 4)) (hmakeV hp0 4) (numV 1)) (strV ⟨#[97]⟩) w).1)) (congrArg Value.bool ((by kernel_rfl) : (decide ((hgetV (hset (hset (hmake hp0 (newO 4 0 ByteArray.empty [])) (hmakeV hp0 4) (numV 1) (strV ⟨#[97]⟩)) (hmakeV hp0 4) zVl (hmakeV hp0 4)) (hmakeV hp0 4) (numV 1)) = (strV ⟨#[97]⟩))) = true)))) ?_
  refine hp_ 6 [2, 2] (.bool true) ?_
  refine hp_ 7 [2, 2] (.bool true) ?_
  refine hp_ 8 [2, 2] (.int .i64 (hgetE (hset (hset (hmake hp0 (newO 4 0 ByteArray.empty [])) (hmakeV hp0 4) (numV 1) (strV ⟨#[97]⟩)) (hmakeV hp0 4) zVl (hmakeV hp0 4)) (hmakeV hp0 4))) ?_
  refine h_l 9 rfl [2, 2] (fun _ => (Lt.to t_cmp (congrArg Value.bool ((by kernel_rfl) : (decide ((hgetE (hset (hset (hmake hp0 (newO 4 0 ByteArray.empty [])) (hmakeV hp0 4) (numV 1) (strV ⟨#[97]⟩)) (hmakeV hp0 4) zVl (hmakeV hp0 4)) (hmakeV hp0 4)) = 0)) = true)))) ?_
  refine hp_ 10 [2, 2] (.bool true) ?_
  refine hp_ 11 [2, 2] (.bool true) ?_
  refine hp_ 12 [2, 2] (.int .i64 (hlenV (hset (hset (hmake hp0 (newO 4 0 ByteArray.empty [])) (hmakeV hp0 4) (numV 1) (strV ⟨#[97]⟩)) (hmakeV hp0 4) zVl (hmakeV hp0 4)) (hmakeV hp0 4))) ?_
  refine h_l 13 rfl [2, 2] (fun _ => (Lt.to t_cmp (congrArg Value.bool ((by kernel_rfl) : (decide ((hlenV (hset (hset (hmake hp0 (newO 4 0 ByteArray.empty [])) (hmakeV hp0 4) (numV 1) (strV ⟨#[97]⟩)) (hmakeV hp0 4) zVl (hmakeV hp0 4)) (hmakeV hp0 4)) = 1)) = true)))) ?_
  refine hp_ 14 [2, 2] (.bool true) ?_
  refine hp_ 15 [2, 2] (.bool true) ?_
  refine hp_ 16 [2, 2] (pB hb1 0) ?_
  refine h_l 18 rfl [2, 2] (fun _ => (t_loadA 1 #[.int .i64 ((hmakeV hp0 4).kind), .int .i64 ((hmakeV hp0 4).p), .int .i64 ((hmakeV hp0 4).q), .string ((hmakeV hp0 4).str), .int .i64 ((hmakeV hp0 4).ref)])) ?_
  refine h_stepS 17 ?_
  refine s_vcall (fun _ h => lnum_s 1) ?_
  rintro _ rfl
  refine s_nil (xs_held [2, 2] ?_)
  refine h_stepS 19 ?_
  refine s_call [1] (hsetmeta_s (st := (huntch (hset (hset (hmake hp0 (newO 4 0 ByteArray.empty [])) (hmakeV hp0 4) (numV 1) (strV ⟨#[97]⟩)) (hmakeV hp0 4) zVl (hmakeV hp0 4)))) (numV 1) (hmakeV hp0 4)) ?_
  rintro _ _ ⟨rfl, rfl⟩
  have hi22 := hsetMeta_inv hi18 (numV 1) (hmakeV hp0 4)
  have hs23 := hsetMeta_sm hs19 (numV 1) (hmakeV hp0 4)
  have hw24 := setMeta_w hw20 (numV 1) (hmakeV hp0 4)
  refine s_nil (xs_held [2, 2] ?_)
  refine h_l 20 rfl [2, 2] (fun _ => (Lt.to t_cmp (congrArg Value.bool ((by kernel_rfl) : (decide ((hsetMetaE (huntch (hset (hset (hmake hp0 (newO 4 0 ByteArray.empty [])) (hmakeV hp0 4) (numV 1) (strV ⟨#[97]⟩)) (hmakeV hp0 4) zVl (hmakeV hp0 4))) (numV 1) (hmakeV hp0 4)) = 8)) = true)))) ?_
  refine hp_ 21 [2, 2] (.bool true) ?_
  refine hp_ 22 [2, 2] (.bool true) ?_
  refine hp_ 23 [2, 2] (pB hb1 0) ?_
  refine h_stepS 24 ?_
  refine s_call [0] (hcount_s (st := (hsetMeta (huntch (hset (hset (hmake hp0 (newO 4 0 ByteArray.empty [])) (hmakeV hp0 4) (numV 1) (strV ⟨#[97]⟩)) (hmakeV hp0 4) zVl (hmakeV hp0 4))) (numV 1) (hmakeV hp0 4)))) ?_
  rintro _ _ ⟨rfl, rfl⟩
  refine s_nil (xs_held [2, 2] ?_)
  refine h_l 25 rfl [2, 2] (fun _ => (Lt.to t_cmp (congrArg Value.bool ((by kernel_rfl) : (decide (((hsetMeta (huntch (hset (hset (hmake hp0 (newO 4 0 ByteArray.empty [])) (hmakeV hp0 4) (numV 1) (strV ⟨#[97]⟩)) (hmakeV hp0 4) zVl (hmakeV hp0 4))) (numV 1) (hmakeV hp0 4)).count : Int) = 1)) = true)))) ?_
  refine hp_ 26 [2, 2] (.bool true) ?_
  refine hp_ 27 [2, 2] (.bool true) ?_
  refine hp_ 28 [2, 2] v16 ?_
  refine h_stepS 29 ?_
  refine s_lt (t_len iTy_ok Try.underlying54 (.own 1)) ?_
  refine s_nil (xs_held [2, 2] ?_)
  refine h_l 30 rfl [2, 2] (fun _ => (Lt.to t_cmp (congrArg Value.bool ((by kernel_rfl) : (decide (([1].length : Int) = 1)) = true)))) ?_
  refine hp_ 31 [2, 2] (.bool true) ?_
  refine hp_ 32 [2, 2] (.bool true) ?_
  refine hp_ 33 [2, 2] v16 ?_
  refine h_stepS 34 ?_
  refine s_lt (t_index iTy_ok Try.underlying54 (.own 1) 0 0 (by omega) (by (try simp only [lnm]); omega) (by omega)) ?_
  refine s_nil (xs_held [2, 2] ?_)
  refine h_stepS 35 ?_
  refine s_lt (t_loadE iTy_ok (.own 1) rfl) ?_
  refine s_nil (xs_held [2, 2] ?_)
  refine h_l 36 rfl [2, 2] (fun _ => (t_cmp (c := true))) ?_
  refine hp_ 37 [2, 2] (.bool true) ?_
  refine hp_ 38 [2, 2] (.bool true) ?_
  refine hp_ 39 [2, 2] (pB hb1 0) ?_
  refine h_stepS 40 ?_
  refine s_call [0] (htouched_s (st := (hsetMeta (huntch (hset (hset (hmake hp0 (newO 4 0 ByteArray.empty [])) (hmakeV hp0 4) (numV 1) (strV ⟨#[97]⟩)) (hmakeV hp0 4) zVl (hmakeV hp0 4))) (numV 1) (hmakeV hp0 4))) hs23 (by omega)) ?_
  rintro v25 _ rfl
  refine s_fact (fun H h => ((Acc.own (T := iTy) (L := (htchd (hsetMeta (huntch (hset (hset (hmake hp0 (newO 4 0 ByteArray.empty [])) (hmakeV hp0 4) (numV 1) (strV ⟨#[97]⟩)) (hmakeV hp0 4) zVl (hmakeV hp0 4))) (numV 1) (hmakeV hp0 4)))) 0 rfl) H h).form) (fun hf26 => ?_)
  have hi27 := untch_inv hi22
  have hs28 := untch_sm hs23
  have hw29 := untch_w hw24
  have htl30 : (htchd (hsetMeta (huntch (hset (hset (hmake hp0 (newO 4 0 ByteArray.empty [])) (hmakeV hp0 4) (numV 1) (strV ⟨#[97]⟩)) (hmakeV hp0 4) zVl (hmakeV hp0 4))) (numV 1) (hmakeV hp0 4))) = [] := by kernel_rfl
  refine s_mem (Bs := [own iTy v25 [], hpA hb1 (huntch (hsetMeta (huntch (hset (hset (hmake hp0 (newO 4 0 ByteArray.empty [])) (hmakeV hp0 4) (numV 1) (strV ⟨#[97]⟩)) (hmakeV hp0 4) zVl (hmakeV hp0 4))) (numV 1) (hmakeV hp0 4))), own iTy v16 [1], blkA g12 #[.int .i64 ((hgetV (hset (hset (hmake hp0 (newO 4 0 ByteArray.empty [])) (hmakeV hp0 4) (numV 1) (strV ⟨#[97]⟩)) (hmakeV hp0 4) zVl (hmakeV hp0 4)) (hmakeV hp0 4) (numV 1)).kind), .int .i64 ((hgetV (hset (hset (hmake hp0 (newO 4 0 ByteArray.empty [])) (hmakeV hp0 4) (numV 1) (strV ⟨#[97]⟩)) (hmakeV hp0 4) zVl (hmakeV hp0 4)) (hmakeV hp0 4) (numV 1)).p), .int .i64 ((hgetV (hset (hset (hmake hp0 (newO 4 0 ByteArray.empty [])) (hmakeV hp0 4) (numV 1) (strV ⟨#[97]⟩)) (hmakeV hp0 4) zVl (hmakeV hp0 4)) (hmakeV hp0 4) (numV 1)).q), .string ((hgetV (hset (hset (hmake hp0 (newO 4 0 ByteArray.empty [])) (hmakeV hp0 4) (numV 1) (strV ⟨#[97]⟩)) (hmakeV hp0 4) zVl (hmakeV hp0 4)) (hmakeV hp0 4) (numV 1)).str), .int .i64 ((hgetV (hset (hset (hmake hp0 (newO 4 0 ByteArray.empty [])) (hmakeV hp0 4) (numV 1) (strV ⟨#[97]⟩)) (hmakeV hp0 4) zVl (hmakeV hp0 4)) (hmakeV hp0 4) (numV 1)).ref)] 26, blkA g5 #[.int .i64 ((hmakeV hp0 4).kind), .int .i64 ((hmakeV hp0 4).p), .int .i64 ((hmakeV hp0 4).q), .string ((hmakeV hp0 4).str), .int .i64 ((hmakeV hp0 4).ref)] 26]) (fun _ h => by rw [htl30] at h; exact h) ?_
  refine s_nil (xs_held [3, 3] ?_)
  refine h_stepS 41 ?_
  refine s_lt (t_len iTy_ok Try.underlying54 (.own 0)) ?_
  refine s_nil (xs_held [3, 3] ?_)
  refine h_l 42 rfl [3, 3] (fun _ => (Lt.to t_cmp (congrArg Value.bool ((by kernel_rfl) : (decide (([].length : Int) = 0)) = true)))) ?_
  refine hp_ 43 [3, 3] (.bool true) ?_
  refine hp_ 44 [3, 3] (.bool true) ?_
  refine h_doneS ?_
  refine xs_then ?_
  refine k_ret ?_
  exact xs_fin [.bool true] [] (SI.tmp 0 SI.nil) (fun _ h => h.re [] [0, 0, 0, 0, 0]) ⟨rfl, rfl⟩
 refine h_join (ι := Nat) 6 #[true, true, true, false, false, false, false, true, false, false] (fun g13 => [(1, pB hb1 0), (2, pB g5 0), (4, pB g13 0), (41, pB hb1 0), (42, .agg #[.int .i64 ((hmakeV hp0 4).kind), .int .i64 ((hmakeV hp0 4).p), .int .i64 ((hmakeV hp0 4).q), .string ((hmakeV hp0 4).str), .int .i64 ((hmakeV hp0 4).ref)]), (43, .agg #[.int .i64 ((numV 1).kind), .int .i64 ((numV 1).p), .int .i64 ((numV 1).q), .string ((numV 1).str), .int .i64 ((numV 1).ref)])]) (fun g13 => [blkA g13 #[.int .i64 0, .int .i64 0, .int .i64 0, .string ByteArray.empty, .int .i64 0] 26, hpA hb1 (hset (hset (hmake hp0 (newO 4 0 ByteArray.empty [])) (hmakeV hp0 4) (numV 1) (strV ⟨#[97]⟩)) (hmakeV hp0 4) zVl (hmakeV hp0 4)), blkA g5 #[.int .i64 ((hmakeV hp0 4).kind), .int .i64 ((hmakeV hp0 4).p), .int .i64 ((hmakeV hp0 4).q), .string ((hmakeV hp0 4).str), .int .i64 ((hmakeV hp0 4).ref)] 26]) ?_ (fun hj31 => ?_)
 ·
  rintro g13
  try dsimp only
  refine h_stepS 3 ?_
  refine s_call [1] (hget_s (st := (hset (hset (hmake hp0 (newO 4 0 ByteArray.empty [])) (hmakeV hp0 4) (numV 1) (strV ⟨#[97]⟩)) (hmakeV hp0 4) zVl (hmakeV hp0 4))) hs10 (by omega) (hmakeV hp0 4) (numV 1)) ?_
  rintro _ _ ⟨rfl, rfl⟩
  refine s_nil (xs_held [2] ?_)
  refine hp_ 4 [2] (.tuple #[.agg #[.int .i64 ((hgetV (hset (hset (hmake hp0 (newO 4 0 ByteArray.empty [])) (hmakeV hp0 4) (numV 1) (strV ⟨#[97]⟩)) (hmakeV hp0 4) zVl (hmakeV hp0 4)) (hmakeV hp0 4) (numV 1)).kind), .int .i64 ((hgetV (hset (hset (hmake hp0 (newO 4 0 ByteArray.empty [])) (hmakeV hp0 4) (numV 1) (strV ⟨#[97]⟩)) (hmakeV hp0 4) zVl (hmakeV hp0 4)) (hmakeV hp0 4) (numV 1)).p), .int .i64 ((hgetV (hset (hset (hmake hp0 (newO 4 0 ByteArray.empty [])) (hmakeV hp0 4) (numV 1) (strV ⟨#[97]⟩)) (hmakeV hp0 4) zVl (hmakeV hp0 4)) (hmakeV hp0 4) (numV 1)).q), .string ((hgetV (hset (hset (hmake hp0 (newO 4 0 ByteArray.empty [])) (hmakeV hp0 4) (numV 1) (strV ⟨#[97]⟩)) (hmakeV hp0 4) zVl (hmakeV hp0 4)) (hmakeV hp0 4) (numV 1)).str), .int .i64 ((hgetV (hset (hset (hmake hp0 (newO 4 0 ByteArray.empty [])) (hmakeV hp0 4) (numV 1) (strV ⟨#[97]⟩)) (hmakeV hp0 4) zVl (hmakeV hp0 4)) (hmakeV hp0 4) (numV 1)).ref)], .int .i64 (hgetE (hset (hset (hmake hp0 (newO 4 0 ByteArray.empty [])) (hmakeV hp0 4) (numV 1) (strV ⟨#[97]⟩)) (hmakeV hp0 4) zVl (hmakeV hp0 4)) (hmakeV hp0 4))]) ?_
  refine hp_ 5 [2] (.agg #[.int .i64 ((hgetV (hset (hset (hmake hp0 (newO 4 0 ByteArray.empty [])) (hmakeV hp0 4) (numV 1) (strV ⟨#[97]⟩)) (hmakeV hp0 4) zVl (hmakeV hp0 4)) (hmakeV hp0 4) (numV 1)).kind), .int .i64 ((hgetV (hset (hset (hmake hp0 (newO 4 0 ByteArray.empty [])) (hmakeV hp0 4) (numV 1) (strV ⟨#[97]⟩)) (hmakeV hp0 4) zVl (hmakeV hp0 4)) (hmakeV hp0 4) (numV 1)).p), .int .i64 ((hgetV (hset (hset (hmake hp0 (newO 4 0 ByteArray.empty [])) (hmakeV hp0 4) (numV 1) (strV ⟨#[97]⟩)) (hmakeV hp0 4) zVl (hmakeV hp0 4)) (hmakeV hp0 4) (numV 1)).q), .string ((hgetV (hset (hset (hmake hp0 (newO 4 0 ByteArray.empty [])) (hmakeV hp0 4) (numV 1) (strV ⟨#[97]⟩)) (hmakeV hp0 4) zVl (hmakeV hp0 4)) (hmakeV hp0 4) (numV 1)).str), .int .i64 ((hgetV (hset (hset (hmake hp0 (newO 4 0 ByteArray.empty [])) (hmakeV hp0 4) (numV 1) (strV ⟨#[97]⟩)) (hmakeV hp0 4) zVl (hmakeV hp0 4)) (hmakeV hp0 4) (numV 1)).ref)]) ?_
  refine hp_ 6 [2] (.int .i64 (hgetE (hset (hset (hmake hp0 (newO 4 0 ByteArray.empty [])) (hmakeV hp0 4) (numV 1) (strV ⟨#[97]⟩)) (hmakeV hp0 4) zVl (hmakeV hp0 4)) (hmakeV hp0 4))) ?_
  exact h_use hj15 g13 (fun _ h => h.re [1, 0, 0] [])
 refine h_stepS2 2 7 ?_ ?_
 ·
  refine s_vcall (fun _ h => lnum_s 1) ?_
  rintro _ rfl
  refine s_nil (xs_held [1] ?_)
  refine h_stepS2 3 7 ?_ ?_
  ·
   refine s_call [0] (hget_s (st := (hset (hset (hmake hp0 (newO 4 0 ByteArray.empty [])) (hmakeV hp0 4) (numV 1) (strV ⟨#[97]⟩)) (hmakeV hp0 4) zVl (hmakeV hp0 4))) hs10 (by omega) (hmakeV hp0 4) (numV 1)) ?_
   rintro _ _ ⟨rfl, rfl⟩
   refine s_nil (xs_held [1] ?_)
   refine hp_ 4 [1] (.tuple #[.agg #[.int .i64 ((hgetV (hset (hset (hmake hp0 (newO 4 0 ByteArray.empty [])) (hmakeV hp0 4) (numV 1) (strV ⟨#[97]⟩)) (hmakeV hp0 4) zVl (hmakeV hp0 4)) (hmakeV hp0 4) (numV 1)).kind), .int .i64 ((hgetV (hset (hset (hmake hp0 (newO 4 0 ByteArray.empty [])) (hmakeV hp0 4) (numV 1) (strV ⟨#[97]⟩)) (hmakeV hp0 4) zVl (hmakeV hp0 4)) (hmakeV hp0 4) (numV 1)).p), .int .i64 ((hgetV (hset (hset (hmake hp0 (newO 4 0 ByteArray.empty [])) (hmakeV hp0 4) (numV 1) (strV ⟨#[97]⟩)) (hmakeV hp0 4) zVl (hmakeV hp0 4)) (hmakeV hp0 4) (numV 1)).q), .string ((hgetV (hset (hset (hmake hp0 (newO 4 0 ByteArray.empty [])) (hmakeV hp0 4) (numV 1) (strV ⟨#[97]⟩)) (hmakeV hp0 4) zVl (hmakeV hp0 4)) (hmakeV hp0 4) (numV 1)).str), .int .i64 ((hgetV (hset (hset (hmake hp0 (newO 4 0 ByteArray.empty [])) (hmakeV hp0 4) (numV 1) (strV ⟨#[97]⟩)) (hmakeV hp0 4) zVl (hmakeV hp0 4)) (hmakeV hp0 4) (numV 1)).ref)], .int .i64 (hgetE (hset (hset (hmake hp0 (newO 4 0 ByteArray.empty [])) (hmakeV hp0 4) (numV 1) (strV ⟨#[97]⟩)) (hmakeV hp0 4) zVl (hmakeV hp0 4)) (hmakeV hp0 4))]) ?_
   refine hp_ 5 [1] (.agg #[.int .i64 ((hgetV (hset (hset (hmake hp0 (newO 4 0 ByteArray.empty [])) (hmakeV hp0 4) (numV 1) (strV ⟨#[97]⟩)) (hmakeV hp0 4) zVl (hmakeV hp0 4)) (hmakeV hp0 4) (numV 1)).kind), .int .i64 ((hgetV (hset (hset (hmake hp0 (newO 4 0 ByteArray.empty [])) (hmakeV hp0 4) (numV 1) (strV ⟨#[97]⟩)) (hmakeV hp0 4) zVl (hmakeV hp0 4)) (hmakeV hp0 4) (numV 1)).p), .int .i64 ((hgetV (hset (hset (hmake hp0 (newO 4 0 ByteArray.empty [])) (hmakeV hp0 4) (numV 1) (strV ⟨#[97]⟩)) (hmakeV hp0 4) zVl (hmakeV hp0 4)) (hmakeV hp0 4) (numV 1)).q), .string ((hgetV (hset (hset (hmake hp0 (newO 4 0 ByteArray.empty [])) (hmakeV hp0 4) (numV 1) (strV ⟨#[97]⟩)) (hmakeV hp0 4) zVl (hmakeV hp0 4)) (hmakeV hp0 4) (numV 1)).str), .int .i64 ((hgetV (hset (hset (hmake hp0 (newO 4 0 ByteArray.empty [])) (hmakeV hp0 4) (numV 1) (strV ⟨#[97]⟩)) (hmakeV hp0 4) zVl (hmakeV hp0 4)) (hmakeV hp0 4) (numV 1)).ref)]) ?_
   refine hp_ 6 [1] (.int .i64 (hgetE (hset (hset (hmake hp0 (newO 4 0 ByteArray.empty [])) (hmakeV hp0 4) (numV 1) (strV ⟨#[97]⟩)) (hmakeV hp0 4) zVl (hmakeV hp0 4)) (hmakeV hp0 4))) ?_
   refine h_stepS 7 ?_
   refine s_alloc (.agg #[.int .i64 0, .int .i64 0, .int .i64 0, .string ByteArray.empty, .int .i64 0]) #[.int .i64 0, .int .i64 0, .int .i64 0, .string ByteArray.empty, .int .i64 0] (fun g32 => ?_)
   refine s_nil (xs_held [2] ?_)
   exact h_use hj15 g32 (fun _ h => h.re [0, 0, 0] [])
  ·
   refine s_alloc (.agg #[.int .i64 0, .int .i64 0, .int .i64 0, .string ByteArray.empty, .int .i64 0]) #[.int .i64 0, .int .i64 0, .int .i64 0, .string ByteArray.empty, .int .i64 0] (fun g33 => ?_)
   refine s_nil (xs_held [2] ?_)
   exact h_use hj31 g33 (fun _ h => h.re [0, 0, 0] [])
 ·
  refine s_alloc (.agg #[.int .i64 0, .int .i64 0, .int .i64 0, .string ByteArray.empty, .int .i64 0]) #[.int .i64 0, .int .i64 0, .int .i64 0, .string ByteArray.empty, .int .i64 0] (fun g34 => ?_)
  refine s_nil (xs_held [2] ?_)
  refine h_stepS 2 ?_
  refine s_vcall (fun _ h => lnum_s 1) ?_
  rintro _ rfl
  refine s_nil (xs_held [2] ?_)
  exact h_use hj31 g34 (fun _ h => h.re [0, 0, 0] [])
/-- What 'long' leaves: at most 100 calls, their lists short. -/
def shortC (c : Cl) : Prop := c.a.str.size ≤ 4106 ∧ c.b.str.size ≤ 4106 ∧ c.c.str.size ≤ 4106 ∧ c.s.size ≤ 100 ∧ c.l.length ≤ 20
theorem short_step {l : List Cl} {i : Nat} {y : Cl} (h : ∀ x ∈ l.take i, shortC x) (hy : l[i]? = some y) (h2 : shortC y) : ∀ x ∈ l.take (i + 1), shortC x := fun x hx => by
  rw [List.take_add_one, hy] at hx
  rcases List.mem_append.1 hx with hx | hx
  · exact h x hx
  · rw [Option.toList_some, List.mem_singleton] at hx; rw [hx]; exact h2
theorem long_s {Z : Zone} {lv : Value} {l : List Cl} (hL : KnL Z lv l) : SF Try.prog 8 #[lv] Z [] fun r Bs => ∃ x, r = .bool x ∧ (x = false → l.length ≤ 100 ∧ ∀ x ∈ l, shortC x) ∧ Bs = [] := by
 refine sf_enter Try.func8 69 [(0, lv)] (fun w0 => ?_)
 refine k_sr ?_
 refine sp (.bool false) ?_
 refine s_nt ?_
 refine k_seq ?_
 refine k_sr ?_
 refine sp (.int .i64 0) ?_
 refine s_nt ?_
 refine k_block ?_
 refine k_fact (fun H h => (hL.obs.get h).len_le) (fun lA => ?_)
 refine k_loop (ι := Nat) (fun i => i ≤ 100 ∧ i ≤ l.length ∧ ∀ x ∈ l.take i, shortC x) (fun i => [(0, lv), (3, .int .i64 (i : Int))]) (fun i => []) (fun i => 100 - i) 0 ⟨by omega, by omega, by simp⟩ (sub_of rfl ⟨⟨rfl, rfl⟩, ⟨⟨rfl, rfl⟩, trivial⟩⟩) (fun _ h => h.re [] []) ?_
 rintro i hi1
 show SK _ _ _ _ _ [(0, lv), (3, .int .i64 (i : Int))] _ []
 refine k_seq ?_
 refine k_cut (ι := Unit) (fun _ => True) (fun _ => [(0, lv), (3, .int .i64 (i : Int)), (13, .bool ((decide ((i : Int) < (l.length : Int))) && (decide ((i : Int) < 100))))]) (fun _ => []) ?_ (fun _ _ => ?_)
 ·
  refine k_reg ?_
  refine sp (.int .i64 (i : Int)) ?_
  refine sp lv ?_
  refine s_lt (t_len ClT_ok Try.underlying30 (.zn hL.obs)) ?_
  refine s_lt t_cmp ?_
  refine sp (.bool (decide ((i : Int) < (l.length : Int)))) ?_
  refine s_fork 10 (decide ((i : Int) < (l.length : Int))) (fun c2 => ?_) (fun c2 => ?_)
  ·
   have p3 := of_decide_eq_true c2
   refine sp (.int .i64 (i : Int)) ?_
   refine s_lt t_cmp ?_
   refine sp (.bool (decide ((i : Int) < 100))) ?_
   refine s_nil ?_
   exact xs_cut () trivial (sub_of rfl ⟨⟨rfl, rfl⟩, ⟨⟨rfl, rfl⟩, ⟨⟨rfl, show Value.bool (decide ((i : Int) < 100)) = Value.bool ((decide ((i : Int) < (l.length : Int))) && (decide ((i : Int) < 100))) by first | (simp only [c2, bls]; done) | simp [c2]⟩, trivial⟩⟩⟩) (fun _ h => h.re [] [])
  ·
   have p4 := of_decide_eq_false c2
   refine s_skip ?_
   refine s_skip ?_
   refine sp (.bool false) ?_
   refine s_nil ?_
   exact xs_cut () trivial (sub_of rfl ⟨⟨rfl, rfl⟩, ⟨⟨rfl, rfl⟩, ⟨⟨rfl, show Value.bool false = Value.bool ((decide ((i : Int) < (l.length : Int))) && (decide ((i : Int) < 100))) by first | (simp only [c2, bls]; done) | simp [c2]⟩, trivial⟩⟩⟩) (fun _ h => h.re [] [])
 ·
  refine k_cond ((decide ((i : Int) < (l.length : Int))) && (decide ((i : Int) < 100))) (fun c5 => ?_) (fun c5 => ?_)
  ·
   obtain ⟨c6, c7⟩ := and_t c5
   have p8 := of_decide_eq_true c6
   have p9 := of_decide_eq_true c7
   refine k_st ?_
   refine k_seq ?_
   refine k_block ?_
   refine k_sr ?_
   refine sp lv ?_
   refine sp (.int .i64 (i : Int)) ?_
   refine s_lt (t_index ClT_ok Try.underlying30 (.zn hL.obs) (i : Int) i (by omega) (by (try simp only [lnm]); omega) (by omega)) ?_
   obtain ⟨y10, hy11⟩ : ∃ y, l[i]? = some y := ⟨_, List.getElem?_eq_getElem (by (try simp only [lnm]); omega)⟩
   refine s_lt (t_loadE ClT_ok (.zn hL.obs) hy11) ?_
   refine s_alloc (.agg #[.int .i64 0, .int .i64 0, .int .i64 0, .int .i64 0, .string ByteArray.empty, .int .i64 0, .int .i64 0, .int .i64 0, .int .i64 0, .string ByteArray.empty, .int .i64 0, .int .i64 0, .int .i64 0, .int .i64 0, .string ByteArray.empty, .int .i64 0, .int .i64 0, .string ByteArray.empty, (.slice none 0 0)]) #[.int .i64 0, .int .i64 0, .int .i64 0, .int .i64 0, .string ByteArray.empty, .int .i64 0, .int .i64 0, .int .i64 0, .int .i64 0, .string ByteArray.empty, .int .i64 0, .int .i64 0, .int .i64 0, .int .i64 0, .string ByteArray.empty, .int .i64 0, .int .i64 0, .string ByteArray.empty, (.slice none 0 0)] (fun g12 => ?_)
   refine s_store 0 #[.int .i64 y10.kind, .int .i64 y10.a.kind, .int .i64 y10.a.p, .int .i64 y10.a.q, .string y10.a.str, .int .i64 y10.a.ref, .int .i64 y10.b.kind, .int .i64 y10.b.p, .int .i64 y10.b.q, .string y10.b.str, .int .i64 y10.b.ref, .int .i64 y10.c.kind, .int .i64 y10.c.p, .int .i64 y10.c.q, .string y10.c.str, .int .i64 y10.c.ref, .int .i64 y10.n, .string y10.s, y10.lv.v] ?_
   refine s_nt ?_
   refine k_seq ?_
   refine k_cut (ι := Unit) (fun _ => True) (fun _ => [(0, lv), (3, .int .i64 (i : Int)), (4, pB g12 0), (50, .bool ((decide ((4106 : Int) < (y10.a.str.size : Int))) || ((decide ((4106 : Int) < (y10.b.str.size : Int))) || ((decide ((4106 : Int) < (y10.c.str.size : Int))) || ((decide ((100 : Int) < (y10.s.size : Int))) || (decide ((20 : Int) < (y10.l.length : Int))))))))]) (fun _ => [blkA g12 #[.int .i64 y10.kind, .int .i64 y10.a.kind, .int .i64 y10.a.p, .int .i64 y10.a.q, .string y10.a.str, .int .i64 y10.a.ref, .int .i64 y10.b.kind, .int .i64 y10.b.p, .int .i64 y10.b.q, .string y10.b.str, .int .i64 y10.b.ref, .int .i64 y10.c.kind, .int .i64 y10.c.p, .int .i64 y10.c.q, .string y10.c.str, .int .i64 y10.c.ref, .int .i64 y10.n, .string y10.s, y10.lv.v] 29]) ?_ (fun _ _ => ?_)
   ·
    refine k_reg ?_
    refine sp (pB g12 1) ?_
    refine sp (pB g12 4) ?_
    refine s_lt (t_load 0 (.string y10.a.str)) ?_
    refine s_lt (t_kern (.int .i64 (y10.a.str.size : Int))) ?_
    refine s_lt t_cmp ?_
    refine sp (.bool (decide ((4106 : Int) < (y10.a.str.size : Int)))) ?_
    refine s_fork 25 (decide ((4106 : Int) < (y10.a.str.size : Int))) (fun c13 => ?_) (fun c13 => ?_)
    ·
     have p14 := of_decide_eq_true c13
     refine s_skip ?_
     refine s_skip ?_
     refine s_skip ?_
     refine s_skip ?_
     refine s_skip ?_
     refine sp (.bool true) ?_
     refine sp (.bool true) ?_
     refine s_skip ?_
     refine s_skip ?_
     refine s_skip ?_
     refine s_skip ?_
     refine s_skip ?_
     refine sp (.bool true) ?_
     refine sp (.bool true) ?_
     refine s_skip ?_
     refine s_skip ?_
     refine s_skip ?_
     refine s_skip ?_
     refine sp (.bool true) ?_
     refine sp (.bool true) ?_
     refine s_skip ?_
     refine s_skip ?_
     refine s_skip ?_
     refine s_skip ?_
     refine sp (.bool true) ?_
     refine s_nil ?_
     exact xs_cut () trivial (sub_of rfl ⟨⟨rfl, rfl⟩, ⟨⟨rfl, rfl⟩, ⟨⟨rfl, rfl⟩, ⟨⟨rfl, show Value.bool true = Value.bool ((decide ((4106 : Int) < (y10.a.str.size : Int))) || ((decide ((4106 : Int) < (y10.b.str.size : Int))) || ((decide ((4106 : Int) < (y10.c.str.size : Int))) || ((decide ((100 : Int) < (y10.s.size : Int))) || (decide ((20 : Int) < (y10.l.length : Int))))))) by first | (simp only [c13, bls]; done) | simp [c13]⟩, trivial⟩⟩⟩⟩) (fun _ h => h.re [0] [])
    ·
     have p15 := of_decide_eq_false c13
     refine sp (pB g12 6) ?_
     refine sp (pB g12 9) ?_
     refine s_lt (t_load 0 (.string y10.b.str)) ?_
     refine s_lt (t_kern (.int .i64 (y10.b.str.size : Int))) ?_
     refine s_lt t_cmp ?_
     refine sp (.bool (decide ((4106 : Int) < (y10.b.str.size : Int)))) ?_
     refine sp (.bool (decide ((4106 : Int) < (y10.b.str.size : Int)))) ?_
     refine s_fork 32 (decide ((4106 : Int) < (y10.b.str.size : Int))) (fun c16 => ?_) (fun c16 => ?_)
     ·
      have p17 := of_decide_eq_true c16
      refine s_skip ?_
      refine s_skip ?_
      refine s_skip ?_
      refine s_skip ?_
      refine s_skip ?_
      refine sp (.bool true) ?_
      refine sp (.bool true) ?_
      refine s_skip ?_
      refine s_skip ?_
      refine s_skip ?_
      refine s_skip ?_
      refine sp (.bool true) ?_
      refine sp (.bool true) ?_
      refine s_skip ?_
      refine s_skip ?_
      refine s_skip ?_
      refine s_skip ?_
      refine sp (.bool true) ?_
      refine s_nil ?_
      exact xs_cut () trivial (sub_of rfl ⟨⟨rfl, rfl⟩, ⟨⟨rfl, rfl⟩, ⟨⟨rfl, rfl⟩, ⟨⟨rfl, show Value.bool true = Value.bool ((decide ((4106 : Int) < (y10.a.str.size : Int))) || ((decide ((4106 : Int) < (y10.b.str.size : Int))) || ((decide ((4106 : Int) < (y10.c.str.size : Int))) || ((decide ((100 : Int) < (y10.s.size : Int))) || (decide ((20 : Int) < (y10.l.length : Int))))))) by first | (simp only [c13, c16, bls]; done) | simp [c13, c16]⟩, trivial⟩⟩⟩⟩) (fun _ h => h.re [0] [])
     ·
      have p18 := of_decide_eq_false c16
      refine sp (pB g12 11) ?_
      refine sp (pB g12 14) ?_
      refine s_lt (t_load 0 (.string y10.c.str)) ?_
      refine s_lt (t_kern (.int .i64 (y10.c.str.size : Int))) ?_
      refine s_lt t_cmp ?_
      refine sp (.bool (decide ((4106 : Int) < (y10.c.str.size : Int)))) ?_
      refine sp (.bool (decide ((4106 : Int) < (y10.c.str.size : Int)))) ?_
      refine s_fork 39 (decide ((4106 : Int) < (y10.c.str.size : Int))) (fun c19 => ?_) (fun c19 => ?_)
      ·
       have p20 := of_decide_eq_true c19
       refine s_skip ?_
       refine s_skip ?_
       refine s_skip ?_
       refine s_skip ?_
       refine sp (.bool true) ?_
       refine sp (.bool true) ?_
       refine s_skip ?_
       refine s_skip ?_
       refine s_skip ?_
       refine s_skip ?_
       refine sp (.bool true) ?_
       refine s_nil ?_
       exact xs_cut () trivial (sub_of rfl ⟨⟨rfl, rfl⟩, ⟨⟨rfl, rfl⟩, ⟨⟨rfl, rfl⟩, ⟨⟨rfl, show Value.bool true = Value.bool ((decide ((4106 : Int) < (y10.a.str.size : Int))) || ((decide ((4106 : Int) < (y10.b.str.size : Int))) || ((decide ((4106 : Int) < (y10.c.str.size : Int))) || ((decide ((100 : Int) < (y10.s.size : Int))) || (decide ((20 : Int) < (y10.l.length : Int))))))) by first | (simp only [c13, c16, c19, bls]; done) | simp [c13, c16, c19]⟩, trivial⟩⟩⟩⟩) (fun _ h => h.re [0] [])
      ·
       have p21 := of_decide_eq_false c19
       refine sp (pB g12 17) ?_
       refine s_lt (t_load 0 (.string y10.s)) ?_
       refine s_lt (t_kern (.int .i64 (y10.s.size : Int))) ?_
       refine s_lt t_cmp ?_
       refine sp (.bool (decide ((100 : Int) < (y10.s.size : Int)))) ?_
       refine sp (.bool (decide ((100 : Int) < (y10.s.size : Int)))) ?_
       refine s_fork 45 (decide ((100 : Int) < (y10.s.size : Int))) (fun c22 => ?_) (fun c22 => ?_)
       ·
        have p23 := of_decide_eq_true c22
        refine s_skip ?_
        refine s_skip ?_
        refine s_skip ?_
        refine s_skip ?_
        refine sp (.bool true) ?_
        refine s_nil ?_
        exact xs_cut () trivial (sub_of rfl ⟨⟨rfl, rfl⟩, ⟨⟨rfl, rfl⟩, ⟨⟨rfl, rfl⟩, ⟨⟨rfl, show Value.bool true = Value.bool ((decide ((4106 : Int) < (y10.a.str.size : Int))) || ((decide ((4106 : Int) < (y10.b.str.size : Int))) || ((decide ((4106 : Int) < (y10.c.str.size : Int))) || ((decide ((100 : Int) < (y10.s.size : Int))) || (decide ((20 : Int) < (y10.l.length : Int))))))) by first | (simp only [c13, c16, c19, c22, bls]; done) | simp [c13, c16, c19, c22]⟩, trivial⟩⟩⟩⟩) (fun _ h => h.re [0] [])
       ·
        have p24 := of_decide_eq_false c22
        refine sp (pB g12 18) ?_
        refine s_lt (t_load 0 y10.lv.v) ?_
        refine s_lt (t_len VlT_ok Try.underlying22 (.zn (hL.each y10 (List.mem_of_getElem? hy11)))) ?_
        refine s_lt t_cmp ?_
        refine sp (.bool (decide ((20 : Int) < (y10.l.length : Int)))) ?_
        refine s_nil ?_
        exact xs_cut () trivial (sub_of rfl ⟨⟨rfl, rfl⟩, ⟨⟨rfl, rfl⟩, ⟨⟨rfl, rfl⟩, ⟨⟨rfl, show Value.bool (decide ((20 : Int) < (y10.l.length : Int))) = Value.bool ((decide ((4106 : Int) < (y10.a.str.size : Int))) || ((decide ((4106 : Int) < (y10.b.str.size : Int))) || ((decide ((4106 : Int) < (y10.c.str.size : Int))) || ((decide ((100 : Int) < (y10.s.size : Int))) || (decide ((20 : Int) < (y10.l.length : Int))))))) by first | (simp only [c13, c16, c19, c22, bls]; done) | simp [c13, c16, c19, c22]⟩, trivial⟩⟩⟩⟩) (fun _ h => h.re [0] [])
   ·
    refine k_cond ((decide ((4106 : Int) < (y10.a.str.size : Int))) || ((decide ((4106 : Int) < (y10.b.str.size : Int))) || ((decide ((4106 : Int) < (y10.c.str.size : Int))) || ((decide ((100 : Int) < (y10.s.size : Int))) || (decide ((20 : Int) < (y10.l.length : Int))))))) (fun c25 => ?_) (fun c25 => ?_)
    ·
     have p26 := c25
     simp only [Bool.and_eq_true, Bool.or_eq_true, Bool.and_eq_false_iff, Bool.or_eq_false_iff, Bool.not_eq_true', Bool.not_eq_false', decide_eq_true_eq, decide_eq_false_iff_not] at p26
     refine k_sr ?_
     refine sp (.bool true) ?_
     refine s_nt ?_
     refine k_ret ?_
     refine xs_ret ?_
     refine xs_retBlock ?_
     refine xs_ret ?_
     refine xs_ret ?_
     refine xs_retBlock ?_
     refine xs_ret ?_
     exact xs_fin [.bool true] [] (SI.tmp 2 SI.nil) (fun _ h => h.re [] [0]) ⟨true, rfl, (fun h => by cases h), rfl⟩
    ·
     obtain ⟨c27, c28⟩ := or_f c25
     have p29 := of_decide_eq_false c27
     obtain ⟨c30, c31⟩ := or_f c28
     have p32 := of_decide_eq_false c30
     obtain ⟨c33, c34⟩ := or_f c31
     have p35 := of_decide_eq_false c33
     obtain ⟨c36, c37⟩ := or_f c34
     have p38 := of_decide_eq_false c36
     have p39 := of_decide_eq_false c37
     refine k_st ?_
     refine k_sr ?_
     refine sp (.int .i64 0) ?_
     refine s_nt ?_
     refine k_block ?_
     refine k_loop (ι := Nat) (fun j => j ≤ y10.l.length) (fun j => [(0, lv), (3, .int .i64 (i : Int)), (4, pB g12 0), (5, .int .i64 (j : Int))]) (fun j => [blkA g12 #[.int .i64 y10.kind, .int .i64 y10.a.kind, .int .i64 y10.a.p, .int .i64 y10.a.q, .string y10.a.str, .int .i64 y10.a.ref, .int .i64 y10.b.kind, .int .i64 y10.b.p, .int .i64 y10.b.q, .string y10.b.str, .int .i64 y10.b.ref, .int .i64 y10.c.kind, .int .i64 y10.c.p, .int .i64 y10.c.q, .string y10.c.str, .int .i64 y10.c.ref, .int .i64 y10.n, .string y10.s, y10.lv.v] 29]) (fun j => y10.l.length - j) 0 (Nat.zero_le _) (sub_of rfl ⟨⟨rfl, rfl⟩, ⟨⟨rfl, rfl⟩, ⟨⟨rfl, rfl⟩, ⟨⟨rfl, rfl⟩, trivial⟩⟩⟩⟩) (fun _ h => h.re [0] []) ?_
     rintro j hi40
     show SK _ _ _ _ _ [(0, lv), (3, .int .i64 (i : Int)), (4, .pointer (some ⟨g12, 0, none⟩)), (5, .int .i64 (j : Int))] _ [blkA g12 #[.int .i64 y10.kind, .int .i64 y10.a.kind, .int .i64 y10.a.p, .int .i64 y10.a.q, .string y10.a.str, .int .i64 y10.a.ref, .int .i64 y10.b.kind, .int .i64 y10.b.p, .int .i64 y10.b.q, .string y10.b.str, .int .i64 y10.b.ref, .int .i64 y10.c.kind, .int .i64 y10.c.p, .int .i64 y10.c.q, .string y10.c.str, .int .i64 y10.c.ref, .int .i64 y10.n, .string y10.s, y10.lv.v] 29]
     refine k_seq ?_
     refine k_sr ?_
     refine sp (.int .i64 (j : Int)) ?_
     refine sp (pB g12 18) ?_
     refine s_lt (t_load 0 y10.lv.v) ?_
     refine s_lt (t_len VlT_ok Try.underlying22 (.zn (hL.each y10 (List.mem_of_getElem? hy11)))) ?_
     refine s_lt t_cmp ?_
     refine s_nt ?_
     refine k_cond (decide ((j : Int) < (y10.l.length : Int))) (fun c41 => ?_) (fun c41 => ?_)
     ·
      have p42 := of_decide_eq_true c41
      refine k_st ?_
      refine k_seq ?_
      refine k_block ?_
      refine k_sr ?_
      refine sp (pB g12 18) ?_
      refine s_lt (t_load 0 y10.lv.v) ?_
      refine sp (.int .i64 (j : Int)) ?_
      refine s_lt (t_index VlT_ok Try.underlying22 (.zn (hL.each y10 (List.mem_of_getElem? hy11))) (j : Int) j (by omega) (by (try simp only [lnm]); omega) (by omega)) ?_
      refine sp (.pointer (some ((elemAt VlT.size y10.lv.v j).add 3))) ?_
      obtain ⟨y43, hy44⟩ : ∃ y, y10.l[j]? = some y := ⟨_, List.getElem?_eq_getElem (by (try simp only [lnm]); omega)⟩
      refine s_lt (t_loadF 3 VlT_ok (.zn (hL.each y10 (List.mem_of_getElem? hy11))) hy44) ?_
      refine s_lt (t_kern (.int .i64 (y43.str.size : Int))) ?_
      refine s_lt t_cmp ?_
      refine s_nt ?_
      refine k_cond (decide ((4106 : Int) < (y43.str.size : Int))) (fun c45 => ?_) (fun c45 => ?_)
      ·
       have p46 := of_decide_eq_true c45
       refine k_sr ?_
       refine sp (.bool true) ?_
       refine s_nt ?_
       refine k_ret ?_
       refine xs_retBlock ?_
       refine xs_ret ?_
       refine xs_ret ?_
       refine xs_retBlock ?_
       refine xs_retBlock ?_
       refine xs_ret ?_
       refine xs_ret ?_
       refine xs_retBlock ?_
       refine xs_ret ?_
       exact xs_fin [.bool true] [] (SI.tmp 2 SI.nil) (fun _ h => h.re [] [0]) ⟨true, rfl, (fun h => by cases h), rfl⟩
      ·
       have p47 := of_decide_eq_false c45
       refine k_skip ?_
       refine xs_block ?_
       refine xs_then ?_
       refine k_reg ?_
       refine sp (.int .i64 (j : Int)) ?_
       refine s_lt (t_add (j : Int) 1 (by (try simp only [lnm]); omega)) ?_
       refine sp (.int .i64 ((j : Int) + 1)) ?_
       refine s_nil ?_
       exact xs_round (j + 1) (by omega) (by omega) (sub_of rfl ⟨⟨rfl, rfl⟩, ⟨⟨rfl, rfl⟩, ⟨⟨rfl, rfl⟩, ⟨⟨rfl, rfl⟩, trivial⟩⟩⟩⟩) (fun _ h => h.re [0] [])
     ·
      have p48 := of_decide_eq_false c41
      refine k_exit ?_
      refine xs_exit ?_
      refine xs_exit ?_
      refine xs_here ?_
      refine xs_block ?_
      refine xs_then ?_
      refine k_reg ?_
      refine sp (.int .i64 (i : Int)) ?_
      refine s_lt (t_add (i : Int) 1 (by (try simp only [lnm]); omega)) ?_
      refine sp (.int .i64 ((i : Int) + 1)) ?_
      refine s_nil ?_
      exact xs_round (i + 1) (by omega) ⟨by omega, by omega, short_step hi1.2.2 hy11 ⟨by omega, by omega, by omega, by omega, by omega⟩⟩ (sub_of rfl ⟨⟨rfl, rfl⟩, ⟨⟨rfl, rfl⟩, trivial⟩⟩) (fun _ h => h.re [] [0])
  ·
   have p49 := c5
   simp only [Bool.and_eq_true, Bool.or_eq_true, Bool.and_eq_false_iff, Bool.or_eq_false_iff, Bool.not_eq_true', Bool.not_eq_false', decide_eq_true_eq, decide_eq_false_iff_not] at p49
   refine k_exit ?_
   refine xs_exit ?_
   refine xs_exit ?_
   refine xs_here ?_
   refine xs_then ?_
   refine k_sr ?_
   refine sp lv ?_
   refine s_lt (t_len ClT_ok Try.underlying30 (.zn hL.obs)) ?_
   refine s_lt t_cmp ?_
   refine sp (.bool (decide ((100 : Int) < (l.length : Int)))) ?_
   refine s_nt ?_
   refine k_ret ?_
   refine xs_fin [.bool (decide ((100 : Int) < (l.length : Int)))] [] (SI.tmp 2 SI.nil) (fun _ h => h.re [] []) ⟨_, rfl, fun hq => ?_, rfl⟩
   have hl := of_decide_eq_false hq; have hall := hi1.2.2; rw [List.take_of_length_le (by omega)] at hall; exact ⟨by omega, hall⟩
theorem KnL.up {Z : Zone} {As : List Asr} {H : Heap} {lv : Value} {l : List Cl} (k : KnL Z lv l) (h : Holds Z As H) : KnL (zoneOf H) lv l := ⟨k.obs.up h, fun x hx => (k.each x hx).up h⟩
theorem program_s {Z : Zone} {F : List Asr} {b : Nat} {st : Hst} {n : Nat} (hsm : HSm n st) (hn : n ≤ 300) (hw : HW st) {c : Cl} (hc : KnC Z c) (hcl : c.l.length ≤ 20) : SF Try.prog 30 #[.pointer (some ⟨b, 0, none⟩), c.w] Z (hpA b st :: F) fun r Bs => r = (hres st c).w_ ∧ Bs = hpA b (hcall st c) :: F := by
 refine sf_enter Try.func30 246 [(0, pB b 0), (1, .agg #[.int .i64 c.kind, .int .i64 c.a.kind, .int .i64 c.a.p, .int .i64 c.a.q, .string c.a.str, .int .i64 c.a.ref, .int .i64 c.b.kind, .int .i64 c.b.p, .int .i64 c.b.q, .string c.b.str, .int .i64 c.b.ref, .int .i64 c.c.kind, .int .i64 c.c.p, .int .i64 c.c.q, .string c.c.str, .int .i64 c.c.ref, .int .i64 c.n, .string c.s, c.lv.v])] (fun w0 => ?_)
 refine k_fact (fun H h => hpA_inv h) (fun hi0 => ?_)
 refine k_sr ?_
 refine s_box #[.int .i64 c.kind, .int .i64 c.a.kind, .int .i64 c.a.p, .int .i64 c.a.q, .string c.a.str, .int .i64 c.a.ref, .int .i64 c.b.kind, .int .i64 c.b.p, .int .i64 c.b.q, .string c.b.str, .int .i64 c.b.ref, .int .i64 c.c.kind, .int .i64 c.c.p, .int .i64 c.c.q, .string c.c.str, .int .i64 c.c.ref, .int .i64 c.n, .string c.s, c.lv.v] (fun g1 => ?_)
 refine s_alloc (.agg #[.int .i64 0, .int .i64 0, .int .i64 0, .string ByteArray.empty, .int .i64 0, .int .i64 0, .int .i64 0, .int .i64 0, .string ByteArray.empty, .int .i64 0, .int .i64 0, .string ByteArray.empty, .bool false, .int .i64 0]) #[.int .i64 0, .int .i64 0, .int .i64 0, .string ByteArray.empty, .int .i64 0, .int .i64 0, .int .i64 0, .int .i64 0, .string ByteArray.empty, .int .i64 0, .int .i64 0, .string ByteArray.empty, .bool false, .int .i64 0] (fun g2 => ?_)
 refine s_nr ?_
 refine s_lt (t_kern (.agg #[.int .i64 0, .int .i64 0, .int .i64 0, .string ByteArray.empty, .int .i64 0, .int .i64 0, .int .i64 0, .int .i64 0, .string ByteArray.empty, .int .i64 0, .int .i64 0, .string ByteArray.empty, .bool false, .int .i64 0])) ?_
 refine s_alloc (.agg #[.int .i64 0, .int .i64 0, .int .i64 0, .string ByteArray.empty, .int .i64 0, .int .i64 0, .int .i64 0, .int .i64 0, .string ByteArray.empty, .int .i64 0, .int .i64 0, .string ByteArray.empty, .bool false, .int .i64 0]) #[.int .i64 0, .int .i64 0, .int .i64 0, .string ByteArray.empty, .int .i64 0, .int .i64 0, .int .i64 0, .int .i64 0, .string ByteArray.empty, .int .i64 0, .int .i64 0, .string ByteArray.empty, .bool false, .int .i64 0] (fun g3 => ?_)
 refine s_store 0 #[.int .i64 0, .int .i64 0, .int .i64 0, .string ByteArray.empty, .int .i64 0, .int .i64 0, .int .i64 0, .int .i64 0, .string ByteArray.empty, .int .i64 0, .int .i64 0, .string ByteArray.empty, .bool false, .int .i64 0] ?_
 refine s_nt ?_
 refine k_seq ?_
 refine k_sr ?_
 refine sp (pB g1 0) ?_
 refine s_lt (t_load 2 (.int .i64 c.kind)) ?_
 refine s_nt ?_
 refine k_block ?_
 refine k_sr ?_
 refine s_lt t_cmp ?_
 refine sp (.bool (decide (c.kind = 0))) ?_
 refine s_nt ?_
 refine k_cond (decide (c.kind = 0)) (fun c4 => ?_) (fun c4 => ?_)
 ·
  have p5 := of_decide_eq_true c4
  refine k_sr ?_
  refine sp (pB b 0) ?_
  refine s_call [3] (hnewtable_s (st := st) (by have := hsm.len; omega)) ?_
  rintro _ _ ⟨rfl, rfl⟩
  refine sp (.tuple #[.agg #[.int .i64 ((hmakeV st 4).kind), .int .i64 ((hmakeV st 4).p), .int .i64 ((hmakeV st 4).q), .string ((hmakeV st 4).str), .int .i64 ((hmakeV st 4).ref)], .int .i64 (hmakeE st)]) ?_
  refine sp (.agg #[.int .i64 ((hmakeV st 4).kind), .int .i64 ((hmakeV st 4).p), .int .i64 ((hmakeV st 4).q), .string ((hmakeV st 4).str), .int .i64 ((hmakeV st 4).ref)]) ?_
  refine sp (.int .i64 (hmakeE st)) ?_
  refine s_alloc (.agg #[.int .i64 0, .int .i64 0, .int .i64 0, .string ByteArray.empty, .int .i64 0]) #[.int .i64 0, .int .i64 0, .int .i64 0, .string ByteArray.empty, .int .i64 0] (fun g6 => ?_)
  refine s_store 0 #[.int .i64 ((hmakeV st 4).kind), .int .i64 ((hmakeV st 4).p), .int .i64 ((hmakeV st 4).q), .string ((hmakeV st 4).str), .int .i64 ((hmakeV st 4).ref)] ?_
  refine sp (.int .i64 (hmakeE st)) ?_
  refine s_nt ?_
  refine k_reg ?_
  refine s_lt (t_loadA 0 #[.int .i64 ((hmakeV st 4).kind), .int .i64 ((hmakeV st 4).p), .int .i64 ((hmakeV st 4).q), .string ((hmakeV st 4).str), .int .i64 ((hmakeV st 4).ref)]) ?_
  refine sp (.int .i64 (hmakeE st)) ?_
  refine s_lt (t_kern (.agg #[.int .i64 ((hmakeV st 4).kind), .int .i64 ((hmakeV st 4).p), .int .i64 ((hmakeV st 4).q), .string ((hmakeV st 4).str), .int .i64 ((hmakeV st 4).ref), .int .i64 0, .int .i64 0, .int .i64 0, .string ByteArray.empty, .int .i64 0, .int .i64 0, .string ByteArray.empty, .bool false, .int .i64 (hmakeE st)])) ?_
  refine s_store 2 #[.int .i64 ((hmakeV st 4).kind), .int .i64 ((hmakeV st 4).p), .int .i64 ((hmakeV st 4).q), .string ((hmakeV st 4).str), .int .i64 ((hmakeV st 4).ref), .int .i64 0, .int .i64 0, .int .i64 0, .string ByteArray.empty, .int .i64 0, .int .i64 0, .string ByteArray.empty, .bool false, .int .i64 (hmakeE st)] ?_
  refine s_nil ?_
  refine xs_block ?_
  refine xs_then ?_
  refine k_sr ?_
  refine s_lt (t_loadA 2 #[.int .i64 ((hmakeV st 4).kind), .int .i64 ((hmakeV st 4).p), .int .i64 ((hmakeV st 4).q), .string ((hmakeV st 4).str), .int .i64 ((hmakeV st 4).ref), .int .i64 0, .int .i64 0, .int .i64 0, .string ByteArray.empty, .int .i64 0, .int .i64 0, .string ByteArray.empty, .bool false, .int .i64 (hmakeE st)]) ?_
  refine s_store 3 #[.int .i64 ((hmakeV st 4).kind), .int .i64 ((hmakeV st 4).p), .int .i64 ((hmakeV st 4).q), .string ((hmakeV st 4).str), .int .i64 ((hmakeV st 4).ref), .int .i64 0, .int .i64 0, .int .i64 0, .string ByteArray.empty, .int .i64 0, .int .i64 0, .string ByteArray.empty, .bool false, .int .i64 (hmakeE st)] ?_
  refine s_nt ?_
  refine k_ret ?_
  have h1 : hcall st c = hmake st (newO 4 0 ByteArray.empty []) := hcall_0 (by omega)
  have h2 : hres st c = ⟨hmakeV st 4, zVl, 0, ByteArray.empty, false, hmakeE st⟩ := hres_0 (by omega)
  refine xs_fin [.agg #[.int .i64 ((hmakeV st 4).kind), .int .i64 ((hmakeV st 4).p), .int .i64 ((hmakeV st 4).q), .string ((hmakeV st 4).str), .int .i64 ((hmakeV st 4).ref), .int .i64 0, .int .i64 0, .int .i64 0, .string ByteArray.empty, .int .i64 0, .int .i64 0, .string ByteArray.empty, .bool false, .int .i64 (hmakeE st)]] (hpA b (hmake st (newO 4 0 ByteArray.empty [])) :: F) (SI.agg 4 65 3 SI.nil) (fun _ h => h.re [1] [1, 1, 1, 1]) ⟨?_, ?_⟩
  · rw [h2]; rfl
  · rw [h1]
 ·
  have p7 := of_decide_eq_false c4
  refine k_sr ?_
  refine s_lt t_cmp ?_
  refine sp (.bool (decide (c.kind = 1))) ?_
  refine s_nt ?_
  refine k_cond (decide (c.kind = 1)) (fun c8 => ?_) (fun c8 => ?_)
  ·
   have p9 := of_decide_eq_true c8
   refine k_sr ?_
   refine sp (pB b 0) ?_
   refine sp (pB g1 16) ?_
   refine s_lt (t_load 2 (.int .i64 c.n)) ?_
   refine s_call [3] (hnewfunc_s (st := st) (by have := hsm.len; omega) c.n) ?_
   rintro _ _ ⟨rfl, rfl⟩
   refine sp (.tuple #[.agg #[.int .i64 ((hmakeV st 5).kind), .int .i64 ((hmakeV st 5).p), .int .i64 ((hmakeV st 5).q), .string ((hmakeV st 5).str), .int .i64 ((hmakeV st 5).ref)], .int .i64 (hmakeE st)]) ?_
   refine sp (.agg #[.int .i64 ((hmakeV st 5).kind), .int .i64 ((hmakeV st 5).p), .int .i64 ((hmakeV st 5).q), .string ((hmakeV st 5).str), .int .i64 ((hmakeV st 5).ref)]) ?_
   refine sp (.int .i64 (hmakeE st)) ?_
   refine s_alloc (.agg #[.int .i64 0, .int .i64 0, .int .i64 0, .string ByteArray.empty, .int .i64 0]) #[.int .i64 0, .int .i64 0, .int .i64 0, .string ByteArray.empty, .int .i64 0] (fun g10 => ?_)
   refine s_store 0 #[.int .i64 ((hmakeV st 5).kind), .int .i64 ((hmakeV st 5).p), .int .i64 ((hmakeV st 5).q), .string ((hmakeV st 5).str), .int .i64 ((hmakeV st 5).ref)] ?_
   refine sp (.int .i64 (hmakeE st)) ?_
   refine s_nt ?_
   refine k_reg ?_
   refine s_lt (t_loadA 0 #[.int .i64 ((hmakeV st 5).kind), .int .i64 ((hmakeV st 5).p), .int .i64 ((hmakeV st 5).q), .string ((hmakeV st 5).str), .int .i64 ((hmakeV st 5).ref)]) ?_
   refine sp (.int .i64 (hmakeE st)) ?_
   refine s_lt (t_kern (.agg #[.int .i64 ((hmakeV st 5).kind), .int .i64 ((hmakeV st 5).p), .int .i64 ((hmakeV st 5).q), .string ((hmakeV st 5).str), .int .i64 ((hmakeV st 5).ref), .int .i64 0, .int .i64 0, .int .i64 0, .string ByteArray.empty, .int .i64 0, .int .i64 0, .string ByteArray.empty, .bool false, .int .i64 (hmakeE st)])) ?_
   refine s_store 2 #[.int .i64 ((hmakeV st 5).kind), .int .i64 ((hmakeV st 5).p), .int .i64 ((hmakeV st 5).q), .string ((hmakeV st 5).str), .int .i64 ((hmakeV st 5).ref), .int .i64 0, .int .i64 0, .int .i64 0, .string ByteArray.empty, .int .i64 0, .int .i64 0, .string ByteArray.empty, .bool false, .int .i64 (hmakeE st)] ?_
   refine s_nil ?_
   refine xs_block ?_
   refine xs_then ?_
   refine k_sr ?_
   refine s_lt (t_loadA 2 #[.int .i64 ((hmakeV st 5).kind), .int .i64 ((hmakeV st 5).p), .int .i64 ((hmakeV st 5).q), .string ((hmakeV st 5).str), .int .i64 ((hmakeV st 5).ref), .int .i64 0, .int .i64 0, .int .i64 0, .string ByteArray.empty, .int .i64 0, .int .i64 0, .string ByteArray.empty, .bool false, .int .i64 (hmakeE st)]) ?_
   refine s_store 3 #[.int .i64 ((hmakeV st 5).kind), .int .i64 ((hmakeV st 5).p), .int .i64 ((hmakeV st 5).q), .string ((hmakeV st 5).str), .int .i64 ((hmakeV st 5).ref), .int .i64 0, .int .i64 0, .int .i64 0, .string ByteArray.empty, .int .i64 0, .int .i64 0, .string ByteArray.empty, .bool false, .int .i64 (hmakeE st)] ?_
   refine s_nt ?_
   refine k_ret ?_
   have h1 : hcall st c = hmake st (newO 5 c.n ByteArray.empty []) := hcall_1 (by omega)
   have h2 : hres st c = ⟨hmakeV st 5, zVl, 0, ByteArray.empty, false, hmakeE st⟩ := hres_1 (by omega)
   refine xs_fin [.agg #[.int .i64 ((hmakeV st 5).kind), .int .i64 ((hmakeV st 5).p), .int .i64 ((hmakeV st 5).q), .string ((hmakeV st 5).str), .int .i64 ((hmakeV st 5).ref), .int .i64 0, .int .i64 0, .int .i64 0, .string ByteArray.empty, .int .i64 0, .int .i64 0, .string ByteArray.empty, .bool false, .int .i64 (hmakeE st)]] (hpA b (hmake st (newO 5 c.n ByteArray.empty [])) :: F) (SI.agg 4 65 3 SI.nil) (fun _ h => h.re [1] [1, 1, 1, 1]) ⟨?_, ?_⟩
   · rw [h2]; rfl
   · rw [h1]
  ·
   have p11 := of_decide_eq_false c8
   refine k_sr ?_
   refine s_lt t_cmp ?_
   refine sp (.bool (decide (c.kind = 2))) ?_
   refine s_nt ?_
   refine k_cond (decide (c.kind = 2)) (fun c12 => ?_) (fun c12 => ?_)
   ·
    have p13 := of_decide_eq_true c12
    refine k_sr ?_
    refine sp (pB b 0) ?_
    refine sp (pB g1 16) ?_
    refine s_lt (t_load 2 (.int .i64 c.n)) ?_
    refine s_call [3] (hnewthread_s (st := st) (by have := hsm.len; omega) c.n) ?_
    rintro _ _ ⟨rfl, rfl⟩
    refine sp (.tuple #[.agg #[.int .i64 ((hmakeV st 7).kind), .int .i64 ((hmakeV st 7).p), .int .i64 ((hmakeV st 7).q), .string ((hmakeV st 7).str), .int .i64 ((hmakeV st 7).ref)], .int .i64 (hmakeE st)]) ?_
    refine sp (.agg #[.int .i64 ((hmakeV st 7).kind), .int .i64 ((hmakeV st 7).p), .int .i64 ((hmakeV st 7).q), .string ((hmakeV st 7).str), .int .i64 ((hmakeV st 7).ref)]) ?_
    refine sp (.int .i64 (hmakeE st)) ?_
    refine s_alloc (.agg #[.int .i64 0, .int .i64 0, .int .i64 0, .string ByteArray.empty, .int .i64 0]) #[.int .i64 0, .int .i64 0, .int .i64 0, .string ByteArray.empty, .int .i64 0] (fun g14 => ?_)
    refine s_store 0 #[.int .i64 ((hmakeV st 7).kind), .int .i64 ((hmakeV st 7).p), .int .i64 ((hmakeV st 7).q), .string ((hmakeV st 7).str), .int .i64 ((hmakeV st 7).ref)] ?_
    refine sp (.int .i64 (hmakeE st)) ?_
    refine s_nt ?_
    refine k_reg ?_
    refine s_lt (t_loadA 0 #[.int .i64 ((hmakeV st 7).kind), .int .i64 ((hmakeV st 7).p), .int .i64 ((hmakeV st 7).q), .string ((hmakeV st 7).str), .int .i64 ((hmakeV st 7).ref)]) ?_
    refine sp (.int .i64 (hmakeE st)) ?_
    refine s_lt (t_kern (.agg #[.int .i64 ((hmakeV st 7).kind), .int .i64 ((hmakeV st 7).p), .int .i64 ((hmakeV st 7).q), .string ((hmakeV st 7).str), .int .i64 ((hmakeV st 7).ref), .int .i64 0, .int .i64 0, .int .i64 0, .string ByteArray.empty, .int .i64 0, .int .i64 0, .string ByteArray.empty, .bool false, .int .i64 (hmakeE st)])) ?_
    refine s_store 2 #[.int .i64 ((hmakeV st 7).kind), .int .i64 ((hmakeV st 7).p), .int .i64 ((hmakeV st 7).q), .string ((hmakeV st 7).str), .int .i64 ((hmakeV st 7).ref), .int .i64 0, .int .i64 0, .int .i64 0, .string ByteArray.empty, .int .i64 0, .int .i64 0, .string ByteArray.empty, .bool false, .int .i64 (hmakeE st)] ?_
    refine s_nil ?_
    refine xs_block ?_
    refine xs_then ?_
    refine k_sr ?_
    refine s_lt (t_loadA 2 #[.int .i64 ((hmakeV st 7).kind), .int .i64 ((hmakeV st 7).p), .int .i64 ((hmakeV st 7).q), .string ((hmakeV st 7).str), .int .i64 ((hmakeV st 7).ref), .int .i64 0, .int .i64 0, .int .i64 0, .string ByteArray.empty, .int .i64 0, .int .i64 0, .string ByteArray.empty, .bool false, .int .i64 (hmakeE st)]) ?_
    refine s_store 3 #[.int .i64 ((hmakeV st 7).kind), .int .i64 ((hmakeV st 7).p), .int .i64 ((hmakeV st 7).q), .string ((hmakeV st 7).str), .int .i64 ((hmakeV st 7).ref), .int .i64 0, .int .i64 0, .int .i64 0, .string ByteArray.empty, .int .i64 0, .int .i64 0, .string ByteArray.empty, .bool false, .int .i64 (hmakeE st)] ?_
    refine s_nt ?_
    refine k_ret ?_
    have h1 : hcall st c = hmake st (newO 7 c.n ByteArray.empty []) := hcall_2 (by omega)
    have h2 : hres st c = ⟨hmakeV st 7, zVl, 0, ByteArray.empty, false, hmakeE st⟩ := hres_2 (by omega)
    refine xs_fin [.agg #[.int .i64 ((hmakeV st 7).kind), .int .i64 ((hmakeV st 7).p), .int .i64 ((hmakeV st 7).q), .string ((hmakeV st 7).str), .int .i64 ((hmakeV st 7).ref), .int .i64 0, .int .i64 0, .int .i64 0, .string ByteArray.empty, .int .i64 0, .int .i64 0, .string ByteArray.empty, .bool false, .int .i64 (hmakeE st)]] (hpA b (hmake st (newO 7 c.n ByteArray.empty [])) :: F) (SI.agg 4 65 3 SI.nil) (fun _ h => h.re [1] [1, 1, 1, 1]) ⟨?_, ?_⟩
    · rw [h2]; rfl
    · rw [h1]
   ·
    have p15 := of_decide_eq_false c12
    refine k_sr ?_
    refine s_lt t_cmp ?_
    refine sp (.bool (decide (c.kind = 3))) ?_
    refine s_nt ?_
    refine k_cond (decide (c.kind = 3)) (fun c16 => ?_) (fun c16 => ?_)
    ·
     have p17 := of_decide_eq_true c16
     refine k_sr ?_
     refine sp (pB b 0) ?_
     refine sp (pB g1 17) ?_
     refine s_lt (t_load 2 (.string c.s)) ?_
     refine s_call [3] (hnewdata_s (st := st) (by have := hsm.len; omega) c.s) ?_
     rintro _ _ ⟨rfl, rfl⟩
     refine sp (.tuple #[.agg #[.int .i64 ((hdataV st c.s).kind), .int .i64 ((hdataV st c.s).p), .int .i64 ((hdataV st c.s).q), .string ((hdataV st c.s).str), .int .i64 ((hdataV st c.s).ref)], .int .i64 (hdataE st c.s)]) ?_
     refine sp (.agg #[.int .i64 ((hdataV st c.s).kind), .int .i64 ((hdataV st c.s).p), .int .i64 ((hdataV st c.s).q), .string ((hdataV st c.s).str), .int .i64 ((hdataV st c.s).ref)]) ?_
     refine sp (.int .i64 (hdataE st c.s)) ?_
     refine s_alloc (.agg #[.int .i64 0, .int .i64 0, .int .i64 0, .string ByteArray.empty, .int .i64 0]) #[.int .i64 0, .int .i64 0, .int .i64 0, .string ByteArray.empty, .int .i64 0] (fun g18 => ?_)
     refine s_store 0 #[.int .i64 ((hdataV st c.s).kind), .int .i64 ((hdataV st c.s).p), .int .i64 ((hdataV st c.s).q), .string ((hdataV st c.s).str), .int .i64 ((hdataV st c.s).ref)] ?_
     refine sp (.int .i64 (hdataE st c.s)) ?_
     refine s_nt ?_
     refine k_reg ?_
     refine s_lt (t_loadA 0 #[.int .i64 ((hdataV st c.s).kind), .int .i64 ((hdataV st c.s).p), .int .i64 ((hdataV st c.s).q), .string ((hdataV st c.s).str), .int .i64 ((hdataV st c.s).ref)]) ?_
     refine sp (.int .i64 (hdataE st c.s)) ?_
     refine s_lt (t_kern (.agg #[.int .i64 ((hdataV st c.s).kind), .int .i64 ((hdataV st c.s).p), .int .i64 ((hdataV st c.s).q), .string ((hdataV st c.s).str), .int .i64 ((hdataV st c.s).ref), .int .i64 0, .int .i64 0, .int .i64 0, .string ByteArray.empty, .int .i64 0, .int .i64 0, .string ByteArray.empty, .bool false, .int .i64 (hdataE st c.s)])) ?_
     refine s_store 2 #[.int .i64 ((hdataV st c.s).kind), .int .i64 ((hdataV st c.s).p), .int .i64 ((hdataV st c.s).q), .string ((hdataV st c.s).str), .int .i64 ((hdataV st c.s).ref), .int .i64 0, .int .i64 0, .int .i64 0, .string ByteArray.empty, .int .i64 0, .int .i64 0, .string ByteArray.empty, .bool false, .int .i64 (hdataE st c.s)] ?_
     refine s_nil ?_
     refine xs_block ?_
     refine xs_then ?_
     refine k_sr ?_
     refine s_lt (t_loadA 2 #[.int .i64 ((hdataV st c.s).kind), .int .i64 ((hdataV st c.s).p), .int .i64 ((hdataV st c.s).q), .string ((hdataV st c.s).str), .int .i64 ((hdataV st c.s).ref), .int .i64 0, .int .i64 0, .int .i64 0, .string ByteArray.empty, .int .i64 0, .int .i64 0, .string ByteArray.empty, .bool false, .int .i64 (hdataE st c.s)]) ?_
     refine s_store 3 #[.int .i64 ((hdataV st c.s).kind), .int .i64 ((hdataV st c.s).p), .int .i64 ((hdataV st c.s).q), .string ((hdataV st c.s).str), .int .i64 ((hdataV st c.s).ref), .int .i64 0, .int .i64 0, .int .i64 0, .string ByteArray.empty, .int .i64 0, .int .i64 0, .string ByteArray.empty, .bool false, .int .i64 (hdataE st c.s)] ?_
     refine s_nt ?_
     refine k_ret ?_
     have h1 : hcall st c = hdata st c.s := hcall_3 (by omega)
     have h2 : hres st c = ⟨hdataV st c.s, zVl, 0, ByteArray.empty, false, hdataE st c.s⟩ := hres_3 (by omega)
     refine xs_fin [.agg #[.int .i64 ((hdataV st c.s).kind), .int .i64 ((hdataV st c.s).p), .int .i64 ((hdataV st c.s).q), .string ((hdataV st c.s).str), .int .i64 ((hdataV st c.s).ref), .int .i64 0, .int .i64 0, .int .i64 0, .string ByteArray.empty, .int .i64 0, .int .i64 0, .string ByteArray.empty, .bool false, .int .i64 (hdataE st c.s)]] (hpA b (hdata st c.s) :: F) (SI.agg 4 65 3 SI.nil) (fun _ h => h.re [1] [1, 1, 1, 1]) ⟨?_, ?_⟩
     · rw [h2]; rfl
     · rw [h1]
    ·
     have p19 := of_decide_eq_false c16
     refine k_sr ?_
     refine s_lt t_cmp ?_
     refine sp (.bool (decide (c.kind = 4))) ?_
     refine s_nt ?_
     refine k_cond (decide (c.kind = 4)) (fun c20 => ?_) (fun c20 => ?_)
     ·
      have p21 := of_decide_eq_true c20
      refine k_sr ?_
      refine sp (pB b 0) ?_
      refine sp (pB g1 1) ?_
      refine s_lt (t_loadA 2 #[.int .i64 c.a.kind, .int .i64 c.a.p, .int .i64 c.a.q, .string c.a.str, .int .i64 c.a.ref]) ?_
      refine sp (pB g1 6) ?_
      refine s_lt (t_loadA 2 #[.int .i64 c.b.kind, .int .i64 c.b.p, .int .i64 c.b.q, .string c.b.str, .int .i64 c.b.ref]) ?_
      refine s_call [3] (hget_s (st := st) hsm (by omega) c.a c.b) ?_
      rintro _ _ ⟨rfl, rfl⟩
      refine sp (.tuple #[.agg #[.int .i64 ((hgetV st c.a c.b).kind), .int .i64 ((hgetV st c.a c.b).p), .int .i64 ((hgetV st c.a c.b).q), .string ((hgetV st c.a c.b).str), .int .i64 ((hgetV st c.a c.b).ref)], .int .i64 (hgetE st c.a)]) ?_
      refine sp (.agg #[.int .i64 ((hgetV st c.a c.b).kind), .int .i64 ((hgetV st c.a c.b).p), .int .i64 ((hgetV st c.a c.b).q), .string ((hgetV st c.a c.b).str), .int .i64 ((hgetV st c.a c.b).ref)]) ?_
      refine sp (.int .i64 (hgetE st c.a)) ?_
      refine s_alloc (.agg #[.int .i64 0, .int .i64 0, .int .i64 0, .string ByteArray.empty, .int .i64 0]) #[.int .i64 0, .int .i64 0, .int .i64 0, .string ByteArray.empty, .int .i64 0] (fun g22 => ?_)
      refine s_store 0 #[.int .i64 ((hgetV st c.a c.b).kind), .int .i64 ((hgetV st c.a c.b).p), .int .i64 ((hgetV st c.a c.b).q), .string ((hgetV st c.a c.b).str), .int .i64 ((hgetV st c.a c.b).ref)] ?_
      refine sp (.int .i64 (hgetE st c.a)) ?_
      refine s_nt ?_
      refine k_reg ?_
      refine s_lt (t_loadA 0 #[.int .i64 ((hgetV st c.a c.b).kind), .int .i64 ((hgetV st c.a c.b).p), .int .i64 ((hgetV st c.a c.b).q), .string ((hgetV st c.a c.b).str), .int .i64 ((hgetV st c.a c.b).ref)]) ?_
      refine sp (.int .i64 (hgetE st c.a)) ?_
      refine s_lt (t_kern (.agg #[.int .i64 ((hgetV st c.a c.b).kind), .int .i64 ((hgetV st c.a c.b).p), .int .i64 ((hgetV st c.a c.b).q), .string ((hgetV st c.a c.b).str), .int .i64 ((hgetV st c.a c.b).ref), .int .i64 0, .int .i64 0, .int .i64 0, .string ByteArray.empty, .int .i64 0, .int .i64 0, .string ByteArray.empty, .bool false, .int .i64 (hgetE st c.a)])) ?_
      refine s_store 2 #[.int .i64 ((hgetV st c.a c.b).kind), .int .i64 ((hgetV st c.a c.b).p), .int .i64 ((hgetV st c.a c.b).q), .string ((hgetV st c.a c.b).str), .int .i64 ((hgetV st c.a c.b).ref), .int .i64 0, .int .i64 0, .int .i64 0, .string ByteArray.empty, .int .i64 0, .int .i64 0, .string ByteArray.empty, .bool false, .int .i64 (hgetE st c.a)] ?_
      refine s_nil ?_
      refine xs_block ?_
      refine xs_then ?_
      refine k_sr ?_
      refine s_lt (t_loadA 2 #[.int .i64 ((hgetV st c.a c.b).kind), .int .i64 ((hgetV st c.a c.b).p), .int .i64 ((hgetV st c.a c.b).q), .string ((hgetV st c.a c.b).str), .int .i64 ((hgetV st c.a c.b).ref), .int .i64 0, .int .i64 0, .int .i64 0, .string ByteArray.empty, .int .i64 0, .int .i64 0, .string ByteArray.empty, .bool false, .int .i64 (hgetE st c.a)]) ?_
      refine s_store 3 #[.int .i64 ((hgetV st c.a c.b).kind), .int .i64 ((hgetV st c.a c.b).p), .int .i64 ((hgetV st c.a c.b).q), .string ((hgetV st c.a c.b).str), .int .i64 ((hgetV st c.a c.b).ref), .int .i64 0, .int .i64 0, .int .i64 0, .string ByteArray.empty, .int .i64 0, .int .i64 0, .string ByteArray.empty, .bool false, .int .i64 (hgetE st c.a)] ?_
      refine s_nt ?_
      refine k_ret ?_
      have h1 : hcall st c = st := hcall_4 (by omega)
      have h2 : hres st c = ⟨hgetV st c.a c.b, zVl, 0, ByteArray.empty, false, hgetE st c.a⟩ := hres_4 (by omega)
      refine xs_fin [.agg #[.int .i64 ((hgetV st c.a c.b).kind), .int .i64 ((hgetV st c.a c.b).p), .int .i64 ((hgetV st c.a c.b).q), .string ((hgetV st c.a c.b).str), .int .i64 ((hgetV st c.a c.b).ref), .int .i64 0, .int .i64 0, .int .i64 0, .string ByteArray.empty, .int .i64 0, .int .i64 0, .string ByteArray.empty, .bool false, .int .i64 (hgetE st c.a)]] (hpA b st :: F) (SI.agg 4 65 3 SI.nil) (fun _ h => h.re [1] [1, 1, 1, 1]) ⟨?_, ?_⟩
      · rw [h2]; rfl
      · rw [h1]
     ·
      have p23 := of_decide_eq_false c20
      refine k_sr ?_
      refine s_lt t_cmp ?_
      refine sp (.bool (decide (c.kind = 5))) ?_
      refine s_nt ?_
      refine k_cond (decide (c.kind = 5)) (fun c24 => ?_) (fun c24 => ?_)
      ·
       have p25 := of_decide_eq_true c24
       refine k_reg ?_
       refine sp (pB b 0) ?_
       refine sp (pB g1 1) ?_
       refine s_lt (t_loadA 2 #[.int .i64 c.a.kind, .int .i64 c.a.p, .int .i64 c.a.q, .string c.a.str, .int .i64 c.a.ref]) ?_
       refine sp (pB g1 6) ?_
       refine s_lt (t_loadA 2 #[.int .i64 c.b.kind, .int .i64 c.b.p, .int .i64 c.b.q, .string c.b.str, .int .i64 c.b.ref]) ?_
       refine sp (pB g1 11) ?_
       refine s_lt (t_loadA 2 #[.int .i64 c.c.kind, .int .i64 c.c.p, .int .i64 c.c.q, .string c.c.str, .int .i64 c.c.ref]) ?_
       refine s_call [3] (hset_s (st := st) hsm (by omega) c.a c.b c.c) ?_
       rintro _ _ ⟨rfl, rfl⟩
       refine sp (pB g3 13) ?_
       refine s_store 1 #[.int .i64 0, .int .i64 0, .int .i64 0, .string ByteArray.empty, .int .i64 0, .int .i64 0, .int .i64 0, .int .i64 0, .string ByteArray.empty, .int .i64 0, .int .i64 0, .string ByteArray.empty, .bool false, .int .i64 (hsetE st c.a c.b c.c)] ?_
       refine s_nil ?_
       refine xs_block ?_
       refine xs_then ?_
       refine k_sr ?_
       refine s_lt (t_loadA 1 #[.int .i64 0, .int .i64 0, .int .i64 0, .string ByteArray.empty, .int .i64 0, .int .i64 0, .int .i64 0, .int .i64 0, .string ByteArray.empty, .int .i64 0, .int .i64 0, .string ByteArray.empty, .bool false, .int .i64 (hsetE st c.a c.b c.c)]) ?_
       refine s_store 2 #[.int .i64 0, .int .i64 0, .int .i64 0, .string ByteArray.empty, .int .i64 0, .int .i64 0, .int .i64 0, .int .i64 0, .string ByteArray.empty, .int .i64 0, .int .i64 0, .string ByteArray.empty, .bool false, .int .i64 (hsetE st c.a c.b c.c)] ?_
       refine s_nt ?_
       refine k_ret ?_
       have h1 : hcall st c = hset st c.a c.b c.c := hcall_5 (by omega)
       have h2 : hres st c = ⟨zVl, zVl, 0, ByteArray.empty, false, hsetE st c.a c.b c.c⟩ := hres_5 (by omega)
       refine xs_fin [.agg #[.int .i64 0, .int .i64 0, .int .i64 0, .string ByteArray.empty, .int .i64 0, .int .i64 0, .int .i64 0, .int .i64 0, .string ByteArray.empty, .int .i64 0, .int .i64 0, .string ByteArray.empty, .bool false, .int .i64 (hsetE st c.a c.b c.c)]] (hpA b (hset st c.a c.b c.c) :: F) (SI.agg 4 65 2 SI.nil) (fun _ h => h.re [0] [1, 1, 1]) ⟨?_, ?_⟩
       · rw [h2]; rfl
       · rw [h1]
      ·
       have p26 := of_decide_eq_false c24
       refine k_sr ?_
       refine s_lt t_cmp ?_
       refine sp (.bool (decide (c.kind = 6))) ?_
       refine s_nt ?_
       refine k_cond (decide (c.kind = 6)) (fun c27 => ?_) (fun c27 => ?_)
       ·
        have p28 := of_decide_eq_true c27
        refine k_sr ?_
        refine sp (pB b 0) ?_
        refine sp (pB g1 1) ?_
        refine s_lt (t_loadA 2 #[.int .i64 c.a.kind, .int .i64 c.a.p, .int .i64 c.a.q, .string c.a.str, .int .i64 c.a.ref]) ?_
        refine s_call [3] (hlen_s (st := st) hsm (by omega) c.a) ?_
        rintro _ _ ⟨rfl, rfl⟩
        refine sp (.tuple #[.int .i64 (hlenV st c.a), .int .i64 (hgetE st c.a)]) ?_
        refine sp (.int .i64 (hlenV st c.a)) ?_
        refine sp (.int .i64 (hgetE st c.a)) ?_
        refine sp (.int .i64 (hlenV st c.a)) ?_
        refine sp (.int .i64 (hgetE st c.a)) ?_
        refine s_nt ?_
        refine k_reg ?_
        refine sp (.int .i64 (hlenV st c.a)) ?_
        refine sp (.int .i64 (hgetE st c.a)) ?_
        refine s_lt (t_kern (.agg #[.int .i64 0, .int .i64 0, .int .i64 0, .string ByteArray.empty, .int .i64 0, .int .i64 0, .int .i64 0, .int .i64 0, .string ByteArray.empty, .int .i64 0, .int .i64 (hlenV st c.a), .string ByteArray.empty, .bool false, .int .i64 (hgetE st c.a)])) ?_
        refine s_store 1 #[.int .i64 0, .int .i64 0, .int .i64 0, .string ByteArray.empty, .int .i64 0, .int .i64 0, .int .i64 0, .int .i64 0, .string ByteArray.empty, .int .i64 0, .int .i64 (hlenV st c.a), .string ByteArray.empty, .bool false, .int .i64 (hgetE st c.a)] ?_
        refine s_nil ?_
        refine xs_block ?_
        refine xs_then ?_
        refine k_sr ?_
        refine s_lt (t_loadA 1 #[.int .i64 0, .int .i64 0, .int .i64 0, .string ByteArray.empty, .int .i64 0, .int .i64 0, .int .i64 0, .int .i64 0, .string ByteArray.empty, .int .i64 0, .int .i64 (hlenV st c.a), .string ByteArray.empty, .bool false, .int .i64 (hgetE st c.a)]) ?_
        refine s_store 2 #[.int .i64 0, .int .i64 0, .int .i64 0, .string ByteArray.empty, .int .i64 0, .int .i64 0, .int .i64 0, .int .i64 0, .string ByteArray.empty, .int .i64 0, .int .i64 (hlenV st c.a), .string ByteArray.empty, .bool false, .int .i64 (hgetE st c.a)] ?_
        refine s_nt ?_
        refine k_ret ?_
        have h1 : hcall st c = st := hcall_6 (by omega)
        have h2 : hres st c = ⟨zVl, zVl, hlenV st c.a, ByteArray.empty, false, hgetE st c.a⟩ := hres_6 (by omega)
        refine xs_fin [.agg #[.int .i64 0, .int .i64 0, .int .i64 0, .string ByteArray.empty, .int .i64 0, .int .i64 0, .int .i64 0, .int .i64 0, .string ByteArray.empty, .int .i64 0, .int .i64 (hlenV st c.a), .string ByteArray.empty, .bool false, .int .i64 (hgetE st c.a)]] (hpA b st :: F) (SI.agg 4 65 2 SI.nil) (fun _ h => h.re [0] [1, 1, 1]) ⟨?_, ?_⟩
        · rw [h2]; rfl
        · rw [h1]
       ·
        have p29 := of_decide_eq_false c27
        refine k_sr ?_
        refine s_lt t_cmp ?_
        refine sp (.bool (decide (c.kind = 7))) ?_
        refine s_nt ?_
        refine k_cond (decide (c.kind = 7)) (fun c30 => ?_) (fun c30 => ?_)
        ·
         have p31 := of_decide_eq_true c30
         refine k_sr ?_
         refine sp (pB b 0) ?_
         refine sp (pB g1 1) ?_
         refine s_lt (t_loadA 2 #[.int .i64 c.a.kind, .int .i64 c.a.p, .int .i64 c.a.q, .string c.a.str, .int .i64 c.a.ref]) ?_
         refine sp (pB g1 6) ?_
         refine s_lt (t_loadA 2 #[.int .i64 c.b.kind, .int .i64 c.b.p, .int .i64 c.b.q, .string c.b.str, .int .i64 c.b.ref]) ?_
         refine s_call [3] (hnext_s (st := st) hsm (by omega) c.a c.b) ?_
         rintro _ _ ⟨rfl, rfl⟩
         refine sp (.tuple #[.agg #[.int .i64 (((hnext st c.a c.b).1).kind), .int .i64 (((hnext st c.a c.b).1).p), .int .i64 (((hnext st c.a c.b).1).q), .string (((hnext st c.a c.b).1).str), .int .i64 (((hnext st c.a c.b).1).ref)], .agg #[.int .i64 (((hnext st c.a c.b).2.1).kind), .int .i64 (((hnext st c.a c.b).2.1).p), .int .i64 (((hnext st c.a c.b).2.1).q), .string (((hnext st c.a c.b).2.1).str), .int .i64 (((hnext st c.a c.b).2.1).ref)], .bool ((hnext st c.a c.b).2.2.1), .int .i64 ((hnext st c.a c.b).2.2.2)]) ?_
         refine sp (.agg #[.int .i64 (((hnext st c.a c.b).1).kind), .int .i64 (((hnext st c.a c.b).1).p), .int .i64 (((hnext st c.a c.b).1).q), .string (((hnext st c.a c.b).1).str), .int .i64 (((hnext st c.a c.b).1).ref)]) ?_
         refine sp (.agg #[.int .i64 (((hnext st c.a c.b).2.1).kind), .int .i64 (((hnext st c.a c.b).2.1).p), .int .i64 (((hnext st c.a c.b).2.1).q), .string (((hnext st c.a c.b).2.1).str), .int .i64 (((hnext st c.a c.b).2.1).ref)]) ?_
         refine sp (.bool ((hnext st c.a c.b).2.2.1)) ?_
         refine sp (.int .i64 ((hnext st c.a c.b).2.2.2)) ?_
         refine s_alloc (.agg #[.int .i64 0, .int .i64 0, .int .i64 0, .string ByteArray.empty, .int .i64 0]) #[.int .i64 0, .int .i64 0, .int .i64 0, .string ByteArray.empty, .int .i64 0] (fun g32 => ?_)
         refine s_alloc (.agg #[.int .i64 0, .int .i64 0, .int .i64 0, .string ByteArray.empty, .int .i64 0]) #[.int .i64 0, .int .i64 0, .int .i64 0, .string ByteArray.empty, .int .i64 0] (fun g33 => ?_)
         refine s_store 1 #[.int .i64 (((hnext st c.a c.b).1).kind), .int .i64 (((hnext st c.a c.b).1).p), .int .i64 (((hnext st c.a c.b).1).q), .string (((hnext st c.a c.b).1).str), .int .i64 (((hnext st c.a c.b).1).ref)] ?_
         refine s_store 0 #[.int .i64 (((hnext st c.a c.b).2.1).kind), .int .i64 (((hnext st c.a c.b).2.1).p), .int .i64 (((hnext st c.a c.b).2.1).q), .string (((hnext st c.a c.b).2.1).str), .int .i64 (((hnext st c.a c.b).2.1).ref)] ?_
         refine sp (.bool ((hnext st c.a c.b).2.2.1)) ?_
         refine sp (.int .i64 ((hnext st c.a c.b).2.2.2)) ?_
         refine s_nt ?_
         refine k_reg ?_
         refine s_lt (t_loadA 1 #[.int .i64 (((hnext st c.a c.b).1).kind), .int .i64 (((hnext st c.a c.b).1).p), .int .i64 (((hnext st c.a c.b).1).q), .string (((hnext st c.a c.b).1).str), .int .i64 (((hnext st c.a c.b).1).ref)]) ?_
         refine s_lt (t_loadA 0 #[.int .i64 (((hnext st c.a c.b).2.1).kind), .int .i64 (((hnext st c.a c.b).2.1).p), .int .i64 (((hnext st c.a c.b).2.1).q), .string (((hnext st c.a c.b).2.1).str), .int .i64 (((hnext st c.a c.b).2.1).ref)]) ?_
         refine sp (.bool ((hnext st c.a c.b).2.2.1)) ?_
         refine sp (.int .i64 ((hnext st c.a c.b).2.2.2)) ?_
         refine s_lt (t_kern (.agg #[.int .i64 (((hnext st c.a c.b).1).kind), .int .i64 (((hnext st c.a c.b).1).p), .int .i64 (((hnext st c.a c.b).1).q), .string (((hnext st c.a c.b).1).str), .int .i64 (((hnext st c.a c.b).1).ref), .int .i64 (((hnext st c.a c.b).2.1).kind), .int .i64 (((hnext st c.a c.b).2.1).p), .int .i64 (((hnext st c.a c.b).2.1).q), .string (((hnext st c.a c.b).2.1).str), .int .i64 (((hnext st c.a c.b).2.1).ref), .int .i64 0, .string ByteArray.empty, .bool ((hnext st c.a c.b).2.2.1), .int .i64 ((hnext st c.a c.b).2.2.2)])) ?_
         refine s_store 3 #[.int .i64 (((hnext st c.a c.b).1).kind), .int .i64 (((hnext st c.a c.b).1).p), .int .i64 (((hnext st c.a c.b).1).q), .string (((hnext st c.a c.b).1).str), .int .i64 (((hnext st c.a c.b).1).ref), .int .i64 (((hnext st c.a c.b).2.1).kind), .int .i64 (((hnext st c.a c.b).2.1).p), .int .i64 (((hnext st c.a c.b).2.1).q), .string (((hnext st c.a c.b).2.1).str), .int .i64 (((hnext st c.a c.b).2.1).ref), .int .i64 0, .string ByteArray.empty, .bool ((hnext st c.a c.b).2.2.1), .int .i64 ((hnext st c.a c.b).2.2.2)] ?_
         refine s_nil ?_
         refine xs_block ?_
         refine xs_then ?_
         refine k_sr ?_
         refine s_lt (t_loadA 3 #[.int .i64 (((hnext st c.a c.b).1).kind), .int .i64 (((hnext st c.a c.b).1).p), .int .i64 (((hnext st c.a c.b).1).q), .string (((hnext st c.a c.b).1).str), .int .i64 (((hnext st c.a c.b).1).ref), .int .i64 (((hnext st c.a c.b).2.1).kind), .int .i64 (((hnext st c.a c.b).2.1).p), .int .i64 (((hnext st c.a c.b).2.1).q), .string (((hnext st c.a c.b).2.1).str), .int .i64 (((hnext st c.a c.b).2.1).ref), .int .i64 0, .string ByteArray.empty, .bool ((hnext st c.a c.b).2.2.1), .int .i64 ((hnext st c.a c.b).2.2.2)]) ?_
         refine s_store 4 #[.int .i64 (((hnext st c.a c.b).1).kind), .int .i64 (((hnext st c.a c.b).1).p), .int .i64 (((hnext st c.a c.b).1).q), .string (((hnext st c.a c.b).1).str), .int .i64 (((hnext st c.a c.b).1).ref), .int .i64 (((hnext st c.a c.b).2.1).kind), .int .i64 (((hnext st c.a c.b).2.1).p), .int .i64 (((hnext st c.a c.b).2.1).q), .string (((hnext st c.a c.b).2.1).str), .int .i64 (((hnext st c.a c.b).2.1).ref), .int .i64 0, .string ByteArray.empty, .bool ((hnext st c.a c.b).2.2.1), .int .i64 ((hnext st c.a c.b).2.2.2)] ?_
         refine s_nt ?_
         refine k_ret ?_
         have h1 : hcall st c = st := hcall_7 (by omega)
         have h2 : hres st c = ⟨(hnext st c.a c.b).1, (hnext st c.a c.b).2.1, 0, ByteArray.empty, (hnext st c.a c.b).2.2.1, (hnext st c.a c.b).2.2.2⟩ := hres_7 (by omega)
         refine xs_fin [.agg #[.int .i64 (((hnext st c.a c.b).1).kind), .int .i64 (((hnext st c.a c.b).1).p), .int .i64 (((hnext st c.a c.b).1).q), .string (((hnext st c.a c.b).1).str), .int .i64 (((hnext st c.a c.b).1).ref), .int .i64 (((hnext st c.a c.b).2.1).kind), .int .i64 (((hnext st c.a c.b).2.1).p), .int .i64 (((hnext st c.a c.b).2.1).q), .string (((hnext st c.a c.b).2.1).str), .int .i64 (((hnext st c.a c.b).2.1).ref), .int .i64 0, .string ByteArray.empty, .bool ((hnext st c.a c.b).2.2.1), .int .i64 ((hnext st c.a c.b).2.2.2)]] (hpA b st :: F) (SI.agg 4 65 4 SI.nil) (fun _ h => h.re [2] [1, 1, 1, 1, 1]) ⟨?_, ?_⟩
         · rw [h2]; rfl
         · rw [h1]
        ·
         have p34 := of_decide_eq_false c30
         refine k_sr ?_
         refine s_lt t_cmp ?_
         refine sp (.bool (decide (c.kind = 8))) ?_
         refine s_nt ?_
         refine k_cond (decide (c.kind = 8)) (fun c35 => ?_) (fun c35 => ?_)
         ·
          have p36 := of_decide_eq_true c35
          refine k_reg ?_
          refine sp (pB b 0) ?_
          refine sp (pB g1 1) ?_
          refine s_lt (t_loadA 2 #[.int .i64 c.a.kind, .int .i64 c.a.p, .int .i64 c.a.q, .string c.a.str, .int .i64 c.a.ref]) ?_
          refine sp (pB g1 16) ?_
          refine s_lt (t_load 2 (.int .i64 c.n)) ?_
          refine sp (pB g1 11) ?_
          refine s_lt (t_loadA 2 #[.int .i64 c.c.kind, .int .i64 c.c.p, .int .i64 c.c.q, .string c.c.str, .int .i64 c.c.ref]) ?_
          refine s_call [3] (hinsert_s (st := st) hsm (by omega) c.a c.n c.c) ?_
          rintro _ _ ⟨rfl, rfl⟩
          refine sp (pB g3 13) ?_
          refine s_store 1 #[.int .i64 0, .int .i64 0, .int .i64 0, .string ByteArray.empty, .int .i64 0, .int .i64 0, .int .i64 0, .int .i64 0, .string ByteArray.empty, .int .i64 0, .int .i64 0, .string ByteArray.empty, .bool false, .int .i64 (hinsE st c.a c.n c.c)] ?_
          refine s_nil ?_
          refine xs_block ?_
          refine xs_then ?_
          refine k_sr ?_
          refine s_lt (t_loadA 1 #[.int .i64 0, .int .i64 0, .int .i64 0, .string ByteArray.empty, .int .i64 0, .int .i64 0, .int .i64 0, .int .i64 0, .string ByteArray.empty, .int .i64 0, .int .i64 0, .string ByteArray.empty, .bool false, .int .i64 (hinsE st c.a c.n c.c)]) ?_
          refine s_store 2 #[.int .i64 0, .int .i64 0, .int .i64 0, .string ByteArray.empty, .int .i64 0, .int .i64 0, .int .i64 0, .int .i64 0, .string ByteArray.empty, .int .i64 0, .int .i64 0, .string ByteArray.empty, .bool false, .int .i64 (hinsE st c.a c.n c.c)] ?_
          refine s_nt ?_
          refine k_ret ?_
          have h1 : hcall st c = hins st c.a c.n c.c := hcall_8 (by omega)
          have h2 : hres st c = ⟨zVl, zVl, 0, ByteArray.empty, false, hinsE st c.a c.n c.c⟩ := hres_8 (by omega)
          refine xs_fin [.agg #[.int .i64 0, .int .i64 0, .int .i64 0, .string ByteArray.empty, .int .i64 0, .int .i64 0, .int .i64 0, .int .i64 0, .string ByteArray.empty, .int .i64 0, .int .i64 0, .string ByteArray.empty, .bool false, .int .i64 (hinsE st c.a c.n c.c)]] (hpA b (hins st c.a c.n c.c) :: F) (SI.agg 4 65 2 SI.nil) (fun _ h => h.re [0] [1, 1, 1]) ⟨?_, ?_⟩
          · rw [h2]; rfl
          · rw [h1]
         ·
          have p37 := of_decide_eq_false c35
          refine k_sr ?_
          refine s_lt t_cmp ?_
          refine sp (.bool (decide (c.kind = 9))) ?_
          refine s_nt ?_
          refine k_cond (decide (c.kind = 9)) (fun c38 => ?_) (fun c38 => ?_)
          ·
           have p39 := of_decide_eq_true c38
           refine k_sr ?_
           refine sp (pB b 0) ?_
           refine sp (pB g1 1) ?_
           refine s_lt (t_loadA 2 #[.int .i64 c.a.kind, .int .i64 c.a.p, .int .i64 c.a.q, .string c.a.str, .int .i64 c.a.ref]) ?_
           refine sp (pB g1 16) ?_
           refine s_lt (t_load 2 (.int .i64 c.n)) ?_
           refine s_call [3] (hremove_s (st := st) hsm (by omega) c.a c.n) ?_
           rintro _ _ ⟨rfl, rfl⟩
           refine sp (.tuple #[.agg #[.int .i64 ((hremV st c.a c.n).kind), .int .i64 ((hremV st c.a c.n).p), .int .i64 ((hremV st c.a c.n).q), .string ((hremV st c.a c.n).str), .int .i64 ((hremV st c.a c.n).ref)], .int .i64 (hremE st c.a c.n)]) ?_
           refine sp (.agg #[.int .i64 ((hremV st c.a c.n).kind), .int .i64 ((hremV st c.a c.n).p), .int .i64 ((hremV st c.a c.n).q), .string ((hremV st c.a c.n).str), .int .i64 ((hremV st c.a c.n).ref)]) ?_
           refine sp (.int .i64 (hremE st c.a c.n)) ?_
           refine s_alloc (.agg #[.int .i64 0, .int .i64 0, .int .i64 0, .string ByteArray.empty, .int .i64 0]) #[.int .i64 0, .int .i64 0, .int .i64 0, .string ByteArray.empty, .int .i64 0] (fun g40 => ?_)
           refine s_store 0 #[.int .i64 ((hremV st c.a c.n).kind), .int .i64 ((hremV st c.a c.n).p), .int .i64 ((hremV st c.a c.n).q), .string ((hremV st c.a c.n).str), .int .i64 ((hremV st c.a c.n).ref)] ?_
           refine sp (.int .i64 (hremE st c.a c.n)) ?_
           refine s_nt ?_
           refine k_reg ?_
           refine s_lt (t_loadA 0 #[.int .i64 ((hremV st c.a c.n).kind), .int .i64 ((hremV st c.a c.n).p), .int .i64 ((hremV st c.a c.n).q), .string ((hremV st c.a c.n).str), .int .i64 ((hremV st c.a c.n).ref)]) ?_
           refine sp (.int .i64 (hremE st c.a c.n)) ?_
           refine s_lt (t_kern (.agg #[.int .i64 ((hremV st c.a c.n).kind), .int .i64 ((hremV st c.a c.n).p), .int .i64 ((hremV st c.a c.n).q), .string ((hremV st c.a c.n).str), .int .i64 ((hremV st c.a c.n).ref), .int .i64 0, .int .i64 0, .int .i64 0, .string ByteArray.empty, .int .i64 0, .int .i64 0, .string ByteArray.empty, .bool false, .int .i64 (hremE st c.a c.n)])) ?_
           refine s_store 2 #[.int .i64 ((hremV st c.a c.n).kind), .int .i64 ((hremV st c.a c.n).p), .int .i64 ((hremV st c.a c.n).q), .string ((hremV st c.a c.n).str), .int .i64 ((hremV st c.a c.n).ref), .int .i64 0, .int .i64 0, .int .i64 0, .string ByteArray.empty, .int .i64 0, .int .i64 0, .string ByteArray.empty, .bool false, .int .i64 (hremE st c.a c.n)] ?_
           refine s_nil ?_
           refine xs_block ?_
           refine xs_then ?_
           refine k_sr ?_
           refine s_lt (t_loadA 2 #[.int .i64 ((hremV st c.a c.n).kind), .int .i64 ((hremV st c.a c.n).p), .int .i64 ((hremV st c.a c.n).q), .string ((hremV st c.a c.n).str), .int .i64 ((hremV st c.a c.n).ref), .int .i64 0, .int .i64 0, .int .i64 0, .string ByteArray.empty, .int .i64 0, .int .i64 0, .string ByteArray.empty, .bool false, .int .i64 (hremE st c.a c.n)]) ?_
           refine s_store 3 #[.int .i64 ((hremV st c.a c.n).kind), .int .i64 ((hremV st c.a c.n).p), .int .i64 ((hremV st c.a c.n).q), .string ((hremV st c.a c.n).str), .int .i64 ((hremV st c.a c.n).ref), .int .i64 0, .int .i64 0, .int .i64 0, .string ByteArray.empty, .int .i64 0, .int .i64 0, .string ByteArray.empty, .bool false, .int .i64 (hremE st c.a c.n)] ?_
           refine s_nt ?_
           refine k_ret ?_
           have h1 : hcall st c = hrem st c.a c.n := hcall_9 (by omega)
           have h2 : hres st c = ⟨hremV st c.a c.n, zVl, 0, ByteArray.empty, false, hremE st c.a c.n⟩ := hres_9 (by omega)
           refine xs_fin [.agg #[.int .i64 ((hremV st c.a c.n).kind), .int .i64 ((hremV st c.a c.n).p), .int .i64 ((hremV st c.a c.n).q), .string ((hremV st c.a c.n).str), .int .i64 ((hremV st c.a c.n).ref), .int .i64 0, .int .i64 0, .int .i64 0, .string ByteArray.empty, .int .i64 0, .int .i64 0, .string ByteArray.empty, .bool false, .int .i64 (hremE st c.a c.n)]] (hpA b (hrem st c.a c.n) :: F) (SI.agg 4 65 3 SI.nil) (fun _ h => h.re [1] [1, 1, 1, 1]) ⟨?_, ?_⟩
           · rw [h2]; rfl
           · rw [h1]
          ·
           have p41 := of_decide_eq_false c38
           refine k_sr ?_
           refine s_lt t_cmp ?_
           refine sp (.bool (decide (c.kind = 10))) ?_
           refine s_nt ?_
           refine k_cond (decide (c.kind = 10)) (fun c42 => ?_) (fun c42 => ?_)
           ·
            have p43 := of_decide_eq_true c42
            refine k_reg ?_
            refine sp (pB b 0) ?_
            refine sp (pB g1 1) ?_
            refine s_lt (t_loadA 2 #[.int .i64 c.a.kind, .int .i64 c.a.p, .int .i64 c.a.q, .string c.a.str, .int .i64 c.a.ref]) ?_
            refine sp (pB g1 6) ?_
            refine s_lt (t_loadA 2 #[.int .i64 c.b.kind, .int .i64 c.b.p, .int .i64 c.b.q, .string c.b.str, .int .i64 c.b.ref]) ?_
            refine s_call [3] (hsetmeta_s (st := st) c.a c.b) ?_
            rintro _ _ ⟨rfl, rfl⟩
            refine sp (pB g3 13) ?_
            refine s_store 1 #[.int .i64 0, .int .i64 0, .int .i64 0, .string ByteArray.empty, .int .i64 0, .int .i64 0, .int .i64 0, .int .i64 0, .string ByteArray.empty, .int .i64 0, .int .i64 0, .string ByteArray.empty, .bool false, .int .i64 (hsetMetaE st c.a c.b)] ?_
            refine s_nil ?_
            refine xs_block ?_
            refine xs_then ?_
            refine k_sr ?_
            refine s_lt (t_loadA 1 #[.int .i64 0, .int .i64 0, .int .i64 0, .string ByteArray.empty, .int .i64 0, .int .i64 0, .int .i64 0, .int .i64 0, .string ByteArray.empty, .int .i64 0, .int .i64 0, .string ByteArray.empty, .bool false, .int .i64 (hsetMetaE st c.a c.b)]) ?_
            refine s_store 2 #[.int .i64 0, .int .i64 0, .int .i64 0, .string ByteArray.empty, .int .i64 0, .int .i64 0, .int .i64 0, .int .i64 0, .string ByteArray.empty, .int .i64 0, .int .i64 0, .string ByteArray.empty, .bool false, .int .i64 (hsetMetaE st c.a c.b)] ?_
            refine s_nt ?_
            refine k_ret ?_
            have h1 : hcall st c = hsetMeta st c.a c.b := hcall_10 (by omega)
            have h2 : hres st c = ⟨zVl, zVl, 0, ByteArray.empty, false, hsetMetaE st c.a c.b⟩ := hres_10 (by omega)
            refine xs_fin [.agg #[.int .i64 0, .int .i64 0, .int .i64 0, .string ByteArray.empty, .int .i64 0, .int .i64 0, .int .i64 0, .int .i64 0, .string ByteArray.empty, .int .i64 0, .int .i64 0, .string ByteArray.empty, .bool false, .int .i64 (hsetMetaE st c.a c.b)]] (hpA b (hsetMeta st c.a c.b) :: F) (SI.agg 4 65 2 SI.nil) (fun _ h => h.re [0] [1, 1, 1]) ⟨?_, ?_⟩
            · rw [h2]; rfl
            · rw [h1]
           ·
            have p44 := of_decide_eq_false c42
            refine k_sr ?_
            refine s_lt t_cmp ?_
            refine sp (.bool (decide (c.kind = 11))) ?_
            refine s_nt ?_
            refine k_cond (decide (c.kind = 11)) (fun c45 => ?_) (fun c45 => ?_)
            ·
             have p46 := of_decide_eq_true c45
             refine k_sr ?_
             refine sp (pB b 0) ?_
             refine sp (pB g1 1) ?_
             refine s_lt (t_loadA 2 #[.int .i64 c.a.kind, .int .i64 c.a.p, .int .i64 c.a.q, .string c.a.str, .int .i64 c.a.ref]) ?_
             refine sp (pB g1 16) ?_
             refine s_lt (t_load 2 (.int .i64 c.n)) ?_
             refine s_call [3] (hslot_s (st := st) hw c.a c.n) ?_
             rintro _ _ ⟨rfl, rfl⟩
             refine sp (.tuple #[.agg #[.int .i64 ((hslotV st c.a c.n).kind), .int .i64 ((hslotV st c.a c.n).p), .int .i64 ((hslotV st c.a c.n).q), .string ((hslotV st c.a c.n).str), .int .i64 ((hslotV st c.a c.n).ref)], .int .i64 (hslotE st c.a c.n)]) ?_
             refine sp (.agg #[.int .i64 ((hslotV st c.a c.n).kind), .int .i64 ((hslotV st c.a c.n).p), .int .i64 ((hslotV st c.a c.n).q), .string ((hslotV st c.a c.n).str), .int .i64 ((hslotV st c.a c.n).ref)]) ?_
             refine sp (.int .i64 (hslotE st c.a c.n)) ?_
             refine s_alloc (.agg #[.int .i64 0, .int .i64 0, .int .i64 0, .string ByteArray.empty, .int .i64 0]) #[.int .i64 0, .int .i64 0, .int .i64 0, .string ByteArray.empty, .int .i64 0] (fun g47 => ?_)
             refine s_store 0 #[.int .i64 ((hslotV st c.a c.n).kind), .int .i64 ((hslotV st c.a c.n).p), .int .i64 ((hslotV st c.a c.n).q), .string ((hslotV st c.a c.n).str), .int .i64 ((hslotV st c.a c.n).ref)] ?_
             refine sp (.int .i64 (hslotE st c.a c.n)) ?_
             refine s_nt ?_
             refine k_reg ?_
             refine s_lt (t_loadA 0 #[.int .i64 ((hslotV st c.a c.n).kind), .int .i64 ((hslotV st c.a c.n).p), .int .i64 ((hslotV st c.a c.n).q), .string ((hslotV st c.a c.n).str), .int .i64 ((hslotV st c.a c.n).ref)]) ?_
             refine sp (.int .i64 (hslotE st c.a c.n)) ?_
             refine s_lt (t_kern (.agg #[.int .i64 ((hslotV st c.a c.n).kind), .int .i64 ((hslotV st c.a c.n).p), .int .i64 ((hslotV st c.a c.n).q), .string ((hslotV st c.a c.n).str), .int .i64 ((hslotV st c.a c.n).ref), .int .i64 0, .int .i64 0, .int .i64 0, .string ByteArray.empty, .int .i64 0, .int .i64 0, .string ByteArray.empty, .bool false, .int .i64 (hslotE st c.a c.n)])) ?_
             refine s_store 2 #[.int .i64 ((hslotV st c.a c.n).kind), .int .i64 ((hslotV st c.a c.n).p), .int .i64 ((hslotV st c.a c.n).q), .string ((hslotV st c.a c.n).str), .int .i64 ((hslotV st c.a c.n).ref), .int .i64 0, .int .i64 0, .int .i64 0, .string ByteArray.empty, .int .i64 0, .int .i64 0, .string ByteArray.empty, .bool false, .int .i64 (hslotE st c.a c.n)] ?_
             refine s_nil ?_
             refine xs_block ?_
             refine xs_then ?_
             refine k_sr ?_
             refine s_lt (t_loadA 2 #[.int .i64 ((hslotV st c.a c.n).kind), .int .i64 ((hslotV st c.a c.n).p), .int .i64 ((hslotV st c.a c.n).q), .string ((hslotV st c.a c.n).str), .int .i64 ((hslotV st c.a c.n).ref), .int .i64 0, .int .i64 0, .int .i64 0, .string ByteArray.empty, .int .i64 0, .int .i64 0, .string ByteArray.empty, .bool false, .int .i64 (hslotE st c.a c.n)]) ?_
             refine s_store 3 #[.int .i64 ((hslotV st c.a c.n).kind), .int .i64 ((hslotV st c.a c.n).p), .int .i64 ((hslotV st c.a c.n).q), .string ((hslotV st c.a c.n).str), .int .i64 ((hslotV st c.a c.n).ref), .int .i64 0, .int .i64 0, .int .i64 0, .string ByteArray.empty, .int .i64 0, .int .i64 0, .string ByteArray.empty, .bool false, .int .i64 (hslotE st c.a c.n)] ?_
             refine s_nt ?_
             refine k_ret ?_
             have h1 : hcall st c = st := hcall_11 (by omega)
             have h2 : hres st c = ⟨hslotV st c.a c.n, zVl, 0, ByteArray.empty, false, hslotE st c.a c.n⟩ := hres_11 (by omega)
             refine xs_fin [.agg #[.int .i64 ((hslotV st c.a c.n).kind), .int .i64 ((hslotV st c.a c.n).p), .int .i64 ((hslotV st c.a c.n).q), .string ((hslotV st c.a c.n).str), .int .i64 ((hslotV st c.a c.n).ref), .int .i64 0, .int .i64 0, .int .i64 0, .string ByteArray.empty, .int .i64 0, .int .i64 0, .string ByteArray.empty, .bool false, .int .i64 (hslotE st c.a c.n)]] (hpA b st :: F) (SI.agg 4 65 3 SI.nil) (fun _ h => h.re [1] [1, 1, 1, 1]) ⟨?_, ?_⟩
             · rw [h2]; rfl
             · rw [h1]
            ·
             have p48 := of_decide_eq_false c45
             refine k_sr ?_
             refine s_lt t_cmp ?_
             refine sp (.bool (decide (c.kind = 12))) ?_
             refine s_nt ?_
             refine k_cond (decide (c.kind = 12)) (fun c49 => ?_) (fun c49 => ?_)
             ·
              have p50 := of_decide_eq_true c49
              refine k_reg ?_
              refine sp (pB b 0) ?_
              refine sp (pB g1 1) ?_
              refine s_lt (t_loadA 2 #[.int .i64 c.a.kind, .int .i64 c.a.p, .int .i64 c.a.q, .string c.a.str, .int .i64 c.a.ref]) ?_
              refine sp (pB g1 16) ?_
              refine s_lt (t_load 2 (.int .i64 c.n)) ?_
              refine sp (pB g1 11) ?_
              refine s_lt (t_loadA 2 #[.int .i64 c.c.kind, .int .i64 c.c.p, .int .i64 c.c.q, .string c.c.str, .int .i64 c.c.ref]) ?_
              refine s_call [3] (hsetslot_s (st := st) hw c.a c.n c.c) ?_
              rintro _ _ ⟨rfl, rfl⟩
              refine sp (pB g3 13) ?_
              refine s_store 1 #[.int .i64 0, .int .i64 0, .int .i64 0, .string ByteArray.empty, .int .i64 0, .int .i64 0, .int .i64 0, .int .i64 0, .string ByteArray.empty, .int .i64 0, .int .i64 0, .string ByteArray.empty, .bool false, .int .i64 (hsetSlotE st c.a c.n c.c)] ?_
              refine s_nil ?_
              refine xs_block ?_
              refine xs_then ?_
              refine k_sr ?_
              refine s_lt (t_loadA 1 #[.int .i64 0, .int .i64 0, .int .i64 0, .string ByteArray.empty, .int .i64 0, .int .i64 0, .int .i64 0, .int .i64 0, .string ByteArray.empty, .int .i64 0, .int .i64 0, .string ByteArray.empty, .bool false, .int .i64 (hsetSlotE st c.a c.n c.c)]) ?_
              refine s_store 2 #[.int .i64 0, .int .i64 0, .int .i64 0, .string ByteArray.empty, .int .i64 0, .int .i64 0, .int .i64 0, .int .i64 0, .string ByteArray.empty, .int .i64 0, .int .i64 0, .string ByteArray.empty, .bool false, .int .i64 (hsetSlotE st c.a c.n c.c)] ?_
              refine s_nt ?_
              refine k_ret ?_
              have h1 : hcall st c = hsetSlot st c.a c.n c.c := hcall_12 (by omega)
              have h2 : hres st c = ⟨zVl, zVl, 0, ByteArray.empty, false, hsetSlotE st c.a c.n c.c⟩ := hres_12 (by omega)
              refine xs_fin [.agg #[.int .i64 0, .int .i64 0, .int .i64 0, .string ByteArray.empty, .int .i64 0, .int .i64 0, .int .i64 0, .int .i64 0, .string ByteArray.empty, .int .i64 0, .int .i64 0, .string ByteArray.empty, .bool false, .int .i64 (hsetSlotE st c.a c.n c.c)]] (hpA b (hsetSlot st c.a c.n c.c) :: F) (SI.agg 4 65 2 SI.nil) (fun _ h => h.re [0] [1, 1, 1]) ⟨?_, ?_⟩
              · rw [h2]; rfl
              · rw [h1]
             ·
              have p51 := of_decide_eq_false c49
              refine k_sr ?_
              refine s_lt t_cmp ?_
              refine sp (.bool (decide (c.kind = 13))) ?_
              refine s_nt ?_
              refine k_cond (decide (c.kind = 13)) (fun c52 => ?_) (fun c52 => ?_)
              ·
               have p53 := of_decide_eq_true c52
               refine k_reg ?_
               refine sp (pB b 0) ?_
               refine sp (pB g1 1) ?_
               refine s_lt (t_loadA 2 #[.int .i64 c.a.kind, .int .i64 c.a.p, .int .i64 c.a.q, .string c.a.str, .int .i64 c.a.ref]) ?_
               refine sp (pB g1 18) ?_
               refine s_lt (t_load 2 c.lv.v) ?_
               refine s_call [3] (hsetrefs_s (st := st) hc (by (try simp only [lnm]); omega) c.a) ?_
               rintro _ _ ⟨rfl, rfl⟩
               refine sp (pB g3 13) ?_
               refine s_store 1 #[.int .i64 0, .int .i64 0, .int .i64 0, .string ByteArray.empty, .int .i64 0, .int .i64 0, .int .i64 0, .int .i64 0, .string ByteArray.empty, .int .i64 0, .int .i64 0, .string ByteArray.empty, .bool false, .int .i64 (hsetRefsE st c.a c.l)] ?_
               refine s_nil ?_
               refine xs_block ?_
               refine xs_then ?_
               refine k_sr ?_
               refine s_lt (t_loadA 1 #[.int .i64 0, .int .i64 0, .int .i64 0, .string ByteArray.empty, .int .i64 0, .int .i64 0, .int .i64 0, .int .i64 0, .string ByteArray.empty, .int .i64 0, .int .i64 0, .string ByteArray.empty, .bool false, .int .i64 (hsetRefsE st c.a c.l)]) ?_
               refine s_store 2 #[.int .i64 0, .int .i64 0, .int .i64 0, .string ByteArray.empty, .int .i64 0, .int .i64 0, .int .i64 0, .int .i64 0, .string ByteArray.empty, .int .i64 0, .int .i64 0, .string ByteArray.empty, .bool false, .int .i64 (hsetRefsE st c.a c.l)] ?_
               refine s_nt ?_
               refine k_ret ?_
               have h1 : hcall st c = hsetRefs st c.a c.l := hcall_13 (by omega)
               have h2 : hres st c = ⟨zVl, zVl, 0, ByteArray.empty, false, hsetRefsE st c.a c.l⟩ := hres_13 (by omega)
               refine xs_fin [.agg #[.int .i64 0, .int .i64 0, .int .i64 0, .string ByteArray.empty, .int .i64 0, .int .i64 0, .int .i64 0, .int .i64 0, .string ByteArray.empty, .int .i64 0, .int .i64 0, .string ByteArray.empty, .bool false, .int .i64 (hsetRefsE st c.a c.l)]] (hpA b (hsetRefs st c.a c.l) :: F) (SI.agg 4 65 2 SI.nil) (fun _ h => h.re [0] [1, 1, 1]) ⟨?_, ?_⟩
               · rw [h2]; rfl
               · rw [h1]
              ·
               have p54 := of_decide_eq_false c52
               refine k_sr ?_
               refine s_lt t_cmp ?_
               refine sp (.bool (decide (c.kind = 14))) ?_
               refine s_nt ?_
               refine k_cond (decide (c.kind = 14)) (fun c55 => ?_) (fun c55 => ?_)
               ·
                have p56 := of_decide_eq_true c55
                refine k_reg ?_
                refine sp (pB b 0) ?_
                refine sp (pB g1 16) ?_
                refine s_lt (t_load 2 (.int .i64 c.n)) ?_
                refine s_call [3] (hdrop_s (st := st) c.n) ?_
                rintro _ _ ⟨rfl, rfl⟩
                refine sp (pB g3 13) ?_
                refine s_store 1 #[.int .i64 0, .int .i64 0, .int .i64 0, .string ByteArray.empty, .int .i64 0, .int .i64 0, .int .i64 0, .int .i64 0, .string ByteArray.empty, .int .i64 0, .int .i64 0, .string ByteArray.empty, .bool false, .int .i64 (hdropE st c.n)] ?_
                refine s_nil ?_
                refine xs_block ?_
                refine xs_then ?_
                refine k_sr ?_
                refine s_lt (t_loadA 1 #[.int .i64 0, .int .i64 0, .int .i64 0, .string ByteArray.empty, .int .i64 0, .int .i64 0, .int .i64 0, .int .i64 0, .string ByteArray.empty, .int .i64 0, .int .i64 0, .string ByteArray.empty, .bool false, .int .i64 (hdropE st c.n)]) ?_
                refine s_store 2 #[.int .i64 0, .int .i64 0, .int .i64 0, .string ByteArray.empty, .int .i64 0, .int .i64 0, .int .i64 0, .int .i64 0, .string ByteArray.empty, .int .i64 0, .int .i64 0, .string ByteArray.empty, .bool false, .int .i64 (hdropE st c.n)] ?_
                refine s_nt ?_
                refine k_ret ?_
                have h1 : hcall st c = hdrop st c.n := hcall_14 (by omega)
                have h2 : hres st c = ⟨zVl, zVl, 0, ByteArray.empty, false, hdropE st c.n⟩ := hres_14 (by omega)
                refine xs_fin [.agg #[.int .i64 0, .int .i64 0, .int .i64 0, .string ByteArray.empty, .int .i64 0, .int .i64 0, .int .i64 0, .int .i64 0, .string ByteArray.empty, .int .i64 0, .int .i64 0, .string ByteArray.empty, .bool false, .int .i64 (hdropE st c.n)]] (hpA b (hdrop st c.n) :: F) (SI.agg 4 65 2 SI.nil) (fun _ h => h.re [0] [1, 1, 1]) ⟨?_, ?_⟩
                · rw [h2]; rfl
                · rw [h1]
               ·
                have p57 := of_decide_eq_false c55
                refine k_sr ?_
                refine s_lt t_cmp ?_
                refine sp (.bool (decide (c.kind = 15))) ?_
                refine s_nt ?_
                refine k_cond (decide (c.kind = 15)) (fun c58 => ?_) (fun c58 => ?_)
                ·
                 have p59 := of_decide_eq_true c58
                 refine k_sr ?_
                 refine sp (pB b 0) ?_
                 refine sp (pB g1 1) ?_
                 refine s_lt (t_loadA 2 #[.int .i64 c.a.kind, .int .i64 c.a.p, .int .i64 c.a.q, .string c.a.str, .int .i64 c.a.ref]) ?_
                 refine s_call [3] (htag_s (st := st) c.a) ?_
                 rintro _ _ ⟨rfl, rfl⟩
                 refine sp (.tuple #[.int .i64 ((htagV st c.a).1), .bool ((htagV st c.a).2)]) ?_
                 refine sp (.int .i64 ((htagV st c.a).1)) ?_
                 refine sp (.bool ((htagV st c.a).2)) ?_
                 refine sp (.int .i64 ((htagV st c.a).1)) ?_
                 refine sp (.bool ((htagV st c.a).2)) ?_
                 refine s_nt ?_
                 refine k_reg ?_
                 refine sp (.int .i64 ((htagV st c.a).1)) ?_
                 refine sp (.bool ((htagV st c.a).2)) ?_
                 refine s_lt (t_kern (.agg #[.int .i64 0, .int .i64 0, .int .i64 0, .string ByteArray.empty, .int .i64 0, .int .i64 0, .int .i64 0, .int .i64 0, .string ByteArray.empty, .int .i64 0, .int .i64 ((htagV st c.a).1), .string ByteArray.empty, .bool ((htagV st c.a).2), .int .i64 0])) ?_
                 refine s_store 1 #[.int .i64 0, .int .i64 0, .int .i64 0, .string ByteArray.empty, .int .i64 0, .int .i64 0, .int .i64 0, .int .i64 0, .string ByteArray.empty, .int .i64 0, .int .i64 ((htagV st c.a).1), .string ByteArray.empty, .bool ((htagV st c.a).2), .int .i64 0] ?_
                 refine s_nil ?_
                 refine xs_block ?_
                 refine xs_then ?_
                 refine k_sr ?_
                 refine s_lt (t_loadA 1 #[.int .i64 0, .int .i64 0, .int .i64 0, .string ByteArray.empty, .int .i64 0, .int .i64 0, .int .i64 0, .int .i64 0, .string ByteArray.empty, .int .i64 0, .int .i64 ((htagV st c.a).1), .string ByteArray.empty, .bool ((htagV st c.a).2), .int .i64 0]) ?_
                 refine s_store 2 #[.int .i64 0, .int .i64 0, .int .i64 0, .string ByteArray.empty, .int .i64 0, .int .i64 0, .int .i64 0, .int .i64 0, .string ByteArray.empty, .int .i64 0, .int .i64 ((htagV st c.a).1), .string ByteArray.empty, .bool ((htagV st c.a).2), .int .i64 0] ?_
                 refine s_nt ?_
                 refine k_ret ?_
                 have h1 : hcall st c = st := hcall_15 (by omega)
                 have h2 : hres st c = ⟨zVl, zVl, (htagV st c.a).1, ByteArray.empty, (htagV st c.a).2, 0⟩ := hres_15 (by omega)
                 refine xs_fin [.agg #[.int .i64 0, .int .i64 0, .int .i64 0, .string ByteArray.empty, .int .i64 0, .int .i64 0, .int .i64 0, .int .i64 0, .string ByteArray.empty, .int .i64 0, .int .i64 ((htagV st c.a).1), .string ByteArray.empty, .bool ((htagV st c.a).2), .int .i64 0]] (hpA b st :: F) (SI.agg 4 65 2 SI.nil) (fun _ h => h.re [0] [1, 1, 1]) ⟨?_, ?_⟩
                 · rw [h2]; rfl
                 · rw [h1]
                ·
                 have p60 := of_decide_eq_false c58
                 refine k_sr ?_
                 refine s_lt t_cmp ?_
                 refine sp (.bool (decide (c.kind = 16))) ?_
                 refine s_nt ?_
                 refine k_cond (decide (c.kind = 16)) (fun c61 => ?_) (fun c61 => ?_)
                 ·
                  have p62 := of_decide_eq_true c61
                  refine k_sr ?_
                  refine sp (pB b 0) ?_
                  refine sp (pB g1 1) ?_
                  refine s_lt (t_loadA 2 #[.int .i64 c.a.kind, .int .i64 c.a.p, .int .i64 c.a.q, .string c.a.str, .int .i64 c.a.ref]) ?_
                  refine s_call [3] (hname_s (st := st) c.a) ?_
                  rintro _ _ ⟨rfl, rfl⟩
                  refine sp (.tuple #[.string ((hnameV st c.a).1), .bool ((hnameV st c.a).2)]) ?_
                  refine sp (.string ((hnameV st c.a).1)) ?_
                  refine sp (.bool ((hnameV st c.a).2)) ?_
                  refine sp (.string ((hnameV st c.a).1)) ?_
                  refine sp (.bool ((hnameV st c.a).2)) ?_
                  refine s_nt ?_
                  refine k_reg ?_
                  refine sp (.string ((hnameV st c.a).1)) ?_
                  refine sp (.bool ((hnameV st c.a).2)) ?_
                  refine s_lt (t_kern (.agg #[.int .i64 0, .int .i64 0, .int .i64 0, .string ByteArray.empty, .int .i64 0, .int .i64 0, .int .i64 0, .int .i64 0, .string ByteArray.empty, .int .i64 0, .int .i64 0, .string ((hnameV st c.a).1), .bool ((hnameV st c.a).2), .int .i64 0])) ?_
                  refine s_store 1 #[.int .i64 0, .int .i64 0, .int .i64 0, .string ByteArray.empty, .int .i64 0, .int .i64 0, .int .i64 0, .int .i64 0, .string ByteArray.empty, .int .i64 0, .int .i64 0, .string ((hnameV st c.a).1), .bool ((hnameV st c.a).2), .int .i64 0] ?_
                  refine s_nil ?_
                  refine xs_block ?_
                  refine xs_then ?_
                  refine k_sr ?_
                  refine s_lt (t_loadA 1 #[.int .i64 0, .int .i64 0, .int .i64 0, .string ByteArray.empty, .int .i64 0, .int .i64 0, .int .i64 0, .int .i64 0, .string ByteArray.empty, .int .i64 0, .int .i64 0, .string ((hnameV st c.a).1), .bool ((hnameV st c.a).2), .int .i64 0]) ?_
                  refine s_store 2 #[.int .i64 0, .int .i64 0, .int .i64 0, .string ByteArray.empty, .int .i64 0, .int .i64 0, .int .i64 0, .int .i64 0, .string ByteArray.empty, .int .i64 0, .int .i64 0, .string ((hnameV st c.a).1), .bool ((hnameV st c.a).2), .int .i64 0] ?_
                  refine s_nt ?_
                  refine k_ret ?_
                  have h1 : hcall st c = st := hcall_16 (by omega)
                  have h2 : hres st c = ⟨zVl, zVl, 0, (hnameV st c.a).1, (hnameV st c.a).2, 0⟩ := hres_16 (by omega)
                  refine xs_fin [.agg #[.int .i64 0, .int .i64 0, .int .i64 0, .string ByteArray.empty, .int .i64 0, .int .i64 0, .int .i64 0, .int .i64 0, .string ByteArray.empty, .int .i64 0, .int .i64 0, .string ((hnameV st c.a).1), .bool ((hnameV st c.a).2), .int .i64 0]] (hpA b st :: F) (SI.agg 4 65 2 SI.nil) (fun _ h => h.re [0] [1, 1, 1]) ⟨?_, ?_⟩
                  · rw [h2]; rfl
                  · rw [h1]
                 ·
                  have p63 := of_decide_eq_false c61
                  refine k_sr ?_
                  refine s_lt t_cmp ?_
                  refine sp (.bool (decide (c.kind = 17))) ?_
                  refine s_nt ?_
                  refine k_cond (decide (c.kind = 17)) (fun c64 => ?_) (fun c64 => ?_)
                  ·
                   have p65 := of_decide_eq_true c64
                   refine k_reg ?_
                   refine sp (pB b 0) ?_
                   refine sp (pB g1 1) ?_
                   refine s_lt (t_loadA 2 #[.int .i64 c.a.kind, .int .i64 c.a.p, .int .i64 c.a.q, .string c.a.str, .int .i64 c.a.ref]) ?_
                   refine s_call [3] (hmeta_s (st := st) c.a) ?_
                   rintro _ _ ⟨rfl, rfl⟩
                   refine sp (pB g3 0) ?_
                   refine s_store 1 #[.int .i64 ((hmeta st c.a).kind), .int .i64 ((hmeta st c.a).p), .int .i64 ((hmeta st c.a).q), .string ((hmeta st c.a).str), .int .i64 ((hmeta st c.a).ref), .int .i64 0, .int .i64 0, .int .i64 0, .string ByteArray.empty, .int .i64 0, .int .i64 0, .string ByteArray.empty, .bool false, .int .i64 0] ?_
                   refine s_nil ?_
                   refine xs_block ?_
                   refine xs_then ?_
                   refine k_sr ?_
                   refine s_lt (t_loadA 1 #[.int .i64 ((hmeta st c.a).kind), .int .i64 ((hmeta st c.a).p), .int .i64 ((hmeta st c.a).q), .string ((hmeta st c.a).str), .int .i64 ((hmeta st c.a).ref), .int .i64 0, .int .i64 0, .int .i64 0, .string ByteArray.empty, .int .i64 0, .int .i64 0, .string ByteArray.empty, .bool false, .int .i64 0]) ?_
                   refine s_store 2 #[.int .i64 ((hmeta st c.a).kind), .int .i64 ((hmeta st c.a).p), .int .i64 ((hmeta st c.a).q), .string ((hmeta st c.a).str), .int .i64 ((hmeta st c.a).ref), .int .i64 0, .int .i64 0, .int .i64 0, .string ByteArray.empty, .int .i64 0, .int .i64 0, .string ByteArray.empty, .bool false, .int .i64 0] ?_
                   refine s_nt ?_
                   refine k_ret ?_
                   have h1 : hcall st c = st := hcall_17 (by omega)
                   have h2 : hres st c = ⟨hmeta st c.a, zVl, 0, ByteArray.empty, false, 0⟩ := hres_17 (by omega)
                   refine xs_fin [.agg #[.int .i64 ((hmeta st c.a).kind), .int .i64 ((hmeta st c.a).p), .int .i64 ((hmeta st c.a).q), .string ((hmeta st c.a).str), .int .i64 ((hmeta st c.a).ref), .int .i64 0, .int .i64 0, .int .i64 0, .string ByteArray.empty, .int .i64 0, .int .i64 0, .string ByteArray.empty, .bool false, .int .i64 0]] (hpA b st :: F) (SI.agg 4 65 2 SI.nil) (fun _ h => h.re [0] [1, 1, 1]) ⟨?_, ?_⟩
                   · rw [h2]; rfl
                   · rw [h1]
                  ·
                   have p66 := of_decide_eq_false c64
                   refine k_reg ?_
                   refine sp (pB b 0) ?_
                   refine sp (pB g1 16) ?_
                   refine s_lt (t_load 2 (.int .i64 c.n)) ?_
                   refine s_call [3] (halive_s (st := st) c.n) ?_
                   rintro _ _ ⟨rfl, rfl⟩
                   refine sp (pB g3 12) ?_
                   refine s_store 1 #[.int .i64 0, .int .i64 0, .int .i64 0, .string ByteArray.empty, .int .i64 0, .int .i64 0, .int .i64 0, .int .i64 0, .string ByteArray.empty, .int .i64 0, .int .i64 0, .string ByteArray.empty, .bool (halive st c.n), .int .i64 0] ?_
                   refine s_nil ?_
                   refine xs_block ?_
                   refine xs_then ?_
                   refine k_sr ?_
                   refine s_lt (t_loadA 1 #[.int .i64 0, .int .i64 0, .int .i64 0, .string ByteArray.empty, .int .i64 0, .int .i64 0, .int .i64 0, .int .i64 0, .string ByteArray.empty, .int .i64 0, .int .i64 0, .string ByteArray.empty, .bool (halive st c.n), .int .i64 0]) ?_
                   refine s_store 2 #[.int .i64 0, .int .i64 0, .int .i64 0, .string ByteArray.empty, .int .i64 0, .int .i64 0, .int .i64 0, .int .i64 0, .string ByteArray.empty, .int .i64 0, .int .i64 0, .string ByteArray.empty, .bool (halive st c.n), .int .i64 0] ?_
                   refine s_nt ?_
                   refine k_ret ?_
                   have h1 : hcall st c = st := hcall_x (by omega)
                   have h2 : hres st c = ⟨zVl, zVl, 0, ByteArray.empty, halive st c.n, 0⟩ := hres_x (by omega)
                   refine xs_fin [.agg #[.int .i64 0, .int .i64 0, .int .i64 0, .string ByteArray.empty, .int .i64 0, .int .i64 0, .int .i64 0, .int .i64 0, .string ByteArray.empty, .int .i64 0, .int .i64 0, .string ByteArray.empty, .bool (halive st c.n), .int .i64 0]] (hpA b st :: F) (SI.agg 4 65 2 SI.nil) (fun _ h => h.re [0] [1, 1, 1]) ⟨?_, ?_⟩
                   · rw [h2]; rfl
                   · rw [h1]
end Go.Proofs.Ytmilekfknhglkaa
end
section
set_option linter.unusedSimpArgs false
set_option linter.unusedVariables false
namespace Go.J
open Go.ChangeShapes Go.WideShapes Go.RowKit Go.Hp
open Go.Mem (Ty)
section
variable {H : Type} {enc : TypeId × Value → H} {P : Program} {W : World}
abbrev Tr (enc : TypeId × Value → H) (P : Program) (W : World) (t : TypeId) (cs : List Value) : Prop := ∃ n x, DataW.trod enc P W 0 (fun _ => true) true n t cs = some x
theorem tr_field {t : TypeId} {fs : Array Field} {cs : List Value} (hu : P.underlying t = some (.struct fs)) (h : Tr enc P W t cs) (j : Nat) (f : Field) (hf : fs[j]? = some f) : Tr enc P W f.type ((cs.drop f.offset).take (P.cellsOf f.type)) := by
  obtain ⟨fuel, x, hx⟩ := h
  obtain ⟨xs, n, _, _, hlen, hxl, hall⟩ := DataW.trod_struct hu hx
  have h2 := hall j f hf
  have hj : j < xs.length := by rw [hxl]; exact (Array.getElem?_eq_some_iff.1 hf).1
  rw [List.getElem?_eq_getElem hj] at h2
  exact ⟨n, _, h2⟩
theorem tr_len {t : TypeId} {fs : Array Field} {cs : List Value} (hu : P.underlying t = some (.struct fs)) (h : Tr enc P W t cs) : cs.length = P.cellsOf t := by
  obtain ⟨fuel, x, hx⟩ := h
  obtain ⟨xs, n, _, _, hlen, hxl, hall⟩ := DataW.trod_struct hu hx
  exact hlen
theorem tr_int {t : TypeId} {k : IntKind} {cs : List Value} (hu : P.underlying t = some (.int k)) (h : Tr enc P W t cs) : ∃ n, cs = [.int k n] ∧ (Lit.int k n).wf = true := by
  obtain ⟨fuel, x, hx⟩ := h
  obtain ⟨n, h1, _, h3⟩ := DataW.trod_int hu hx
  exact ⟨n, h1, h3⟩
theorem tr_str {t : TypeId} {cs : List Value} (hu : P.underlying t = some .string) (h : Tr enc P W t cs) : ∃ s, cs = [.string s] := by
  obtain ⟨fuel, x, hx⟩ := h
  obtain ⟨n, h1, _⟩ := DataW.trod_string hu hx
  exact ⟨n, h1⟩
end
end Go.J
end
section
set_option linter.unusedSimpArgs false
set_option linter.unusedVariables false
namespace Go.J
open Go.ChangeShapes Go.WideShapes Go.RowKit Go.Hp
open Go.Mem (Ty)
section
variable {H : Type} {enc : TypeId × Value → H} {P : Program} {W : World}
/-- A slice that is read: its elements, and that each of them is read. -/
theorem tr_sliceQ {α : Type} [Inhabited α] {T : Ty α} (hT : T.Ok P) {t : TypeId} {cs : List Value} (ht : P.underlying t = some (.slice T.id)) (hc : P.cellsOf T.id = T.size)
    {Q : α → Prop} (hdec : ∀ cs, Tr enc P W T.id cs → ∃ x, T.enc x = cs ∧ Q x) (h : Tr enc P W t cs) : ∃ v L, cs = [v] ∧ Sl W.heap T v L ∧ ∀ y ∈ L, Q y := by
  obtain ⟨fuel, x, hf⟩ := h
  rcases Deep.open_slice ht hf with ⟨h0, _⟩ | ⟨a, len0, cap, m, n, D, Pl, h0, _, hl, hm, hmm, _, hx⟩
  · exact ⟨_, [], h0, .inl ⟨⟨none, rfl⟩, rfl⟩, by simp⟩
  simp only [if_true] at hmm
  subst hmm
  have hpos := hT.pos
  rw [hc] at hx
  by_cases hcap : m = 0
  · subst hcap
    obtain rfl : len0 = 0 := by omega
    exact ⟨_, [], h0, .inl ⟨⟨some a, rfl⟩, rfl⟩, by simp⟩
  obtain ⟨g, off, spot⟩ := a
  have key : spot = none ∧ ∃ arr e fr, W.heap[g]? = some (.cells arr e fr) := by
    obtain ⟨cs', h1, h2⟩ := hx 0 (by omega)
    obtain ⟨_, hlen, hcell⟩ := World.cells?_some h1
    have h3 := hcell 0 hpos
    simp only [Nat.zero_mul, Addr.add, if_true] at h3
    have hne : cs'[0]? ≠ none := by rw [List.getElem?_eq_getElem (by omega)]; exact fun h => nomatch h
    unfold World.cell? at h3
    simp only at h3
    cases hg : W.heap[g]? with
    | none => rw [hg] at h3; simp only at h3; exact absurd h3.symm hne
    | some ob =>
      rw [hg] at h3
      cases ob <;> simp only at h3 <;> first | (exact absurd h3.symm hne) | skip
      rename_i arr e fr
      cases spot with
      | none => exact ⟨rfl, arr, e, fr, rfl⟩
      | some s => simp only [Option.isSome_some, if_true] at h3; exact absurd h3.symm hne
  obtain ⟨rfl, arr, e, fr, hg⟩ := key
  obtain ⟨X, hX⟩ := Deep.choose_lt (α := α) (p := fun i x => (∀ j u, (T.enc x)[j]? = some u → arr[off + i * T.size + j]? = some u) ∧ Q x) (fun i hi => by
    obtain ⟨cs', h1, h2⟩ := hx i hi
    obtain ⟨_, hlen, hcell⟩ := World.cells?_some h1
    obtain ⟨x, hx', hQ⟩ := hdec cs' ⟨_, _, h2⟩
    refine ⟨x, fun j u hj => ?_, hQ⟩
    rw [hx'] at hj
    have hjl : j < T.size := by rw [← hlen]; exact (List.getElem?_eq_some_iff.1 hj).1
    have := hcell j hjl
    rw [Mem.addr_add, Mem.addr_add, cell_of_row W g _ arr e fr hg, hj] at this
    exact this)
  have hget : ∀ i j, i < m → j < T.size → ∃ u, (T.enc (X i))[j]? = some u ∧ arr[off + i * T.size + j]? = some u := fun i j hi hj => by
    have : j < (T.enc (X i)).length := by rw [hT.len]; exact hj
    exact ⟨_, List.getElem?_eq_getElem this, (hX i hi).1 j _ (List.getElem?_eq_getElem this)⟩
  refine ⟨_, (List.range len0).map X, h0, .inr ⟨g, off, m, arr, e, fr, by simp, hg, by simpa using hl, hm, ?_, ?_⟩, ?_⟩
  · intro hcp
    obtain ⟨u, _, hu⟩ := hget (m - 1) (T.size - 1) (by omega) (by omega)
    have hlt := (Array.getElem?_eq_some_iff.1 hu).1
    have : m * T.size = (m - 1) * T.size + T.size := by rw [Nat.sub_mul]; have : T.size ≤ m * T.size := Nat.le_mul_of_pos_left _ hcp; omega
    omega
  · apply List.ext_getElem?
    intro q
    have hfl := hT.flat_len ((List.range len0).map X)
    simp only [List.length_map, List.length_range] at hfl ⊢
    by_cases hq : q < len0 * T.size
    · have hi : q / T.size < len0 := Nat.div_lt_of_lt_mul (by rw [Nat.mul_comm]; exact hq)
      have hj : q % T.size < T.size := Nat.mod_lt _ hpos
      have e1 : q = q / T.size * T.size + q % T.size := by rw [Nat.mul_comm]; exact (Nat.div_add_mod _ _).symm
      obtain ⟨u, h1, h2⟩ := hget (q / T.size) (q % T.size) (by omega) hj
      have hL : ((List.range len0).map X)[q / T.size]? = some (X (q / T.size)) := by simp [hi]
      have h3 := hT.flat_get hL hj
      rw [← e1, h1] at h3
      rw [h3, List.getElem?_take, if_pos hq, List.getElem?_drop, Array.getElem?_toList]
      rw [← h2]
      congr 1
      omega
    · rw [List.getElem?_eq_none (by simp; omega), List.getElem?_eq_none (by rw [hfl]; omega)]
  · intro y hy
    simp only [List.mem_map, List.mem_range] at hy
    obtain ⟨i, hi, rfl⟩ := hy
    exact (hX i (by omega)).2
theorem tr_fieldC {t : TypeId} {fs : Array Field} {cs : List Value} (hu : P.underlying t = some (.struct fs)) (h : Tr enc P W t cs) (j : Nat) (u : TypeId) (off m : Nat) (hf : (fs[j]?).map (fun f => (f.type, f.offset)) = some (u, off) := by rfl) (hc : P.cellsOf u = m := by kernel_rfl) : Tr enc P W u ((cs.drop off).take m) := by
  cases hfj : fs[j]? with
  | none => rw [hfj] at hf; cases hf
  | some f =>
    rw [hfj] at hf
    injection hf with hf; injection hf with e1 e2
    subst e1 e2 hc
    exact tr_field hu h j f hfj
end
end Go.J
end
section
set_option linter.unusedSimpArgs false
set_option linter.unusedVariables false
namespace Go.Proofs.Ytmilekfknhglkaa
open Go.RowKit Go.J Go.S Go.Hp Go.ChangeShapes Go.WideShapes
theorem Try.own : ownKnob Try.prog.godebug = none := by kernel_rfl
theorem Try.laidOut : laidOutB Try.prog = true := by kernel_rfl
instance : Inhabited Vl := ⟨zVl⟩
instance : Inhabited Cl := ⟨ClT.zero⟩
section
variable {H : Type} {enc : TypeId × Value → H} {W : World}
theorem open_val {cs : List Value} (h : Tr enc Try.prog W 26 cs) : ∃ x : Vl, cs = VlT.enc x := by
  have hl : cs.length = 5 := (tr_len Try.underlying26 h).trans (by kernel_rfl)
  obtain ⟨a, ea, _⟩ := tr_int Try.underlying3 (tr_fieldC Try.underlying26 h 0 3 0 1)
  have hn := tr_fieldC Try.underlying26 h 1 24 1 2
  obtain ⟨b, eb, _⟩ := tr_int Try.underlying3 (tr_fieldC Try.underlying24 hn 0 3 0 1)
  obtain ⟨c, ec, _⟩ := tr_int Try.underlying3 (tr_fieldC Try.underlying24 hn 1 3 1 1)
  obtain ⟨s, es⟩ := tr_str Try.underlying9 (tr_fieldC Try.underlying26 h 2 9 3 1)
  obtain ⟨d, ed, _⟩ := tr_int Try.underlying3 (tr_fieldC Try.underlying26 h 3 3 4 1)
  match cs, hl with
  | [x0, x1, x2, x3, x4], _ =>
    obtain rfl : x0 = _ := (List.cons.inj (show [x0] = _ from ea)).1
    obtain rfl : x1 = _ := (List.cons.inj (show [x1] = _ from eb)).1
    obtain rfl : x2 = _ := (List.cons.inj (show [x2] = _ from ec)).1
    obtain rfl : x3 = _ := (List.cons.inj (show [x3] = _ from es)).1
    obtain rfl : x4 = _ := (List.cons.inj (show [x4] = _ from ed)).1
    exact ⟨⟨a, b, c, s, d⟩, rfl⟩
theorem open_vals {cs : List Value} (h : Tr enc Try.prog W 22 cs) : ∃ v L, cs = [v] ∧ Sl W.heap VlT v L := by
  obtain ⟨v, L, h1, h2, _⟩ := tr_sliceQ (Q := fun _ => True) VlT_ok Try.underlying22 (by kernel_rfl) (fun cs h => by obtain ⟨x, e⟩ := open_val h; exact ⟨x, e.symm, trivial⟩) h
  exact ⟨v, L, h1, h2⟩
theorem open_cl {cs : List Value} (h : Tr enc Try.prog W 29 cs) : ∃ x, ClT.enc x = cs ∧ Sl W.heap VlT x.lv.v x.l := by
  have hl : cs.length = 19 := (tr_len Try.underlying29 h).trans (by kernel_rfl)
  obtain ⟨k, ek, _⟩ := tr_int Try.underlying3 (tr_fieldC Try.underlying29 h 0 3 0 1)
  obtain ⟨a, ea⟩ := open_val (tr_fieldC Try.underlying29 h 1 26 1 5)
  obtain ⟨b, eb⟩ := open_val (tr_fieldC Try.underlying29 h 2 26 6 5)
  obtain ⟨c, ec⟩ := open_val (tr_fieldC Try.underlying29 h 3 26 11 5)
  obtain ⟨n, en, _⟩ := tr_int Try.underlying3 (tr_fieldC Try.underlying29 h 4 3 16 1)
  obtain ⟨s, es⟩ := tr_str Try.underlying9 (tr_fieldC Try.underlying29 h 5 9 17 1)
  obtain ⟨v, L, ev, hv⟩ := open_vals (tr_fieldC Try.underlying29 h 6 22 18 1)
  obtain ⟨p, q, rfl⟩ := hv.form
  match cs, hl with
  | [x0, x1, x2, x3, x4, x5, x6, x7, x8, x9, x10, x11, x12, x13, x14, x15, x16, x17, x18], _ =>
    obtain rfl : x0 = _ := (List.cons.inj (show [x0] = _ from ek)).1
    have fa : [x1, x2, x3, x4, x5] = VlT.enc a := ea
    have fb : [x6, x7, x8, x9, x10] = VlT.enc b := eb
    have fc : [x11, x12, x13, x14, x15] = VlT.enc c := ec
    simp only [VlT, Go.Mem.Ty.enc, Vl.v, Value.cells, List.cons.injEq, and_true] at fa fb fc
    obtain ⟨rfl, rfl, rfl, rfl, rfl⟩ := fa
    obtain ⟨rfl, rfl, rfl, rfl, rfl⟩ := fb
    obtain ⟨rfl, rfl, rfl, rfl, rfl⟩ := fc
    obtain rfl : x16 = _ := (List.cons.inj (show [x16] = _ from en)).1
    obtain rfl : x17 = _ := (List.cons.inj (show [x17] = _ from es)).1
    obtain rfl : x18 = _ := (List.cons.inj (show [x18] = _ from ev)).1
    exact ⟨⟨k, a, b, c, n, s, ⟨p, L.length, q⟩, L⟩, rfl, hv⟩
theorem open_cls {cs : List Value} (h : Tr enc Try.prog W 30 cs) : ∃ v L, cs = [v] ∧ KnL (zoneOf W.heap) v L := by
  obtain ⟨v, L, h1, h2, h3⟩ := tr_sliceQ (Q := fun x : Cl => Sl W.heap VlT x.lv.v x.l) ClT_ok Try.underlying30 (by kernel_rfl) (fun cs h => open_cl h) h
  exact ⟨v, L, h1, .of h2, fun x hx => .of (h3 x hx)⟩
end
end Go.Proofs.Ytmilekfknhglkaa
end
section
set_option linter.unusedSimpArgs false
set_option linter.unusedVariables false
namespace Go.Proofs.Ytmilekfknhglkaa
open Go.Hp Go.J
variable {st : Hst} {t k v x : Vl} {T : Tb}
theorem elemE_zero : elemE v = 0 ↔ validB v = true := by
  unfold elemE
  constructor
  · intro h
    by_cases h1 : v.kind = 3 ∧ 4096 < (v.str.size : Int)
    · rw [if_pos h1] at h; cases h
    · rw [if_neg h1] at h
      cases hb : validB v
      · rw [if_pos hb] at h; cases h
      · rfl
  · intro h
    have h1 : ¬ (v.kind = 3 ∧ 4096 < (v.str.size : Int)) := by
      rintro ⟨h3, h4⟩
      unfold validB at h
      simp [h3] at h
      omega
    rw [if_neg h1, if_neg (by rw [h]; decide)]
/-- The value t is an object that is a table, with T. -/
structure KT (st : Hst) (t : Vl) (T : Tb) : Prop where
  kd : t.kind = 4
  ob : ∃ o, st.get t.ref = some o ∧ o.kind = 4 ∧ o.tab = T
  inv : TInv T
  tw : TW T
theorem KT.make (hc : st.count < 65536) : KT (hmake st (newO 4 0 ByteArray.empty [])) (hmakeV st 4) noTb := by
  obtain ⟨_, h2, _, h4⟩ := hmake_ok (o := newO 4 0 ByteArray.empty []) hc
  refine ⟨by rw [h2]; rfl, ⟨newO 4 0 ByteArray.empty [], by rw [h2, h4]; exact if_pos rfl, rfl, rfl⟩, noTb_inv, noTb_tw⟩
theorem KT.tab (h : KT st t T) : htab st t = some T := by obtain ⟨o, hg, h4, hT⟩ := h.ob; rw [htab_of hg h.kd h4, hT]
theorem KT.get (h : KT st t T) (k : Vl) : hgetV st t k = tget T k := by unfold hgetV; rw [h.tab]
theorem KT.setE (h : KT st t T) (k v : Vl) : hsetE st t k v = 0 ↔ okKey k = true ∧ validB v = true := by
  unfold hsetE; rw [h.tab]; dsimp only
  cases hk : okKey k
  · simp
  · rw [if_neg (by decide), elemE_zero]; simp
theorem KT.set (h : KT st t T) (k v : Vl) : KT (hset st t k v) t (tset T k v) := by
  obtain ⟨o, hg, h4, hT⟩ := h.ob
  by_cases hok : okKey k = true ∧ validB v = true
  · obtain ⟨_, _, h3⟩ := hset_okG (x := v) hg h4 h.kd hok.1 (elemE_zero.2 hok.2)
    exact ⟨h.kd, ⟨{ o with tab := tset o.tab k v }, by rw [h3, if_pos rfl], h4, by rw [hT]⟩, tset_inv h.inv k v, tset_tw h.inv h.tw k v⟩
  · have h1 : tset T k v = T := by
      unfold tset
      cases hk : okKey k
      · rw [if_pos rfl]
      · cases hv : validB v
        · simp
        · exact absurd ⟨hk, hv⟩ hok
    have h2 : hset st t k v = st := by
      unfold hset; rw [h.tab]; dsimp only
      cases hk : okKey k
      · rw [if_pos rfl]
      · rw [if_neg (by decide), if_pos (fun he => hok ⟨hk, elemE_zero.1 he⟩)]
    rw [h1, h2]; exact h
theorem KT.get_set (h : KT st t T) (hk : okKey k = true) (hv : validB v = true) (k' : Vl) : hgetV (hset st t k v) t k' = if k' = k then v else hgetV st t k' := by
  rw [(h.set k v).get, h.get, tget_tset h.inv h.tw hk hv]
theorem KT.get_bad (h : KT st t T) (hb : ¬ (okKey k = true ∧ validB v = true)) (k' : Vl) : hgetV (hset st t k v) t k' = hgetV st t k' := by
  have h2 : hset st t k v = st := by
    unfold hset; rw [h.tab]; dsimp only
    cases hk : okKey k
    · rw [if_pos rfl]
    · rw [if_neg (by decide), if_pos (fun he => hb ⟨hk, elemE_zero.1 he⟩)]
  rw [h2]
theorem KT.alive (h : KT st t T) : halive st t.ref = true := by obtain ⟨o, hg, _, _⟩ := h.ob; unfold halive; rw [hg]; rfl
theorem KT.dropE (h : KT st t T) : hdropE st t.ref = 0 := by unfold hdropE; rw [if_pos h.alive]
theorem KT.dropped (h : KT st t T) : (hdrop st t.ref).get t.ref = none := by
  have ha := h.alive
  obtain ⟨o, hg, _, _⟩ := h.ob
  unfold hdrop; rw [if_pos ha]
  unfold Hst.get at hg ⊢
  dsimp only at hg ⊢
  split at hg
  · rename_i h1
    rw [if_pos h1, List.getElem?_set, if_pos rfl]; split <;> rfl
  · cases hg
theorem KT.gone (h : KT st t T) : hgetE (hdrop st t.ref) t = 8 := by
  have : htab (hdrop st t.ref) t = none := by unfold htab hfind; rw [h.dropped]; rfl
  unfold hgetE; rw [this]; rfl
theorem KT.dead (h : KT st t T) : hdropE (hdrop st t.ref) t.ref = 19 := by
  have : halive (hdrop st t.ref) t.ref = false := by unfold halive; rw [h.dropped]; rfl
  unfold hdropE; rw [if_neg (by rw [this]; decide)]
end Go.Proofs.Ytmilekfknhglkaa
end
