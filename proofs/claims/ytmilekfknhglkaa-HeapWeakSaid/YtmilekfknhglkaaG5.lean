/-
  Layer 14: calls, the small case. Each law says its conditions.
-/
import Derived.Test.YtmilekfknhglkaaG4
import Derived.Test.YtmilekfknhglkaaG2
import Derived.Test.YtmilekfknhglkaaRows
section
set_option linter.unusedSimpArgs false
set_option linter.unusedVariables false
set_option maxRecDepth 100000
set_option maxHeartbeats 2000000
namespace Go.Proofs.Ytmilekfknhglkaa
open Go.Hp Go.J Go.S
open Go.Mem (Ty KTy blk elemAt pre suf blk_pre blk_suf aget aset strK aggDesc)
open Go.Mem (adel apos aget_aset aget_adel)
abbrev Cl.w (x : Cl) : Value := .agg #[.int .i64 x.kind, .int .i64 x.a.kind, .int .i64 x.a.p, .int .i64 x.a.q, .string x.a.str, .int .i64 x.a.ref, .int .i64 x.b.kind, .int .i64 x.b.p, .int .i64 x.b.q, .string x.b.str, .int .i64 x.b.ref, .int .i64 x.c.kind, .int .i64 x.c.p, .int .i64 x.c.q, .string x.c.str, .int .i64 x.c.ref, .int .i64 x.n, .string x.s, x.lv.v]
def ClT : Ty Cl := ⟨29, 19, 200, true, Cl.w, ⟨0, zVl, zVl, zVl, 0, ByteArray.empty, ⟨none, 0, 0⟩, []⟩⟩
theorem ClT_ok : ClT.Ok Try.prog := ok_of ClT _ Try.t29 (by decide) (fun _ => rfl) (fun x u hu => by simp [Ty.enc, ClT, Cl.w, Value.cells] at hu; rcases hu with rfl | rfl | rfl | rfl | rfl | rfl | rfl | rfl | rfl | rfl | rfl | rfl | rfl | rfl | rfl | rfl | rfl | rfl | rfl <;> rfl) (fun _ => rfl) Try.underlying29 rfl (fun h => by cases h) (by kernel_rfl) (by kernel_rfl) (by kernel_rfl) (by kernel_rfl)
abbrev KnC (Z : Zone) (x : Cl) : Prop := Kn Z VlT x.lv.v x.l
/-- Calls that the zone knows. -/
structure KnL (Z : Zone) (lv : Value) (l : List Cl) : Prop where
  obs : Kn Z ClT lv l
  each : ∀ x ∈ l, KnC Z x
theorem lstr_s {Z : Zone} (s : ByteArray) : SF Try.prog 37 #[.string s] Z [] fun r Bs => r = (strV s).v ∧ Bs = [] := by
 refine sf_enter Try.func37 5 [(0, .string s)] (fun w0 => ?_)
 refine k_sr ?_
 refine s_alloc (.agg #[.int .i64 0, .int .i64 0, .int .i64 0, .string ByteArray.empty, .int .i64 0]) #[.int .i64 0, .int .i64 0, .int .i64 0, .string ByteArray.empty, .int .i64 0] (fun g1 => ?_)
 refine s_nr ?_
 refine sp (.string s) ?_
 refine s_lt (t_kern (.agg #[.int .i64 3, .int .i64 0, .int .i64 0, .string s, .int .i64 0])) ?_
 refine s_store 0 #[.int .i64 3, .int .i64 0, .int .i64 0, .string s, .int .i64 0] ?_
 refine s_nt ?_
 refine k_ret ?_
 exact xs_fin [.agg #[.int .i64 3, .int .i64 0, .int .i64 0, .string s, .int .i64 0]] [] (SI.agg 2 26 0 SI.nil) (fun _ h => h.re [] [0]) ⟨rfl, rfl⟩
def numV (n : Int) : Vl := ⟨2, n, 1, ByteArray.empty, 0⟩
theorem lnum_s {Z : Zone} (n : Int) : SF Try.prog 26 #[.int .i64 n] Z [] fun r Bs => r = (numV n).v ∧ Bs = [] := by
 refine sf_enter Try.func26 6 [(0, .int .i64 n)] (fun w0 => ?_)
 refine k_sr ?_
 refine s_alloc (.agg #[.int .i64 0, .int .i64 0, .int .i64 0, .string ByteArray.empty, .int .i64 0]) #[.int .i64 0, .int .i64 0, .int .i64 0, .string ByteArray.empty, .int .i64 0] (fun g1 => ?_)
 refine s_nr ?_
 refine sp (.int .i64 n) ?_
 refine s_lt (t_kern (.agg #[.int .i64 n, .int .i64 1])) ?_
 refine s_lt (t_kern (.agg #[.int .i64 2, .int .i64 n, .int .i64 1, .string ByteArray.empty, .int .i64 0])) ?_
 refine s_store 0 #[.int .i64 2, .int .i64 n, .int .i64 1, .string ByteArray.empty, .int .i64 0] ?_
 refine s_nt ?_
 refine k_ret ?_
 exact xs_fin [.agg #[.int .i64 2, .int .i64 n, .int .i64 1, .string ByteArray.empty, .int .i64 0]] [] (SI.agg 2 26 0 SI.nil) (fun _ h => h.re [] [0]) ⟨rfl, rfl⟩
theorem awake_s {Z : Zone} : SF Try.prog 9 #[] Z [] fun r Bs => r = .bool true ∧ Bs = [] := by
 refine sf_enter Try.func9 99 [] (fun w0 => ?_)
 refine k_sr ?_
 refine sp (.bool false) ?_
 refine s_nr ?_
 refine s_pcall (fun _ h => hnew_s) ?_
 rintro _ _ ⟨hb1, rfl, rfl⟩
 refine sp (pB hb1 0) ?_
 refine s_nt ?_
 refine k_seq ?_
 refine k_sr ?_
 refine sp (pB hb1 0) ?_
 refine sp (.bool false) ?_
 refine s_nt ?_
 refine k_false ?_
 refine k_st ?_
 refine k_sr ?_
 refine sp (pB hb1 0) ?_
 refine s_call [0] (hnewtable_s (st := hp0) (by have := HSm.nil.len; omega)) ?_
 rintro _ _ ⟨rfl, rfl⟩
 have hi2 := hmake_inv (o := (newO 4 0 ByteArray.empty [])) HInv.nil (newO_inv _ _ _ (by decide))
 have hs3 := hmake_sm (o := (newO 4 0 ByteArray.empty [])) HSm.nil rfl (by decide)
 have hw4 := HW.make (o := (newO 4 0 ByteArray.empty [])) HW.nil (newO_w _ _ _ (fun _ hv => (by cases hv)) (fun h8 => by cases h8))
 refine sp (.tuple #[.agg #[.int .i64 ((hmakeV hp0 4).kind), .int .i64 ((hmakeV hp0 4).p), .int .i64 ((hmakeV hp0 4).q), .string ((hmakeV hp0 4).str), .int .i64 ((hmakeV hp0 4).ref)], .int .i64 (hmakeE hp0)]) ?_
 refine sp (.agg #[.int .i64 ((hmakeV hp0 4).kind), .int .i64 ((hmakeV hp0 4).p), .int .i64 ((hmakeV hp0 4).q), .string ((hmakeV hp0 4).str), .int .i64 ((hmakeV hp0 4).ref)]) ?_
 refine sp (.int .i64 (hmakeE hp0)) ?_
 refine s_alloc (.agg #[.int .i64 0, .int .i64 0, .int .i64 0, .string ByteArray.empty, .int .i64 0]) #[.int .i64 0, .int .i64 0, .int .i64 0, .string ByteArray.empty, .int .i64 0] (fun g5 => ?_)
 refine s_store 0 #[.int .i64 ((hmakeV hp0 4).kind), .int .i64 ((hmakeV hp0 4).p), .int .i64 ((hmakeV hp0 4).q), .string ((hmakeV hp0 4).str), .int .i64 ((hmakeV hp0 4).ref)] ?_
 refine sp (.int .i64 (hmakeE hp0)) ?_
 refine s_nt ?_
 refine k_seq ?_
 refine k_seq ?_
 refine k_held [blkA g5 #[.int .i64 ((hmakeV hp0 4).kind), .int .i64 ((hmakeV hp0 4).p), .int .i64 ((hmakeV hp0 4).q), .string ((hmakeV hp0 4).str), .int .i64 ((hmakeV hp0 4).ref)] 26] ?_
 refine hp_ 0 [0] (.int .i64 (hmakeE hp0)) ?_
 refine h_l 1 rfl [0] (fun _ => (Lt.to t_cmp (congrArg Value.bool ((by kernel_rfl) : (decide ((hmakeE hp0) ≠ 0)) = false)))) ?_
 refine hp_ 2 [0] (.bool false) ?_
 refine h_l 3 rfl [0] (fun _ => (t_loadA 0 #[.int .i64 ((hmakeV hp0 4).kind), .int .i64 ((hmakeV hp0 4).p), .int .i64 ((hmakeV hp0 4).q), .string ((hmakeV hp0 4).str), .int .i64 ((hmakeV hp0 4).ref)])) ?_
 refine h_l 4 rfl [0] (fun _ => (t_kern (.agg #[.int .i64 4, .int .i64 0, .int .i64 0, .string ByteArray.empty, .int .i64 1]))) ?_
 refine h_l 5 rfl [0] (fun _ => (Lt.to (t_eqS (fun w => (eqVlT (hmakeV hp0 4) (⟨4, 0, 0, ByteArray.empty, 1⟩ : Vl) w).2)) (congrArg Value.bool ((congrArg Bool.not ((by kernel_rfl) : (decide ((hmakeV hp0 4) = (⟨4, 0, 0, ByteArray.empty, 1⟩ : Vl))) = true)).trans rfl : (!(decide ((hmakeV hp0 4) = (⟨4, 0, 0, ByteArray.empty, 1⟩ : Vl)))) = false)))) ?_
 refine hp_ 6 [0] (.bool false) ?_
 refine hp_ 7 [0] (.bool false) ?_
 refine hp_ 8 [0] (pB hb1 0) ?_
 refine h_l 9 rfl [0] (fun _ => (t_loadA 0 #[.int .i64 ((hmakeV hp0 4).kind), .int .i64 ((hmakeV hp0 4).p), .int .i64 ((hmakeV hp0 4).q), .string ((hmakeV hp0 4).str), .int .i64 ((hmakeV hp0 4).ref)])) ?_
 refine h_stepS 10 ?_
 refine s_vcall (fun _ h => lnum_s 1) ?_
 rintro _ rfl
 refine s_nil (xs_held [0] ?_)
 refine h_stepS 11 ?_
 refine s_vcall (fun _ h => lstr_s ⟨#[97]⟩) ?_
 rintro _ rfl
 refine s_nil (xs_held [0] ?_)
 refine h_stepS 12 ?_
 refine s_call [1] (hset_s (st := (hmake hp0 (newO 4 0 ByteArray.empty []))) hs3 (by omega) (hmakeV hp0 4) (numV 1) (strV ⟨#[97]⟩)) ?_
 rintro _ _ ⟨rfl, rfl⟩
 have hi6 := hset_inv hi2 (hmakeV hp0 4) (numV 1) (strV ⟨#[97]⟩)
 have hs7 := hset_sm hi2 hs3 (hmakeV hp0 4) (numV 1) (strV ⟨#[97]⟩)
 have hw8 := HW.set hi2 hw4 (hmakeV hp0 4) (numV 1) (strV ⟨#[97]⟩)
 refine s_nil (xs_held [1] ?_)
 refine h_l 13 rfl [1] (fun _ => (Lt.to t_cmp (congrArg Value.bool ((by kernel_rfl) : (decide ((hsetE (hmake hp0 (newO 4 0 ByteArray.empty [])) (hmakeV hp0 4) (numV 1) (strV ⟨#[97]⟩)) ≠ 0)) = false)))) ?_
 refine hp_ 14 [1] (.bool false) ?_
 refine hp_ 15 [1] (.bool false) ?_
 refine hp_ 16 [1] (pB hb1 0) ?_
 refine h_l 17 rfl [1] (fun _ => (t_loadA 0 #[.int .i64 ((hmakeV hp0 4).kind), .int .i64 ((hmakeV hp0 4).p), .int .i64 ((hmakeV hp0 4).q), .string ((hmakeV hp0 4).str), .int .i64 ((hmakeV hp0 4).ref)])) ?_
 refine h_l 18 rfl [1] (fun _ => (t_kern (.agg #[.int .i64 0, .int .i64 0, .int .i64 0, .string ByteArray.empty, .int .i64 0]))) ?_
 refine h_l 19 rfl [1] (fun _ => (t_loadA 0 #[.int .i64 ((hmakeV hp0 4).kind), .int .i64 ((hmakeV hp0 4).p), .int .i64 ((hmakeV hp0 4).q), .string ((hmakeV hp0 4).str), .int .i64 ((hmakeV hp0 4).ref)])) ?_
 refine h_stepS 20 ?_
 refine s_call [0] (hset_s (st := (hset (hmake hp0 (newO 4 0 ByteArray.empty [])) (hmakeV hp0 4) (numV 1) (strV ⟨#[97]⟩))) hs7 (by omega) (hmakeV hp0 4) zVl (hmakeV hp0 4)) ?_
 rintro _ _ ⟨rfl, rfl⟩
 have hi9 := hset_inv hi6 (hmakeV hp0 4) zVl (hmakeV hp0 4)
 have hs10 := hset_sm hi6 hs7 (hmakeV hp0 4) zVl (hmakeV hp0 4)
 have hw11 := HW.set hi6 hw8 (hmakeV hp0 4) zVl (hmakeV hp0 4)
 refine s_nil (xs_held [1] ?_)
 refine h_l 21 rfl [1] (fun _ => (Lt.to t_cmp (congrArg Value.bool ((by kernel_rfl) : (decide ((hsetE (hset (hmake hp0 (newO 4 0 ByteArray.empty [])) (hmakeV hp0 4) (numV 1) (strV ⟨#[97]⟩)) (hmakeV hp0 4) zVl (hmakeV hp0 4)) ≠ 13)) = false)))) ?_
 refine hp_ 22 [1] (.bool false) ?_
 refine h_doneS ?_
 refine xs_then ?_
 refine k_false ?_
 refine k_st ?_
 refine k_seq ?_
 refine k_held [blkA g5 #[.int .i64 ((hmakeV hp0 4).kind), .int .i64 ((hmakeV hp0 4).p), .int .i64 ((hmakeV hp0 4).q), .string ((hmakeV hp0 4).str), .int .i64 ((hmakeV hp0 4).ref)] 26] ?_
 refine hp_ 0 [1] (pB hb1 0) ?_
 refine h_l 1 rfl [1] (fun _ => (t_loadA 0 #[.int .i64 ((hmakeV hp0 4).kind), .int .i64 ((hmakeV hp0 4).p), .int .i64 ((hmakeV hp0 4).q), .string ((hmakeV hp0 4).str), .int .i64 ((hmakeV hp0 4).ref)])) ?_
 refine h_join (ι := Nat) 2 #[true, true, true, true, true, true, true, true, false, false] (fun g12 => [(1, pB hb1 0), (2, pB g5 0), (4, pB g12 0), (45, .agg #[.int .i64 ((hgetV (hset (hset (hmake hp0 (newO 4 0 ByteArray.empty [])) (hmakeV hp0 4) (numV 1) (strV ⟨#[97]⟩)) (hmakeV hp0 4) zVl (hmakeV hp0 4)) (hmakeV hp0 4) (numV 1)).kind), .int .i64 ((hgetV (hset (hset (hmake hp0 (newO 4 0 ByteArray.empty [])) (hmakeV hp0 4) (numV 1) (strV ⟨#[97]⟩)) (hmakeV hp0 4) zVl (hmakeV hp0 4)) (hmakeV hp0 4) (numV 1)).p), .int .i64 ((hgetV (hset (hset (hmake hp0 (newO 4 0 ByteArray.empty [])) (hmakeV hp0 4) (numV 1) (strV ⟨#[97]⟩)) (hmakeV hp0 4) zVl (hmakeV hp0 4)) (hmakeV hp0 4) (numV 1)).q), .string ((hgetV (hset (hset (hmake hp0 (newO 4 0 ByteArray.empty [])) (hmakeV hp0 4) (numV 1) (strV ⟨#[97]⟩)) (hmakeV hp0 4) zVl (hmakeV hp0 4)) (hmakeV hp0 4) (numV 1)).str), .int .i64 ((hgetV (hset (hset (hmake hp0 (newO 4 0 ByteArray.empty [])) (hmakeV hp0 4) (numV 1) (strV ⟨#[97]⟩)) (hmakeV hp0 4) zVl (hmakeV hp0 4)) (hmakeV hp0 4) (numV 1)).ref)]), (46, .int .i64 (hgetE (hset (hset (hmake hp0 (newO 4 0 ByteArray.empty [])) (hmakeV hp0 4) (numV 1) (strV ⟨#[97]⟩)) (hmakeV hp0 4) zVl (hmakeV hp0 4)) (hmakeV hp0 4)))]) (fun g12 => [blkA g12 #[.int .i64 0, .int .i64 0, .int .i64 0, .string ByteArray.empty, .int .i64 0] 26, hpA hb1 (hset (hset (hmake hp0 (newO 4 0 ByteArray.empty [])) (hmakeV hp0 4) (numV 1) (strV ⟨#[97]⟩)) (hmakeV hp0 4) zVl (hmakeV hp0 4)), blkA g5 #[.int .i64 ((hmakeV hp0 4).kind), .int .i64 ((hmakeV hp0 4).p), .int .i64 ((hmakeV hp0 4).q), .string ((hmakeV hp0 4).str), .int .i64 ((hmakeV hp0 4).ref)] 26]) ?_ (fun hj15 => ?_)
 ·
  rintro g12
  try dsimp only
  refine h_stepS 8 ?_
  refine s_store 0 #[.int .i64 ((hgetV (hset (hset (hmake hp0 (newO 4 0 ByteArray.empty [])) (hmakeV hp0 4) (numV 1) (strV ⟨#[97]⟩)) (hmakeV hp0 4) zVl (hmakeV hp0 4)) (hmakeV hp0 4) (numV 1)).kind), .int .i64 ((hgetV (hset (hset (hmake hp0 (newO 4 0 ByteArray.empty [])) (hmakeV hp0 4) (numV 1) (strV ⟨#[97]⟩)) (hmakeV hp0 4) zVl (hmakeV hp0 4)) (hmakeV hp0 4) (numV 1)).p), .int .i64 ((hgetV (hset (hset (hmake hp0 (newO 4 0 ByteArray.empty [])) (hmakeV hp0 4) (numV 1) (strV ⟨#[97]⟩)) (hmakeV hp0 4) zVl (hmakeV hp0 4)) (hmakeV hp0 4) (numV 1)).q), .string ((hgetV (hset (hset (hmake hp0 (newO 4 0 ByteArray.empty [])) (hmakeV hp0 4) (numV 1) (strV ⟨#[97]⟩)) (hmakeV hp0 4) zVl (hmakeV hp0 4)) (hmakeV hp0 4) (numV 1)).str), .int .i64 ((hgetV (hset (hset (hmake hp0 (newO 4 0 ByteArray.empty [])) (hmakeV hp0 4) (numV 1) (strV ⟨#[97]⟩)) (hmakeV hp0 4) zVl (hmakeV hp0 4)) (hmakeV hp0 4) (numV 1)).ref)] ?_
  refine s_nil (xs_held [2] ?_)
  refine hp_ 9 [2] (.int .i64 (hgetE (hset (hset (hmake hp0 (newO 4 0 ByteArray.empty [])) (hmakeV hp0 4) (numV 1) (strV ⟨#[97]⟩)) (hmakeV hp0 4) zVl (hmakeV hp0 4)) (hmakeV hp0 4))) ?_
  refine h_doneS ?_
  refine xs_then ?_
  refine k_sr ?_
  refine sp (pB hb1 0) ?_
  refine s_lt (t_loadA 2 #[.int .i64 ((hmakeV hp0 4).kind), .int .i64 ((hmakeV hp0 4).p), .int .i64 ((hmakeV hp0 4).q), .string ((hmakeV hp0 4).str), .int .i64 ((hmakeV hp0 4).ref)]) ?_
  refine s_call [1] (hlen_s (st := (hset (hset (hmake hp0 (newO 4 0 ByteArray.empty [])) (hmakeV hp0 4) (numV 1) (strV ⟨#[97]⟩)) (hmakeV hp0 4) zVl (hmakeV hp0 4))) hs10 (by omega) (hmakeV hp0 4)) ?_
  rintro _ _ ⟨rfl, rfl⟩
  refine sp (.tuple #[.int .i64 (hlenV (hset (hset (hmake hp0 (newO 4 0 ByteArray.empty [])) (hmakeV hp0 4) (numV 1) (strV ⟨#[97]⟩)) (hmakeV hp0 4) zVl (hmakeV hp0 4)) (hmakeV hp0 4)), .int .i64 (hgetE (hset (hset (hmake hp0 (newO 4 0 ByteArray.empty [])) (hmakeV hp0 4) (numV 1) (strV ⟨#[97]⟩)) (hmakeV hp0 4) zVl (hmakeV hp0 4)) (hmakeV hp0 4))]) ?_
  refine sp (.int .i64 (hlenV (hset (hset (hmake hp0 (newO 4 0 ByteArray.empty [])) (hmakeV hp0 4) (numV 1) (strV ⟨#[97]⟩)) (hmakeV hp0 4) zVl (hmakeV hp0 4)) (hmakeV hp0 4))) ?_
  refine sp (.int .i64 (hgetE (hset (hset (hmake hp0 (newO 4 0 ByteArray.empty [])) (hmakeV hp0 4) (numV 1) (strV ⟨#[97]⟩)) (hmakeV hp0 4) zVl (hmakeV hp0 4)) (hmakeV hp0 4))) ?_
  refine sp (.int .i64 (hlenV (hset (hset (hmake hp0 (newO 4 0 ByteArray.empty [])) (hmakeV hp0 4) (numV 1) (strV ⟨#[97]⟩)) (hmakeV hp0 4) zVl (hmakeV hp0 4)) (hmakeV hp0 4))) ?_
  refine sp (.int .i64 (hgetE (hset (hset (hmake hp0 (newO 4 0 ByteArray.empty [])) (hmakeV hp0 4) (numV 1) (strV ⟨#[97]⟩)) (hmakeV hp0 4) zVl (hmakeV hp0 4)) (hmakeV hp0 4))) ?_
  refine s_nr ?_
  refine sp (pB hb1 0) ?_
  refine s_call [0] (htouched_s (st := (hset (hset (hmake hp0 (newO 4 0 ByteArray.empty [])) (hmakeV hp0 4) (numV 1) (strV ⟨#[97]⟩)) (hmakeV hp0 4) zVl (hmakeV hp0 4))) hs10 (by omega)) ?_
  rintro v16 _ rfl
  refine s_fact (fun H h => ((Acc.own (T := iTy) (L := (htchd (hset (hset (hmake hp0 (newO 4 0 ByteArray.empty [])) (hmakeV hp0 4) (numV 1) (strV ⟨#[97]⟩)) (hmakeV hp0 4) zVl (hmakeV hp0 4)))) 0 rfl) H h).form) (fun hf17 => ?_)
  have hi18 := untch_inv hi9
  have hs19 := untch_sm hs10
  have hw20 := untch_w hw11
  have htl21 : (htchd (hset (hset (hmake hp0 (newO 4 0 ByteArray.empty [])) (hmakeV hp0 4) (numV 1) (strV ⟨#[97]⟩)) (hmakeV hp0 4) zVl (hmakeV hp0 4))) = [1] := by kernel_rfl
  refine s_mem (Bs := [own iTy v16 [1], hpA hb1 (huntch (hset (hset (hmake hp0 (newO 4 0 ByteArray.empty [])) (hmakeV hp0 4) (numV 1) (strV ⟨#[97]⟩)) (hmakeV hp0 4) zVl (hmakeV hp0 4))), blkA g12 #[.int .i64 ((hgetV (hset (hset (hmake hp0 (newO 4 0 ByteArray.empty [])) (hmakeV hp0 4) (numV 1) (strV ⟨#[97]⟩)) (hmakeV hp0 4) zVl (hmakeV hp0 4)) (hmakeV hp0 4) (numV 1)).kind), .int .i64 ((hgetV (hset (hset (hmake hp0 (newO 4 0 ByteArray.empty [])) (hmakeV hp0 4) (numV 1) (strV ⟨#[97]⟩)) (hmakeV hp0 4) zVl (hmakeV hp0 4)) (hmakeV hp0 4) (numV 1)).p), .int .i64 ((hgetV (hset (hset (hmake hp0 (newO 4 0 ByteArray.empty [])) (hmakeV hp0 4) (numV 1) (strV ⟨#[97]⟩)) (hmakeV hp0 4) zVl (hmakeV hp0 4)) (hmakeV hp0 4) (numV 1)).q), .string ((hgetV (hset (hset (hmake hp0 (newO 4 0 ByteArray.empty [])) (hmakeV hp0 4) (numV 1) (strV ⟨#[97]⟩)) (hmakeV hp0 4) zVl (hmakeV hp0 4)) (hmakeV hp0 4) (numV 1)).str), .int .i64 ((hgetV (hset (hset (hmake hp0 (newO 4 0 ByteArray.empty [])) (hmakeV hp0 4) (numV 1) (strV ⟨#[97]⟩)) (hmakeV hp0 4) zVl (hmakeV hp0 4)) (hmakeV hp0 4) (numV 1)).ref)] 26, blkA g5 #[.int .i64 ((hmakeV hp0 4).kind), .int .i64 ((hmakeV hp0 4).p), .int .i64 ((hmakeV hp0 4).q), .string ((hmakeV hp0 4).str), .int .i64 ((hmakeV hp0 4).ref)] 26]) (fun _ h => by rw [htl21] at h; exact h) ?_
  refine sp v16 ?_
  refine s_nt ?_
  refine k_seq ?_
  refine k_held [blkA g12 #[.int .i64 ((hgetV (hset (hset (hmake hp0 (newO 4 0 ByteArray.empty [])) (hmakeV hp0 4) (numV 1) (strV ⟨#[97]⟩)) (hmakeV hp0 4) zVl (hmakeV hp0 4)) (hmakeV hp0 4) (numV 1)).kind), .int .i64 ((hgetV (hset (hset (hmake hp0 (newO 4 0 ByteArray.empty [])) (hmakeV hp0 4) (numV 1) (strV ⟨#[97]⟩)) (hmakeV hp0 4) zVl (hmakeV hp0 4)) (hmakeV hp0 4) (numV 1)).p), .int .i64 ((hgetV (hset (hset (hmake hp0 (newO 4 0 ByteArray.empty [])) (hmakeV hp0 4) (numV 1) (strV ⟨#[97]⟩)) (hmakeV hp0 4) zVl (hmakeV hp0 4)) (hmakeV hp0 4) (numV 1)).q), .string ((hgetV (hset (hset (hmake hp0 (newO 4 0 ByteArray.empty [])) (hmakeV hp0 4) (numV 1) (strV ⟨#[97]⟩)) (hmakeV hp0 4) zVl (hmakeV hp0 4)) (hmakeV hp0 4) (numV 1)).str), .int .i64 ((hgetV (hset (hset (hmake hp0 (newO 4 0 ByteArray.empty [])) (hmakeV hp0 4) (numV 1) (strV ⟨#[97]⟩)) (hmakeV hp0 4) zVl (hmakeV hp0 4)) (hmakeV hp0 4) (numV 1)).ref)] 26, blkA g5 #[.int .i64 ((hmakeV hp0 4).kind), .int .i64 ((hmakeV hp0 4).p), .int .i64 ((hmakeV hp0 4).q), .string ((hmakeV hp0 4).str), .int .i64 ((hmakeV hp0 4).ref)] 26] ?_
  refine hp_ 0 [2, 2] (.int .i64 (hgetE (hset (hset (hmake hp0 (newO 4 0 ByteArray.empty [])) (hmakeV hp0 4) (numV 1) (strV ⟨#[97]⟩)) (hmakeV hp0 4) zVl (hmakeV hp0 4)) (hmakeV hp0 4))) ?_
  refine h_l 1 rfl [2, 2] (fun _ => (Lt.to t_cmp (congrArg Value.bool ((by kernel_rfl) : (decide ((hgetE (hset (hset (hmake hp0 (newO 4 0 ByteArray.empty [])) (hmakeV hp0 4) (numV 1) (strV ⟨#[97]⟩)) (hmakeV hp0 4) zVl (hmakeV hp0 4)) (hmakeV hp0 4)) = 0)) = true)))) ?_
  refine hp_ 2 [2, 2] (.bool true) ?_
  refine h_l 3 rfl [2, 2] (fun _ => (t_loadA 0 #[.int .i64 ((hgetV (hset (hset (hmake hp0 (newO 4 0 ByteArray.empty [])) (hmakeV hp0 4) (numV 1) (strV ⟨#[97]⟩)) (hmakeV hp0 4) zVl (hmakeV hp0 4)) (hmakeV hp0 4) (numV 1)).kind), .int .i64 ((hgetV (hset (hset (hmake hp0 (newO 4 0 ByteArray.empty [])) (hmakeV hp0 4) (numV 1) (strV ⟨#[97]⟩)) (hmakeV hp0 4) zVl (hmakeV hp0 4)) (hmakeV hp0 4) (numV 1)).p), .int .i64 ((hgetV (hset (hset (hmake hp0 (newO 4 0 ByteArray.empty [])) (hmakeV hp0 4) (numV 1) (strV ⟨#[97]⟩)) (hmakeV hp0 4) zVl (hmakeV hp0 4)) (hmakeV hp0 4) (numV 1)).q), .string ((hgetV (hset (hset (hmake hp0 (newO 4 0 ByteArray.empty [])) (hmakeV hp0 4) (numV 1) (strV ⟨#[97]⟩)) (hmakeV hp0 4) zVl (hmakeV hp0 4)) (hmakeV hp0 4) (numV 1)).str), .int .i64 ((hgetV (hset (hset (hmake hp0 (newO 4 0 ByteArray.empty [])) (hmakeV hp0 4) (numV 1) (strV ⟨#[97]⟩)) (hmakeV hp0 4) zVl (hmakeV hp0 4)) (hmakeV hp0 4) (numV 1)).ref)])) ?_
  refine h_stepS 4 ?_
  refine s_vcall (fun _ h => lstr_s ⟨#[97]⟩) ?_
  rintro _ rfl
  refine s_nil (xs_held [2, 2] ?_)
  refine h_l 5 rfl [2, 2] (fun _ => (Lt.to (t_eqS (fun w => (eqVlT (hgetV (hset (hset (hmake hp0 (newO 4 0 ByteArray.empty [])) (hmakeV hp0 4) (numV 1) (strV ⟨#[97]⟩)) (hmakeV hp0 4) zVl (hmakeV hp0 4)) (hmakeV hp0 4) (numV 1)) (strV ⟨#[97]⟩) w).1)) (congrArg Value.bool ((by kernel_rfl) : (decide ((hgetV (hset (hset (hmake hp0 (newO 4 0 ByteArray.empty [])) (hmakeV hp0 4) (numV 1) (strV ⟨#[97]⟩)) (hmakeV hp0 4) zVl (hmakeV hp0 4)) (hmakeV hp0 4) (numV 1)) = (strV ⟨#[97]⟩))) = true)))) ?_
  refine hp_ 6 [2, 2] (.bool true) ?_
  refine hp_ 7 [2, 2] (.bool true) ?_
  refine hp_ 8 [2, 2] (.int .i64 (hgetE (hset (hset (hmake hp0 (newO 4 0 ByteArray.empty [])) (hmakeV hp0 4) (numV 1) (strV ⟨#[97]⟩)) (hmakeV hp0 4) zVl (hmakeV hp0 4)) (hmakeV hp0 4))) ?_
  refine h_l 9 rfl [2, 2] (fun _ => (Lt.to t_cmp (congrArg Value.bool ((by kernel_rfl) : (decide ((hgetE (hset (hset (hmake hp0 (newO 4 0 ByteArray.empty [])) (hmakeV hp0 4) (numV 1) (strV ⟨#[97]⟩)) (hmakeV hp0 4) zVl (hmakeV hp0 4)) (hmakeV hp0 4)) = 0)) = true)))) ?_
  refine hp_ 10 [2, 2] (.bool true) ?_
  refine hp_ 11 [2, 2] (.bool true) ?_
  refine hp_ 12 [2, 2] (.int .i64 (hlenV (hset (hset (hmake hp0 (newO 4 0 ByteArray.empty [])) (hmakeV hp0 4) (numV 1) (strV ⟨#[97]⟩)) (hmakeV hp0 4) zVl (hmakeV hp0 4)) (hmakeV hp0 4))) ?_
  refine h_l 13 rfl [2, 2] (fun _ => (Lt.to t_cmp (congrArg Value.bool ((by kernel_rfl) : (decide ((hlenV (hset (hset (hmake hp0 (newO 4 0 ByteArray.empty [])) (hmakeV hp0 4) (numV 1) (strV ⟨#[97]⟩)) (hmakeV hp0 4) zVl (hmakeV hp0 4)) (hmakeV hp0 4)) = 1)) = true)))) ?_
  refine hp_ 14 [2, 2] (.bool true) ?_
  refine hp_ 15 [2, 2] (.bool true) ?_
  refine hp_ 16 [2, 2] (pB hb1 0) ?_
  refine h_l 18 rfl [2, 2] (fun _ => (t_loadA 1 #[.int .i64 ((hmakeV hp0 4).kind), .int .i64 ((hmakeV hp0 4).p), .int .i64 ((hmakeV hp0 4).q), .string ((hmakeV hp0 4).str), .int .i64 ((hmakeV hp0 4).ref)])) ?_
  refine h_stepS 17 ?_
  refine s_vcall (fun _ h => lnum_s 1) ?_
  rintro _ rfl
  refine s_nil (xs_held [2, 2] ?_)
  refine h_stepS 19 ?_
  refine s_call [1] (hsetmeta_s (st := (huntch (hset (hset (hmake hp0 (newO 4 0 ByteArray.empty [])) (hmakeV hp0 4) (numV 1) (strV ⟨#[97]⟩)) (hmakeV hp0 4) zVl (hmakeV hp0 4)))) (numV 1) (hmakeV hp0 4)) ?_
  rintro _ _ ⟨rfl, rfl⟩
  have hi22 := hsetMeta_inv hi18 (numV 1) (hmakeV hp0 4)
  have hs23 := hsetMeta_sm hs19 (numV 1) (hmakeV hp0 4)
  have hw24 := setMeta_w hw20 (numV 1) (hmakeV hp0 4)
  refine s_nil (xs_held [2, 2] ?_)
  refine h_l 20 rfl [2, 2] (fun _ => (Lt.to t_cmp (congrArg Value.bool ((by kernel_rfl) : (decide ((hsetMetaE (huntch (hset (hset (hmake hp0 (newO 4 0 ByteArray.empty [])) (hmakeV hp0 4) (numV 1) (strV ⟨#[97]⟩)) (hmakeV hp0 4) zVl (hmakeV hp0 4))) (numV 1) (hmakeV hp0 4)) = 8)) = true)))) ?_
  refine hp_ 21 [2, 2] (.bool true) ?_
  refine hp_ 22 [2, 2] (.bool true) ?_
  refine hp_ 23 [2, 2] (pB hb1 0) ?_
  refine h_stepS 24 ?_
  refine s_call [0] (hcount_s (st := (hsetMeta (huntch (hset (hset (hmake hp0 (newO 4 0 ByteArray.empty [])) (hmakeV hp0 4) (numV 1) (strV ⟨#[97]⟩)) (hmakeV hp0 4) zVl (hmakeV hp0 4))) (numV 1) (hmakeV hp0 4)))) ?_
  rintro _ _ ⟨rfl, rfl⟩
  refine s_nil (xs_held [2, 2] ?_)
  refine h_l 25 rfl [2, 2] (fun _ => (Lt.to t_cmp (congrArg Value.bool ((by kernel_rfl) : (decide (((hsetMeta (huntch (hset (hset (hmake hp0 (newO 4 0 ByteArray.empty [])) (hmakeV hp0 4) (numV 1) (strV ⟨#[97]⟩)) (hmakeV hp0 4) zVl (hmakeV hp0 4))) (numV 1) (hmakeV hp0 4)).count : Int) = 1)) = true)))) ?_
  refine hp_ 26 [2, 2] (.bool true) ?_
  refine hp_ 27 [2, 2] (.bool true) ?_
  refine hp_ 28 [2, 2] v16 ?_
  refine h_stepS 29 ?_
  refine s_lt (t_len iTy_ok Try.underlying54 (.own 1)) ?_
  refine s_nil (xs_held [2, 2] ?_)
  refine h_l 30 rfl [2, 2] (fun _ => (Lt.to t_cmp (congrArg Value.bool ((by kernel_rfl) : (decide (([1].length : Int) = 1)) = true)))) ?_
  refine hp_ 31 [2, 2] (.bool true) ?_
  refine hp_ 32 [2, 2] (.bool true) ?_
  refine hp_ 33 [2, 2] v16 ?_
  refine h_stepS 34 ?_
  refine s_lt (t_index iTy_ok Try.underlying54 (.own 1) 0 0 (by omega) (by (try simp only [lnm]); omega) (by omega)) ?_
  refine s_nil (xs_held [2, 2] ?_)
  refine h_stepS 35 ?_
  refine s_lt (t_loadE iTy_ok (.own 1) rfl) ?_
  refine s_nil (xs_held [2, 2] ?_)
  refine h_l 36 rfl [2, 2] (fun _ => (t_cmp (c := true))) ?_
  refine hp_ 37 [2, 2] (.bool true) ?_
  refine hp_ 38 [2, 2] (.bool true) ?_
  refine hp_ 39 [2, 2] (pB hb1 0) ?_
  refine h_stepS 40 ?_
  refine s_call [0] (htouched_s (st := (hsetMeta (huntch (hset (hset (hmake hp0 (newO 4 0 ByteArray.empty [])) (hmakeV hp0 4) (numV 1) (strV ⟨#[97]⟩)) (hmakeV hp0 4) zVl (hmakeV hp0 4))) (numV 1) (hmakeV hp0 4))) hs23 (by omega)) ?_
  rintro v25 _ rfl
  refine s_fact (fun H h => ((Acc.own (T := iTy) (L := (htchd (hsetMeta (huntch (hset (hset (hmake hp0 (newO 4 0 ByteArray.empty [])) (hmakeV hp0 4) (numV 1) (strV ⟨#[97]⟩)) (hmakeV hp0 4) zVl (hmakeV hp0 4))) (numV 1) (hmakeV hp0 4)))) 0 rfl) H h).form) (fun hf26 => ?_)
  have hi27 := untch_inv hi22
  have hs28 := untch_sm hs23
  have hw29 := untch_w hw24
  have htl30 : (htchd (hsetMeta (huntch (hset (hset (hmake hp0 (newO 4 0 ByteArray.empty [])) (hmakeV hp0 4) (numV 1) (strV ⟨#[97]⟩)) (hmakeV hp0 4) zVl (hmakeV hp0 4))) (numV 1) (hmakeV hp0 4))) = [] := by kernel_rfl
  refine s_mem (Bs := [own iTy v25 [], hpA hb1 (huntch (hsetMeta (huntch (hset (hset (hmake hp0 (newO 4 0 ByteArray.empty [])) (hmakeV hp0 4) (numV 1) (strV ⟨#[97]⟩)) (hmakeV hp0 4) zVl (hmakeV hp0 4))) (numV 1) (hmakeV hp0 4))), own iTy v16 [1], blkA g12 #[.int .i64 ((hgetV (hset (hset (hmake hp0 (newO 4 0 ByteArray.empty [])) (hmakeV hp0 4) (numV 1) (strV ⟨#[97]⟩)) (hmakeV hp0 4) zVl (hmakeV hp0 4)) (hmakeV hp0 4) (numV 1)).kind), .int .i64 ((hgetV (hset (hset (hmake hp0 (newO 4 0 ByteArray.empty [])) (hmakeV hp0 4) (numV 1) (strV ⟨#[97]⟩)) (hmakeV hp0 4) zVl (hmakeV hp0 4)) (hmakeV hp0 4) (numV 1)).p), .int .i64 ((hgetV (hset (hset (hmake hp0 (newO 4 0 ByteArray.empty [])) (hmakeV hp0 4) (numV 1) (strV ⟨#[97]⟩)) (hmakeV hp0 4) zVl (hmakeV hp0 4)) (hmakeV hp0 4) (numV 1)).q), .string ((hgetV (hset (hset (hmake hp0 (newO 4 0 ByteArray.empty [])) (hmakeV hp0 4) (numV 1) (strV ⟨#[97]⟩)) (hmakeV hp0 4) zVl (hmakeV hp0 4)) (hmakeV hp0 4) (numV 1)).str), .int .i64 ((hgetV (hset (hset (hmake hp0 (newO 4 0 ByteArray.empty [])) (hmakeV hp0 4) (numV 1) (strV ⟨#[97]⟩)) (hmakeV hp0 4) zVl (hmakeV hp0 4)) (hmakeV hp0 4) (numV 1)).ref)] 26, blkA g5 #[.int .i64 ((hmakeV hp0 4).kind), .int .i64 ((hmakeV hp0 4).p), .int .i64 ((hmakeV hp0 4).q), .string ((hmakeV hp0 4).str), .int .i64 ((hmakeV hp0 4).ref)] 26]) (fun _ h => by rw [htl30] at h; exact h) ?_
  refine s_nil (xs_held [3, 3] ?_)
  refine h_stepS 41 ?_
  refine s_lt (t_len iTy_ok Try.underlying54 (.own 0)) ?_
  refine s_nil (xs_held [3, 3] ?_)
  refine h_l 42 rfl [3, 3] (fun _ => (Lt.to t_cmp (congrArg Value.bool ((by kernel_rfl) : (decide (([].length : Int) = 0)) = true)))) ?_
  refine hp_ 43 [3, 3] (.bool true) ?_
  refine hp_ 44 [3, 3] (.bool true) ?_
  refine h_doneS ?_
  refine xs_then ?_
  refine k_ret ?_
  exact xs_fin [.bool true] [] (SI.tmp 0 SI.nil) (fun _ h => h.re [] [0, 0, 0, 0, 0]) ⟨rfl, rfl⟩
 refine h_join (ι := Nat) 6 #[true, true, true, false, false, false, false, true, false, false] (fun g13 => [(1, pB hb1 0), (2, pB g5 0), (4, pB g13 0), (41, pB hb1 0), (42, .agg #[.int .i64 ((hmakeV hp0 4).kind), .int .i64 ((hmakeV hp0 4).p), .int .i64 ((hmakeV hp0 4).q), .string ((hmakeV hp0 4).str), .int .i64 ((hmakeV hp0 4).ref)]), (43, .agg #[.int .i64 ((numV 1).kind), .int .i64 ((numV 1).p), .int .i64 ((numV 1).q), .string ((numV 1).str), .int .i64 ((numV 1).ref)])]) (fun g13 => [blkA g13 #[.int .i64 0, .int .i64 0, .int .i64 0, .string ByteArray.empty, .int .i64 0] 26, hpA hb1 (hset (hset (hmake hp0 (newO 4 0 ByteArray.empty [])) (hmakeV hp0 4) (numV 1) (strV ⟨#[97]⟩)) (hmakeV hp0 4) zVl (hmakeV hp0 4)), blkA g5 #[.int .i64 ((hmakeV hp0 4).kind), .int .i64 ((hmakeV hp0 4).p), .int .i64 ((hmakeV hp0 4).q), .string ((hmakeV hp0 4).str), .int .i64 ((hmakeV hp0 4).ref)] 26]) ?_ (fun hj31 => ?_)
 ·
  rintro g13
  try dsimp only
  refine h_stepS 3 ?_
  refine s_call [1] (hget_s (st := (hset (hset (hmake hp0 (newO 4 0 ByteArray.empty [])) (hmakeV hp0 4) (numV 1) (strV ⟨#[97]⟩)) (hmakeV hp0 4) zVl (hmakeV hp0 4))) hs10 (by omega) (hmakeV hp0 4) (numV 1)) ?_
  rintro _ _ ⟨rfl, rfl⟩
  refine s_nil (xs_held [2] ?_)
  refine hp_ 4 [2] (.tuple #[.agg #[.int .i64 ((hgetV (hset (hset (hmake hp0 (newO 4 0 ByteArray.empty [])) (hmakeV hp0 4) (numV 1) (strV ⟨#[97]⟩)) (hmakeV hp0 4) zVl (hmakeV hp0 4)) (hmakeV hp0 4) (numV 1)).kind), .int .i64 ((hgetV (hset (hset (hmake hp0 (newO 4 0 ByteArray.empty [])) (hmakeV hp0 4) (numV 1) (strV ⟨#[97]⟩)) (hmakeV hp0 4) zVl (hmakeV hp0 4)) (hmakeV hp0 4) (numV 1)).p), .int .i64 ((hgetV (hset (hset (hmake hp0 (newO 4 0 ByteArray.empty [])) (hmakeV hp0 4) (numV 1) (strV ⟨#[97]⟩)) (hmakeV hp0 4) zVl (hmakeV hp0 4)) (hmakeV hp0 4) (numV 1)).q), .string ((hgetV (hset (hset (hmake hp0 (newO 4 0 ByteArray.empty [])) (hmakeV hp0 4) (numV 1) (strV ⟨#[97]⟩)) (hmakeV hp0 4) zVl (hmakeV hp0 4)) (hmakeV hp0 4) (numV 1)).str), .int .i64 ((hgetV (hset (hset (hmake hp0 (newO 4 0 ByteArray.empty [])) (hmakeV hp0 4) (numV 1) (strV ⟨#[97]⟩)) (hmakeV hp0 4) zVl (hmakeV hp0 4)) (hmakeV hp0 4) (numV 1)).ref)], .int .i64 (hgetE (hset (hset (hmake hp0 (newO 4 0 ByteArray.empty [])) (hmakeV hp0 4) (numV 1) (strV ⟨#[97]⟩)) (hmakeV hp0 4) zVl (hmakeV hp0 4)) (hmakeV hp0 4))]) ?_
  refine hp_ 5 [2] (.agg #[.int .i64 ((hgetV (hset (hset (hmake hp0 (newO 4 0 ByteArray.empty [])) (hmakeV hp0 4) (numV 1) (strV ⟨#[97]⟩)) (hmakeV hp0 4) zVl (hmakeV hp0 4)) (hmakeV hp0 4) (numV 1)).kind), .int .i64 ((hgetV (hset (hset (hmake hp0 (newO 4 0 ByteArray.empty [])) (hmakeV hp0 4) (numV 1) (strV ⟨#[97]⟩)) (hmakeV hp0 4) zVl (hmakeV hp0 4)) (hmakeV hp0 4) (numV 1)).p), .int .i64 ((hgetV (hset (hset (hmake hp0 (newO 4 0 ByteArray.empty [])) (hmakeV hp0 4) (numV 1) (strV ⟨#[97]⟩)) (hmakeV hp0 4) zVl (hmakeV hp0 4)) (hmakeV hp0 4) (numV 1)).q), .string ((hgetV (hset (hset (hmake hp0 (newO 4 0 ByteArray.empty [])) (hmakeV hp0 4) (numV 1) (strV ⟨#[97]⟩)) (hmakeV hp0 4) zVl (hmakeV hp0 4)) (hmakeV hp0 4) (numV 1)).str), .int .i64 ((hgetV (hset (hset (hmake hp0 (newO 4 0 ByteArray.empty [])) (hmakeV hp0 4) (numV 1) (strV ⟨#[97]⟩)) (hmakeV hp0 4) zVl (hmakeV hp0 4)) (hmakeV hp0 4) (numV 1)).ref)]) ?_
  refine hp_ 6 [2] (.int .i64 (hgetE (hset (hset (hmake hp0 (newO 4 0 ByteArray.empty [])) (hmakeV hp0 4) (numV 1) (strV ⟨#[97]⟩)) (hmakeV hp0 4) zVl (hmakeV hp0 4)) (hmakeV hp0 4))) ?_
  exact h_use hj15 g13 (fun _ h => h.re [1, 0, 0] [])
 refine h_stepS2 2 7 ?_ ?_
 ·
  refine s_vcall (fun _ h => lnum_s 1) ?_
  rintro _ rfl
  refine s_nil (xs_held [1] ?_)
  refine h_stepS2 3 7 ?_ ?_
  ·
   refine s_call [0] (hget_s (st := (hset (hset (hmake hp0 (newO 4 0 ByteArray.empty [])) (hmakeV hp0 4) (numV 1) (strV ⟨#[97]⟩)) (hmakeV hp0 4) zVl (hmakeV hp0 4))) hs10 (by omega) (hmakeV hp0 4) (numV 1)) ?_
   rintro _ _ ⟨rfl, rfl⟩
   refine s_nil (xs_held [1] ?_)
   refine hp_ 4 [1] (.tuple #[.agg #[.int .i64 ((hgetV (hset (hset (hmake hp0 (newO 4 0 ByteArray.empty [])) (hmakeV hp0 4) (numV 1) (strV ⟨#[97]⟩)) (hmakeV hp0 4) zVl (hmakeV hp0 4)) (hmakeV hp0 4) (numV 1)).kind), .int .i64 ((hgetV (hset (hset (hmake hp0 (newO 4 0 ByteArray.empty [])) (hmakeV hp0 4) (numV 1) (strV ⟨#[97]⟩)) (hmakeV hp0 4) zVl (hmakeV hp0 4)) (hmakeV hp0 4) (numV 1)).p), .int .i64 ((hgetV (hset (hset (hmake hp0 (newO 4 0 ByteArray.empty [])) (hmakeV hp0 4) (numV 1) (strV ⟨#[97]⟩)) (hmakeV hp0 4) zVl (hmakeV hp0 4)) (hmakeV hp0 4) (numV 1)).q), .string ((hgetV (hset (hset (hmake hp0 (newO 4 0 ByteArray.empty [])) (hmakeV hp0 4) (numV 1) (strV ⟨#[97]⟩)) (hmakeV hp0 4) zVl (hmakeV hp0 4)) (hmakeV hp0 4) (numV 1)).str), .int .i64 ((hgetV (hset (hset (hmake hp0 (newO 4 0 ByteArray.empty [])) (hmakeV hp0 4) (numV 1) (strV ⟨#[97]⟩)) (hmakeV hp0 4) zVl (hmakeV hp0 4)) (hmakeV hp0 4) (numV 1)).ref)], .int .i64 (hgetE (hset (hset (hmake hp0 (newO 4 0 ByteArray.empty [])) (hmakeV hp0 4) (numV 1) (strV ⟨#[97]⟩)) (hmakeV hp0 4) zVl (hmakeV hp0 4)) (hmakeV hp0 4))]) ?_
   refine hp_ 5 [1] (.agg #[.int .i64 ((hgetV (hset (hset (hmake hp0 (newO 4 0 ByteArray.empty [])) (hmakeV hp0 4) (numV 1) (strV ⟨#[97]⟩)) (hmakeV hp0 4) zVl (hmakeV hp0 4)) (hmakeV hp0 4) (numV 1)).kind), .int .i64 ((hgetV (hset (hset (hmake hp0 (newO 4 0 ByteArray.empty [])) (hmakeV hp0 4) (numV 1) (strV ⟨#[97]⟩)) (hmakeV hp0 4) zVl (hmakeV hp0 4)) (hmakeV hp0 4) (numV 1)).p), .int .i64 ((hgetV (hset (hset (hmake hp0 (newO 4 0 ByteArray.empty [])) (hmakeV hp0 4) (numV 1) (strV ⟨#[97]⟩)) (hmakeV hp0 4) zVl (hmakeV hp0 4)) (hmakeV hp0 4) (numV 1)).q), .string ((hgetV (hset (hset (hmake hp0 (newO 4 0 ByteArray.empty [])) (hmakeV hp0 4) (numV 1) (strV ⟨#[97]⟩)) (hmakeV hp0 4) zVl (hmakeV hp0 4)) (hmakeV hp0 4) (numV 1)).str), .int .i64 ((hgetV (hset (hset (hmake hp0 (newO 4 0 ByteArray.empty [])) (hmakeV hp0 4) (numV 1) (strV ⟨#[97]⟩)) (hmakeV hp0 4) zVl (hmakeV hp0 4)) (hmakeV hp0 4) (numV 1)).ref)]) ?_
   refine hp_ 6 [1] (.int .i64 (hgetE (hset (hset (hmake hp0 (newO 4 0 ByteArray.empty [])) (hmakeV hp0 4) (numV 1) (strV ⟨#[97]⟩)) (hmakeV hp0 4) zVl (hmakeV hp0 4)) (hmakeV hp0 4))) ?_
   refine h_stepS 7 ?_
   refine s_alloc (.agg #[.int .i64 0, .int .i64 0, .int .i64 0, .string ByteArray.empty, .int .i64 0]) #[.int .i64 0, .int .i64 0, .int .i64 0, .string ByteArray.empty, .int .i64 0] (fun g32 => ?_)
   refine s_nil (xs_held [2] ?_)
   exact h_use hj15 g32 (fun _ h => h.re [0, 0, 0] [])
  ·
   refine s_alloc (.agg #[.int .i64 0, .int .i64 0, .int .i64 0, .string ByteArray.empty, .int .i64 0]) #[.int .i64 0, .int .i64 0, .int .i64 0, .string ByteArray.empty, .int .i64 0] (fun g33 => ?_)
   refine s_nil (xs_held [2] ?_)
   exact h_use hj31 g33 (fun _ h => h.re [0, 0, 0] [])
 ·
  refine s_alloc (.agg #[.int .i64 0, .int .i64 0, .int .i64 0, .string ByteArray.empty, .int .i64 0]) #[.int .i64 0, .int .i64 0, .int .i64 0, .string ByteArray.empty, .int .i64 0] (fun g34 => ?_)
  refine s_nil (xs_held [2] ?_)
  refine h_stepS 2 ?_
  refine s_vcall (fun _ h => lnum_s 1) ?_
  rintro _ rfl
  refine s_nil (xs_held [2] ?_)
  exact h_use hj31 g34 (fun _ h => h.re [0, 0, 0] [])
/-- What 'long' leaves: at most 100 calls, their lists short. -/
def shortC (c : Cl) : Prop := c.a.str.size ≤ 4106 ∧ c.b.str.size ≤ 4106 ∧ c.c.str.size ≤ 4106 ∧ c.s.size ≤ 100 ∧ c.l.length ≤ 20
theorem short_step {l : List Cl} {i : Nat} {y : Cl} (h : ∀ x ∈ l.take i, shortC x) (hy : l[i]? = some y) (h2 : shortC y) : ∀ x ∈ l.take (i + 1), shortC x := fun x hx => by
  rw [List.take_add_one, hy] at hx
  rcases List.mem_append.1 hx with hx | hx
  · exact h x hx
  · rw [Option.toList_some, List.mem_singleton] at hx; rw [hx]; exact h2
theorem long_s {Z : Zone} {lv : Value} {l : List Cl} (hL : KnL Z lv l) : SF Try.prog 8 #[lv] Z [] fun r Bs => ∃ x, r = .bool x ∧ (x = false → l.length ≤ 100 ∧ ∀ x ∈ l, shortC x) ∧ Bs = [] := by
 refine sf_enter Try.func8 69 [(0, lv)] (fun w0 => ?_)
 refine k_sr ?_
 refine sp (.bool false) ?_
 refine s_nt ?_
 refine k_seq ?_
 refine k_sr ?_
 refine sp (.int .i64 0) ?_
 refine s_nt ?_
 refine k_block ?_
 refine k_fact (fun H h => (hL.obs.get h).len_le) (fun lA => ?_)
 refine k_loop (ι := Nat) (fun i => i ≤ 100 ∧ i ≤ l.length ∧ ∀ x ∈ l.take i, shortC x) (fun i => [(0, lv), (3, .int .i64 (i : Int))]) (fun i => []) (fun i => 100 - i) 0 ⟨by omega, by omega, by simp⟩ (sub_of rfl ⟨⟨rfl, rfl⟩, ⟨⟨rfl, rfl⟩, trivial⟩⟩) (fun _ h => h.re [] []) ?_
 rintro i hi1
 show SK _ _ _ _ _ [(0, lv), (3, .int .i64 (i : Int))] _ []
 refine k_seq ?_
 refine k_cut (ι := Unit) (fun _ => True) (fun _ => [(0, lv), (3, .int .i64 (i : Int)), (13, .bool ((decide ((i : Int) < (l.length : Int))) && (decide ((i : Int) < 100))))]) (fun _ => []) ?_ (fun _ _ => ?_)
 ·
  refine k_reg ?_
  refine sp (.int .i64 (i : Int)) ?_
  refine sp lv ?_
  refine s_lt (t_len ClT_ok Try.underlying30 (.zn hL.obs)) ?_
  refine s_lt t_cmp ?_
  refine sp (.bool (decide ((i : Int) < (l.length : Int)))) ?_
  refine s_fork 10 (decide ((i : Int) < (l.length : Int))) (fun c2 => ?_) (fun c2 => ?_)
  ·
   have p3 := of_decide_eq_true c2
   refine sp (.int .i64 (i : Int)) ?_
   refine s_lt t_cmp ?_
   refine sp (.bool (decide ((i : Int) < 100))) ?_
   refine s_nil ?_
   exact xs_cut () trivial (sub_of rfl ⟨⟨rfl, rfl⟩, ⟨⟨rfl, rfl⟩, ⟨⟨rfl, show Value.bool (decide ((i : Int) < 100)) = Value.bool ((decide ((i : Int) < (l.length : Int))) && (decide ((i : Int) < 100))) by first | (simp only [c2, bls]; done) | simp [c2]⟩, trivial⟩⟩⟩) (fun _ h => h.re [] [])
  ·
   have p4 := of_decide_eq_false c2
   refine s_skip ?_
   refine s_skip ?_
   refine sp (.bool false) ?_
   refine s_nil ?_
   exact xs_cut () trivial (sub_of rfl ⟨⟨rfl, rfl⟩, ⟨⟨rfl, rfl⟩, ⟨⟨rfl, show Value.bool false = Value.bool ((decide ((i : Int) < (l.length : Int))) && (decide ((i : Int) < 100))) by first | (simp only [c2, bls]; done) | simp [c2]⟩, trivial⟩⟩⟩) (fun _ h => h.re [] [])
 ·
  refine k_cond ((decide ((i : Int) < (l.length : Int))) && (decide ((i : Int) < 100))) (fun c5 => ?_) (fun c5 => ?_)
  ·
   obtain ⟨c6, c7⟩ := and_t c5
   have p8 := of_decide_eq_true c6
   have p9 := of_decide_eq_true c7
   refine k_st ?_
   refine k_seq ?_
   refine k_block ?_
   refine k_sr ?_
   refine sp lv ?_
   refine sp (.int .i64 (i : Int)) ?_
   refine s_lt (t_index ClT_ok Try.underlying30 (.zn hL.obs) (i : Int) i (by omega) (by (try simp only [lnm]); omega) (by omega)) ?_
   obtain ⟨y10, hy11⟩ : ∃ y, l[i]? = some y := ⟨_, List.getElem?_eq_getElem (by (try simp only [lnm]); omega)⟩
   refine s_lt (t_loadE ClT_ok (.zn hL.obs) hy11) ?_
   refine s_alloc (.agg #[.int .i64 0, .int .i64 0, .int .i64 0, .int .i64 0, .string ByteArray.empty, .int .i64 0, .int .i64 0, .int .i64 0, .int .i64 0, .string ByteArray.empty, .int .i64 0, .int .i64 0, .int .i64 0, .int .i64 0, .string ByteArray.empty, .int .i64 0, .int .i64 0, .string ByteArray.empty, (.slice none 0 0)]) #[.int .i64 0, .int .i64 0, .int .i64 0, .int .i64 0, .string ByteArray.empty, .int .i64 0, .int .i64 0, .int .i64 0, .int .i64 0, .string ByteArray.empty, .int .i64 0, .int .i64 0, .int .i64 0, .int .i64 0, .string ByteArray.empty, .int .i64 0, .int .i64 0, .string ByteArray.empty, (.slice none 0 0)] (fun g12 => ?_)
   refine s_store 0 #[.int .i64 y10.kind, .int .i64 y10.a.kind, .int .i64 y10.a.p, .int .i64 y10.a.q, .string y10.a.str, .int .i64 y10.a.ref, .int .i64 y10.b.kind, .int .i64 y10.b.p, .int .i64 y10.b.q, .string y10.b.str, .int .i64 y10.b.ref, .int .i64 y10.c.kind, .int .i64 y10.c.p, .int .i64 y10.c.q, .string y10.c.str, .int .i64 y10.c.ref, .int .i64 y10.n, .string y10.s, y10.lv.v] ?_
   refine s_nt ?_
   refine k_seq ?_
   refine k_cut (ι := Unit) (fun _ => True) (fun _ => [(0, lv), (3, .int .i64 (i : Int)), (4, pB g12 0), (50, .bool ((decide ((4106 : Int) < (y10.a.str.size : Int))) || ((decide ((4106 : Int) < (y10.b.str.size : Int))) || ((decide ((4106 : Int) < (y10.c.str.size : Int))) || ((decide ((100 : Int) < (y10.s.size : Int))) || (decide ((20 : Int) < (y10.l.length : Int))))))))]) (fun _ => [blkA g12 #[.int .i64 y10.kind, .int .i64 y10.a.kind, .int .i64 y10.a.p, .int .i64 y10.a.q, .string y10.a.str, .int .i64 y10.a.ref, .int .i64 y10.b.kind, .int .i64 y10.b.p, .int .i64 y10.b.q, .string y10.b.str, .int .i64 y10.b.ref, .int .i64 y10.c.kind, .int .i64 y10.c.p, .int .i64 y10.c.q, .string y10.c.str, .int .i64 y10.c.ref, .int .i64 y10.n, .string y10.s, y10.lv.v] 29]) ?_ (fun _ _ => ?_)
   ·
    refine k_reg ?_
    refine sp (pB g12 1) ?_
    refine sp (pB g12 4) ?_
    refine s_lt (t_load 0 (.string y10.a.str)) ?_
    refine s_lt (t_kern (.int .i64 (y10.a.str.size : Int))) ?_
    refine s_lt t_cmp ?_
    refine sp (.bool (decide ((4106 : Int) < (y10.a.str.size : Int)))) ?_
    refine s_fork 25 (decide ((4106 : Int) < (y10.a.str.size : Int))) (fun c13 => ?_) (fun c13 => ?_)
    ·
     have p14 := of_decide_eq_true c13
     refine s_skip ?_
     refine s_skip ?_
     refine s_skip ?_
     refine s_skip ?_
     refine s_skip ?_
     refine sp (.bool true) ?_
     refine sp (.bool true) ?_
     refine s_skip ?_
     refine s_skip ?_
     refine s_skip ?_
     refine s_skip ?_
     refine s_skip ?_
     refine sp (.bool true) ?_
     refine sp (.bool true) ?_
     refine s_skip ?_
     refine s_skip ?_
     refine s_skip ?_
     refine s_skip ?_
     refine sp (.bool true) ?_
     refine sp (.bool true) ?_
     refine s_skip ?_
     refine s_skip ?_
     refine s_skip ?_
     refine s_skip ?_
     refine sp (.bool true) ?_
     refine s_nil ?_
     exact xs_cut () trivial (sub_of rfl ⟨⟨rfl, rfl⟩, ⟨⟨rfl, rfl⟩, ⟨⟨rfl, rfl⟩, ⟨⟨rfl, show Value.bool true = Value.bool ((decide ((4106 : Int) < (y10.a.str.size : Int))) || ((decide ((4106 : Int) < (y10.b.str.size : Int))) || ((decide ((4106 : Int) < (y10.c.str.size : Int))) || ((decide ((100 : Int) < (y10.s.size : Int))) || (decide ((20 : Int) < (y10.l.length : Int))))))) by first | (simp only [c13, bls]; done) | simp [c13]⟩, trivial⟩⟩⟩⟩) (fun _ h => h.re [0] [])
    ·
     have p15 := of_decide_eq_false c13
     refine sp (pB g12 6) ?_
     refine sp (pB g12 9) ?_
     refine s_lt (t_load 0 (.string y10.b.str)) ?_
     refine s_lt (t_kern (.int .i64 (y10.b.str.size : Int))) ?_
     refine s_lt t_cmp ?_
     refine sp (.bool (decide ((4106 : Int) < (y10.b.str.size : Int)))) ?_
     refine sp (.bool (decide ((4106 : Int) < (y10.b.str.size : Int)))) ?_
     refine s_fork 32 (decide ((4106 : Int) < (y10.b.str.size : Int))) (fun c16 => ?_) (fun c16 => ?_)
     ·
      have p17 := of_decide_eq_true c16
      refine s_skip ?_
      refine s_skip ?_
      refine s_skip ?_
      refine s_skip ?_
      refine s_skip ?_
      refine sp (.bool true) ?_
      refine sp (.bool true) ?_
      refine s_skip ?_
      refine s_skip ?_
      refine s_skip ?_
      refine s_skip ?_
      refine sp (.bool true) ?_
      refine sp (.bool true) ?_
      refine s_skip ?_
      refine s_skip ?_
      refine s_skip ?_
      refine s_skip ?_
      refine sp (.bool true) ?_
      refine s_nil ?_
      exact xs_cut () trivial (sub_of rfl ⟨⟨rfl, rfl⟩, ⟨⟨rfl, rfl⟩, ⟨⟨rfl, rfl⟩, ⟨⟨rfl, show Value.bool true = Value.bool ((decide ((4106 : Int) < (y10.a.str.size : Int))) || ((decide ((4106 : Int) < (y10.b.str.size : Int))) || ((decide ((4106 : Int) < (y10.c.str.size : Int))) || ((decide ((100 : Int) < (y10.s.size : Int))) || (decide ((20 : Int) < (y10.l.length : Int))))))) by first | (simp only [c13, c16, bls]; done) | simp [c13, c16]⟩, trivial⟩⟩⟩⟩) (fun _ h => h.re [0] [])
     ·
      have p18 := of_decide_eq_false c16
      refine sp (pB g12 11) ?_
      refine sp (pB g12 14) ?_
      refine s_lt (t_load 0 (.string y10.c.str)) ?_
      refine s_lt (t_kern (.int .i64 (y10.c.str.size : Int))) ?_
      refine s_lt t_cmp ?_
      refine sp (.bool (decide ((4106 : Int) < (y10.c.str.size : Int)))) ?_
      refine sp (.bool (decide ((4106 : Int) < (y10.c.str.size : Int)))) ?_
      refine s_fork 39 (decide ((4106 : Int) < (y10.c.str.size : Int))) (fun c19 => ?_) (fun c19 => ?_)
      ·
       have p20 := of_decide_eq_true c19
       refine s_skip ?_
       refine s_skip ?_
       refine s_skip ?_
       refine s_skip ?_
       refine sp (.bool true) ?_
       refine sp (.bool true) ?_
       refine s_skip ?_
       refine s_skip ?_
       refine s_skip ?_
       refine s_skip ?_
       refine sp (.bool true) ?_
       refine s_nil ?_
       exact xs_cut () trivial (sub_of rfl ⟨⟨rfl, rfl⟩, ⟨⟨rfl, rfl⟩, ⟨⟨rfl, rfl⟩, ⟨⟨rfl, show Value.bool true = Value.bool ((decide ((4106 : Int) < (y10.a.str.size : Int))) || ((decide ((4106 : Int) < (y10.b.str.size : Int))) || ((decide ((4106 : Int) < (y10.c.str.size : Int))) || ((decide ((100 : Int) < (y10.s.size : Int))) || (decide ((20 : Int) < (y10.l.length : Int))))))) by first | (simp only [c13, c16, c19, bls]; done) | simp [c13, c16, c19]⟩, trivial⟩⟩⟩⟩) (fun _ h => h.re [0] [])
      ·
       have p21 := of_decide_eq_false c19
       refine sp (pB g12 17) ?_
       refine s_lt (t_load 0 (.string y10.s)) ?_
       refine s_lt (t_kern (.int .i64 (y10.s.size : Int))) ?_
       refine s_lt t_cmp ?_
       refine sp (.bool (decide ((100 : Int) < (y10.s.size : Int)))) ?_
       refine sp (.bool (decide ((100 : Int) < (y10.s.size : Int)))) ?_
       refine s_fork 45 (decide ((100 : Int) < (y10.s.size : Int))) (fun c22 => ?_) (fun c22 => ?_)
       ·
        have p23 := of_decide_eq_true c22
        refine s_skip ?_
        refine s_skip ?_
        refine s_skip ?_
        refine s_skip ?_
        refine sp (.bool true) ?_
        refine s_nil ?_
        exact xs_cut () trivial (sub_of rfl ⟨⟨rfl, rfl⟩, ⟨⟨rfl, rfl⟩, ⟨⟨rfl, rfl⟩, ⟨⟨rfl, show Value.bool true = Value.bool ((decide ((4106 : Int) < (y10.a.str.size : Int))) || ((decide ((4106 : Int) < (y10.b.str.size : Int))) || ((decide ((4106 : Int) < (y10.c.str.size : Int))) || ((decide ((100 : Int) < (y10.s.size : Int))) || (decide ((20 : Int) < (y10.l.length : Int))))))) by first | (simp only [c13, c16, c19, c22, bls]; done) | simp [c13, c16, c19, c22]⟩, trivial⟩⟩⟩⟩) (fun _ h => h.re [0] [])
       ·
        have p24 := of_decide_eq_false c22
        refine sp (pB g12 18) ?_
        refine s_lt (t_load 0 y10.lv.v) ?_
        refine s_lt (t_len VlT_ok Try.underlying22 (.zn (hL.each y10 (List.mem_of_getElem? hy11)))) ?_
        refine s_lt t_cmp ?_
        refine sp (.bool (decide ((20 : Int) < (y10.l.length : Int)))) ?_
        refine s_nil ?_
        exact xs_cut () trivial (sub_of rfl ⟨⟨rfl, rfl⟩, ⟨⟨rfl, rfl⟩, ⟨⟨rfl, rfl⟩, ⟨⟨rfl, show Value.bool (decide ((20 : Int) < (y10.l.length : Int))) = Value.bool ((decide ((4106 : Int) < (y10.a.str.size : Int))) || ((decide ((4106 : Int) < (y10.b.str.size : Int))) || ((decide ((4106 : Int) < (y10.c.str.size : Int))) || ((decide ((100 : Int) < (y10.s.size : Int))) || (decide ((20 : Int) < (y10.l.length : Int))))))) by first | (simp only [c13, c16, c19, c22, bls]; done) | simp [c13, c16, c19, c22]⟩, trivial⟩⟩⟩⟩) (fun _ h => h.re [0] [])
   ·
    refine k_cond ((decide ((4106 : Int) < (y10.a.str.size : Int))) || ((decide ((4106 : Int) < (y10.b.str.size : Int))) || ((decide ((4106 : Int) < (y10.c.str.size : Int))) || ((decide ((100 : Int) < (y10.s.size : Int))) || (decide ((20 : Int) < (y10.l.length : Int))))))) (fun c25 => ?_) (fun c25 => ?_)
    ·
     have p26 := c25
     simp only [Bool.and_eq_true, Bool.or_eq_true, Bool.and_eq_false_iff, Bool.or_eq_false_iff, Bool.not_eq_true', Bool.not_eq_false', decide_eq_true_eq, decide_eq_false_iff_not] at p26
     refine k_sr ?_
     refine sp (.bool true) ?_
     refine s_nt ?_
     refine k_ret ?_
     refine xs_ret ?_
     refine xs_retBlock ?_
     refine xs_ret ?_
     refine xs_ret ?_
     refine xs_retBlock ?_
     refine xs_ret ?_
     exact xs_fin [.bool true] [] (SI.tmp 2 SI.nil) (fun _ h => h.re [] [0]) ⟨true, rfl, (fun h => by cases h), rfl⟩
    ·
     obtain ⟨c27, c28⟩ := or_f c25
     have p29 := of_decide_eq_false c27
     obtain ⟨c30, c31⟩ := or_f c28
     have p32 := of_decide_eq_false c30
     obtain ⟨c33, c34⟩ := or_f c31
     have p35 := of_decide_eq_false c33
     obtain ⟨c36, c37⟩ := or_f c34
     have p38 := of_decide_eq_false c36
     have p39 := of_decide_eq_false c37
     refine k_st ?_
     refine k_sr ?_
     refine sp (.int .i64 0) ?_
     refine s_nt ?_
     refine k_block ?_
     refine k_loop (ι := Nat) (fun j => j ≤ y10.l.length) (fun j => [(0, lv), (3, .int .i64 (i : Int)), (4, pB g12 0), (5, .int .i64 (j : Int))]) (fun j => [blkA g12 #[.int .i64 y10.kind, .int .i64 y10.a.kind, .int .i64 y10.a.p, .int .i64 y10.a.q, .string y10.a.str, .int .i64 y10.a.ref, .int .i64 y10.b.kind, .int .i64 y10.b.p, .int .i64 y10.b.q, .string y10.b.str, .int .i64 y10.b.ref, .int .i64 y10.c.kind, .int .i64 y10.c.p, .int .i64 y10.c.q, .string y10.c.str, .int .i64 y10.c.ref, .int .i64 y10.n, .string y10.s, y10.lv.v] 29]) (fun j => y10.l.length - j) 0 (Nat.zero_le _) (sub_of rfl ⟨⟨rfl, rfl⟩, ⟨⟨rfl, rfl⟩, ⟨⟨rfl, rfl⟩, ⟨⟨rfl, rfl⟩, trivial⟩⟩⟩⟩) (fun _ h => h.re [0] []) ?_
     rintro j hi40
     show SK _ _ _ _ _ [(0, lv), (3, .int .i64 (i : Int)), (4, .pointer (some ⟨g12, 0, none⟩)), (5, .int .i64 (j : Int))] _ [blkA g12 #[.int .i64 y10.kind, .int .i64 y10.a.kind, .int .i64 y10.a.p, .int .i64 y10.a.q, .string y10.a.str, .int .i64 y10.a.ref, .int .i64 y10.b.kind, .int .i64 y10.b.p, .int .i64 y10.b.q, .string y10.b.str, .int .i64 y10.b.ref, .int .i64 y10.c.kind, .int .i64 y10.c.p, .int .i64 y10.c.q, .string y10.c.str, .int .i64 y10.c.ref, .int .i64 y10.n, .string y10.s, y10.lv.v] 29]
     refine k_seq ?_
     refine k_sr ?_
     refine sp (.int .i64 (j : Int)) ?_
     refine sp (pB g12 18) ?_
     refine s_lt (t_load 0 y10.lv.v) ?_
     refine s_lt (t_len VlT_ok Try.underlying22 (.zn (hL.each y10 (List.mem_of_getElem? hy11)))) ?_
     refine s_lt t_cmp ?_
     refine s_nt ?_
     refine k_cond (decide ((j : Int) < (y10.l.length : Int))) (fun c41 => ?_) (fun c41 => ?_)
     ·
      have p42 := of_decide_eq_true c41
      refine k_st ?_
      refine k_seq ?_
      refine k_block ?_
      refine k_sr ?_
      refine sp (pB g12 18) ?_
      refine s_lt (t_load 0 y10.lv.v) ?_
      refine sp (.int .i64 (j : Int)) ?_
      refine s_lt (t_index VlT_ok Try.underlying22 (.zn (hL.each y10 (List.mem_of_getElem? hy11))) (j : Int) j (by omega) (by (try simp only [lnm]); omega) (by omega)) ?_
      refine sp (.pointer (some ((elemAt VlT.size y10.lv.v j).add 3))) ?_
      obtain ⟨y43, hy44⟩ : ∃ y, y10.l[j]? = some y := ⟨_, List.getElem?_eq_getElem (by (try simp only [lnm]); omega)⟩
      refine s_lt (t_loadF 3 VlT_ok (.zn (hL.each y10 (List.mem_of_getElem? hy11))) hy44) ?_
      refine s_lt (t_kern (.int .i64 (y43.str.size : Int))) ?_
      refine s_lt t_cmp ?_
      refine s_nt ?_
      refine k_cond (decide ((4106 : Int) < (y43.str.size : Int))) (fun c45 => ?_) (fun c45 => ?_)
      ·
       have p46 := of_decide_eq_true c45
       refine k_sr ?_
       refine sp (.bool true) ?_
       refine s_nt ?_
       refine k_ret ?_
       refine xs_retBlock ?_
       refine xs_ret ?_
       refine xs_ret ?_
       refine xs_retBlock ?_
       refine xs_retBlock ?_
       refine xs_ret ?_
       refine xs_ret ?_
       refine xs_retBlock ?_
       refine xs_ret ?_
       exact xs_fin [.bool true] [] (SI.tmp 2 SI.nil) (fun _ h => h.re [] [0]) ⟨true, rfl, (fun h => by cases h), rfl⟩
      ·
       have p47 := of_decide_eq_false c45
       refine k_skip ?_
       refine xs_block ?_
       refine xs_then ?_
       refine k_reg ?_
       refine sp (.int .i64 (j : Int)) ?_
       refine s_lt (t_add (j : Int) 1 (by (try simp only [lnm]); omega)) ?_
       refine sp (.int .i64 ((j : Int) + 1)) ?_
       refine s_nil ?_
       exact xs_round (j + 1) (by omega) (by omega) (sub_of rfl ⟨⟨rfl, rfl⟩, ⟨⟨rfl, rfl⟩, ⟨⟨rfl, rfl⟩, ⟨⟨rfl, rfl⟩, trivial⟩⟩⟩⟩) (fun _ h => h.re [0] [])
     ·
      have p48 := of_decide_eq_false c41
      refine k_exit ?_
      refine xs_exit ?_
      refine xs_exit ?_
      refine xs_here ?_
      refine xs_block ?_
      refine xs_then ?_
      refine k_reg ?_
      refine sp (.int .i64 (i : Int)) ?_
      refine s_lt (t_add (i : Int) 1 (by (try simp only [lnm]); omega)) ?_
      refine sp (.int .i64 ((i : Int) + 1)) ?_
      refine s_nil ?_
      exact xs_round (i + 1) (by omega) ⟨by omega, by omega, short_step hi1.2.2 hy11 ⟨by omega, by omega, by omega, by omega, by omega⟩⟩ (sub_of rfl ⟨⟨rfl, rfl⟩, ⟨⟨rfl, rfl⟩, trivial⟩⟩) (fun _ h => h.re [] [0])
  ·
   have p49 := c5
   simp only [Bool.and_eq_true, Bool.or_eq_true, Bool.and_eq_false_iff, Bool.or_eq_false_iff, Bool.not_eq_true', Bool.not_eq_false', decide_eq_true_eq, decide_eq_false_iff_not] at p49
   refine k_exit ?_
   refine xs_exit ?_
   refine xs_exit ?_
   refine xs_here ?_
   refine xs_then ?_
   refine k_sr ?_
   refine sp lv ?_
   refine s_lt (t_len ClT_ok Try.underlying30 (.zn hL.obs)) ?_
   refine s_lt t_cmp ?_
   refine sp (.bool (decide ((100 : Int) < (l.length : Int)))) ?_
   refine s_nt ?_
   refine k_ret ?_
   refine xs_fin [.bool (decide ((100 : Int) < (l.length : Int)))] [] (SI.tmp 2 SI.nil) (fun _ h => h.re [] []) ⟨_, rfl, fun hq => ?_, rfl⟩
   have hl := of_decide_eq_false hq; have hall := hi1.2.2; rw [List.take_of_length_le (by omega)] at hall; exact ⟨by omega, hall⟩
theorem KnL.up {Z : Zone} {As : List Asr} {H : Heap} {lv : Value} {l : List Cl} (k : KnL Z lv l) (h : Holds Z As H) : KnL (zoneOf H) lv l := ⟨k.obs.up h, fun x hx => (k.each x hx).up h⟩
end Go.Proofs.Ytmilekfknhglkaa
end
section
set_option linter.unusedSimpArgs false
set_option linter.unusedVariables false
namespace Go.J
open Go.ChangeShapes Go.WideShapes Go.RowKit Go.Hp
open Go.Mem (Ty)
section
variable {H : Type} {enc : TypeId × Value → H} {P : Program} {W : World}
abbrev Tr (enc : TypeId × Value → H) (P : Program) (W : World) (t : TypeId) (cs : List Value) : Prop := ∃ n x, DataW.trod enc P W 0 (fun _ => true) true n t cs = some x
theorem tr_field {t : TypeId} {fs : Array Field} {cs : List Value} (hu : P.underlying t = some (.struct fs)) (h : Tr enc P W t cs) (j : Nat) (f : Field) (hf : fs[j]? = some f) : Tr enc P W f.type ((cs.drop f.offset).take (P.cellsOf f.type)) := by
  obtain ⟨fuel, x, hx⟩ := h
  obtain ⟨xs, n, _, _, hlen, hxl, hall⟩ := DataW.trod_struct hu hx
  have h2 := hall j f hf
  have hj : j < xs.length := by rw [hxl]; exact (Array.getElem?_eq_some_iff.1 hf).1
  rw [List.getElem?_eq_getElem hj] at h2
  exact ⟨n, _, h2⟩
theorem tr_len {t : TypeId} {fs : Array Field} {cs : List Value} (hu : P.underlying t = some (.struct fs)) (h : Tr enc P W t cs) : cs.length = P.cellsOf t := by
  obtain ⟨fuel, x, hx⟩ := h
  obtain ⟨xs, n, _, _, hlen, hxl, hall⟩ := DataW.trod_struct hu hx
  exact hlen
theorem tr_int {t : TypeId} {k : IntKind} {cs : List Value} (hu : P.underlying t = some (.int k)) (h : Tr enc P W t cs) : ∃ n, cs = [.int k n] ∧ (Lit.int k n).wf = true := by
  obtain ⟨fuel, x, hx⟩ := h
  obtain ⟨n, h1, _, h3⟩ := DataW.trod_int hu hx
  exact ⟨n, h1, h3⟩
theorem tr_str {t : TypeId} {cs : List Value} (hu : P.underlying t = some .string) (h : Tr enc P W t cs) : ∃ s, cs = [.string s] := by
  obtain ⟨fuel, x, hx⟩ := h
  obtain ⟨n, h1, _⟩ := DataW.trod_string hu hx
  exact ⟨n, h1⟩
end
end Go.J
end
section
set_option linter.unusedSimpArgs false
set_option linter.unusedVariables false
namespace Go.J
open Go.ChangeShapes Go.WideShapes Go.RowKit Go.Hp
open Go.Mem (Ty)
section
variable {H : Type} {enc : TypeId × Value → H} {P : Program} {W : World}
/-- A slice that is read: its elements, and that each of them is read. -/
theorem tr_sliceQ {α : Type} [Inhabited α] {T : Ty α} (hT : T.Ok P) {t : TypeId} {cs : List Value} (ht : P.underlying t = some (.slice T.id)) (hc : P.cellsOf T.id = T.size)
    {Q : α → Prop} (hdec : ∀ cs, Tr enc P W T.id cs → ∃ x, T.enc x = cs ∧ Q x) (h : Tr enc P W t cs) : ∃ v L, cs = [v] ∧ Sl W.heap T v L ∧ ∀ y ∈ L, Q y := by
  obtain ⟨fuel, x, hf⟩ := h
  rcases Deep.open_slice ht hf with ⟨h0, _⟩ | ⟨a, len0, cap, m, n, D, Pl, h0, _, hl, hm, hmm, _, hx⟩
  · exact ⟨_, [], h0, .inl ⟨⟨none, rfl⟩, rfl⟩, by simp⟩
  simp only [if_true] at hmm
  subst hmm
  have hpos := hT.pos
  rw [hc] at hx
  by_cases hcap : m = 0
  · subst hcap
    obtain rfl : len0 = 0 := by omega
    exact ⟨_, [], h0, .inl ⟨⟨some a, rfl⟩, rfl⟩, by simp⟩
  obtain ⟨g, off, spot⟩ := a
  have key : spot = none ∧ ∃ arr e fr, W.heap[g]? = some (.cells arr e fr) := by
    obtain ⟨cs', h1, h2⟩ := hx 0 (by omega)
    obtain ⟨_, hlen, hcell⟩ := World.cells?_some h1
    have h3 := hcell 0 hpos
    simp only [Nat.zero_mul, Addr.add, if_true] at h3
    have hne : cs'[0]? ≠ none := by rw [List.getElem?_eq_getElem (by omega)]; exact fun h => nomatch h
    unfold World.cell? at h3
    simp only at h3
    cases hg : W.heap[g]? with
    | none => rw [hg] at h3; simp only at h3; exact absurd h3.symm hne
    | some ob =>
      rw [hg] at h3
      cases ob <;> simp only at h3 <;> first | (exact absurd h3.symm hne) | skip
      rename_i arr e fr
      cases spot with
      | none => exact ⟨rfl, arr, e, fr, rfl⟩
      | some s => simp only [Option.isSome_some, if_true] at h3; exact absurd h3.symm hne
  obtain ⟨rfl, arr, e, fr, hg⟩ := key
  obtain ⟨X, hX⟩ := Deep.choose_lt (α := α) (p := fun i x => (∀ j u, (T.enc x)[j]? = some u → arr[off + i * T.size + j]? = some u) ∧ Q x) (fun i hi => by
    obtain ⟨cs', h1, h2⟩ := hx i hi
    obtain ⟨_, hlen, hcell⟩ := World.cells?_some h1
    obtain ⟨x, hx', hQ⟩ := hdec cs' ⟨_, _, h2⟩
    refine ⟨x, fun j u hj => ?_, hQ⟩
    rw [hx'] at hj
    have hjl : j < T.size := by rw [← hlen]; exact (List.getElem?_eq_some_iff.1 hj).1
    have := hcell j hjl
    rw [Mem.addr_add, Mem.addr_add, cell_of_row W g _ arr e fr hg, hj] at this
    exact this)
  have hget : ∀ i j, i < m → j < T.size → ∃ u, (T.enc (X i))[j]? = some u ∧ arr[off + i * T.size + j]? = some u := fun i j hi hj => by
    have : j < (T.enc (X i)).length := by rw [hT.len]; exact hj
    exact ⟨_, List.getElem?_eq_getElem this, (hX i hi).1 j _ (List.getElem?_eq_getElem this)⟩
  refine ⟨_, (List.range len0).map X, h0, .inr ⟨g, off, m, arr, e, fr, by simp, hg, by simpa using hl, hm, ?_, ?_⟩, ?_⟩
  · intro hcp
    obtain ⟨u, _, hu⟩ := hget (m - 1) (T.size - 1) (by omega) (by omega)
    have hlt := (Array.getElem?_eq_some_iff.1 hu).1
    have : m * T.size = (m - 1) * T.size + T.size := by rw [Nat.sub_mul]; have : T.size ≤ m * T.size := Nat.le_mul_of_pos_left _ hcp; omega
    omega
  · apply List.ext_getElem?
    intro q
    have hfl := hT.flat_len ((List.range len0).map X)
    simp only [List.length_map, List.length_range] at hfl ⊢
    by_cases hq : q < len0 * T.size
    · have hi : q / T.size < len0 := Nat.div_lt_of_lt_mul (by rw [Nat.mul_comm]; exact hq)
      have hj : q % T.size < T.size := Nat.mod_lt _ hpos
      have e1 : q = q / T.size * T.size + q % T.size := by rw [Nat.mul_comm]; exact (Nat.div_add_mod _ _).symm
      obtain ⟨u, h1, h2⟩ := hget (q / T.size) (q % T.size) (by omega) hj
      have hL : ((List.range len0).map X)[q / T.size]? = some (X (q / T.size)) := by simp [hi]
      have h3 := hT.flat_get hL hj
      rw [← e1, h1] at h3
      rw [h3, List.getElem?_take, if_pos hq, List.getElem?_drop, Array.getElem?_toList]
      rw [← h2]
      congr 1
      omega
    · rw [List.getElem?_eq_none (by simp; omega), List.getElem?_eq_none (by rw [hfl]; omega)]
  · intro y hy
    simp only [List.mem_map, List.mem_range] at hy
    obtain ⟨i, hi, rfl⟩ := hy
    exact (hX i (by omega)).2
theorem tr_fieldC {t : TypeId} {fs : Array Field} {cs : List Value} (hu : P.underlying t = some (.struct fs)) (h : Tr enc P W t cs) (j : Nat) (u : TypeId) (off m : Nat) (hf : (fs[j]?).map (fun f => (f.type, f.offset)) = some (u, off) := by rfl) (hc : P.cellsOf u = m := by kernel_rfl) : Tr enc P W u ((cs.drop off).take m) := by
  cases hfj : fs[j]? with
  | none => rw [hfj] at hf; cases hf
  | some f =>
    rw [hfj] at hf
    injection hf with hf; injection hf with e1 e2
    subst e1 e2 hc
    exact tr_field hu h j f hfj
end
end Go.J
end
section
set_option linter.unusedSimpArgs false
set_option linter.unusedVariables false
namespace Go.Proofs.Ytmilekfknhglkaa
open Go.RowKit Go.J Go.S Go.Hp Go.ChangeShapes Go.WideShapes
theorem Try.own : ownKnob Try.prog.godebug = none := by kernel_rfl
theorem Try.laidOut : laidOutB Try.prog = true := by kernel_rfl
instance : Inhabited Vl := ⟨zVl⟩
instance : Inhabited Cl := ⟨ClT.zero⟩
section
variable {H : Type} {enc : TypeId × Value → H} {W : World}
theorem open_val {cs : List Value} (h : Tr enc Try.prog W 26 cs) : ∃ x : Vl, cs = VlT.enc x := by
  have hl : cs.length = 5 := (tr_len Try.underlying26 h).trans (by kernel_rfl)
  obtain ⟨a, ea, _⟩ := tr_int Try.underlying3 (tr_fieldC Try.underlying26 h 0 3 0 1)
  have hn := tr_fieldC Try.underlying26 h 1 24 1 2
  obtain ⟨b, eb, _⟩ := tr_int Try.underlying3 (tr_fieldC Try.underlying24 hn 0 3 0 1)
  obtain ⟨c, ec, _⟩ := tr_int Try.underlying3 (tr_fieldC Try.underlying24 hn 1 3 1 1)
  obtain ⟨s, es⟩ := tr_str Try.underlying9 (tr_fieldC Try.underlying26 h 2 9 3 1)
  obtain ⟨d, ed, _⟩ := tr_int Try.underlying3 (tr_fieldC Try.underlying26 h 3 3 4 1)
  match cs, hl with
  | [x0, x1, x2, x3, x4], _ =>
    obtain rfl : x0 = _ := (List.cons.inj (show [x0] = _ from ea)).1
    obtain rfl : x1 = _ := (List.cons.inj (show [x1] = _ from eb)).1
    obtain rfl : x2 = _ := (List.cons.inj (show [x2] = _ from ec)).1
    obtain rfl : x3 = _ := (List.cons.inj (show [x3] = _ from es)).1
    obtain rfl : x4 = _ := (List.cons.inj (show [x4] = _ from ed)).1
    exact ⟨⟨a, b, c, s, d⟩, rfl⟩
theorem open_vals {cs : List Value} (h : Tr enc Try.prog W 22 cs) : ∃ v L, cs = [v] ∧ Sl W.heap VlT v L := by
  obtain ⟨v, L, h1, h2, _⟩ := tr_sliceQ (Q := fun _ => True) VlT_ok Try.underlying22 (by kernel_rfl) (fun cs h => by obtain ⟨x, e⟩ := open_val h; exact ⟨x, e.symm, trivial⟩) h
  exact ⟨v, L, h1, h2⟩
end
end Go.Proofs.Ytmilekfknhglkaa
end
section
set_option linter.unusedSimpArgs false
set_option linter.unusedVariables false
namespace Go.Proofs.Ytmilekfknhglkaa
open Go.Hp Go.J
variable {st : Hst} {t k v x : Vl} {T : Tb}
theorem elemE_zero : elemE v = 0 ↔ validB v = true := by
  unfold elemE
  constructor
  · intro h
    by_cases h1 : v.kind = 3 ∧ 4096 < (v.str.size : Int)
    · rw [if_pos h1] at h; cases h
    · rw [if_neg h1] at h
      cases hb : validB v
      · rw [if_pos hb] at h; cases h
      · rfl
  · intro h
    have h1 : ¬ (v.kind = 3 ∧ 4096 < (v.str.size : Int)) := by
      rintro ⟨h3, h4⟩
      unfold validB at h
      simp [h3] at h
      omega
    rw [if_neg h1, if_neg (by rw [h]; decide)]
/-- The value t is an object that is a table, with T. -/
structure KT (st : Hst) (t : Vl) (T : Tb) : Prop where
  kd : t.kind = 4
  ob : ∃ o, st.get t.ref = some o ∧ o.kind = 4 ∧ o.tab = T
  inv : TInv T
  tw : TW T
theorem KT.make (hc : st.count < 65536) : KT (hmake st (newO 4 0 ByteArray.empty [])) (hmakeV st 4) noTb := by
  obtain ⟨_, h2, _, h4⟩ := hmake_ok (o := newO 4 0 ByteArray.empty []) hc
  refine ⟨by rw [h2]; rfl, ⟨newO 4 0 ByteArray.empty [], by rw [h2, h4]; exact if_pos rfl, rfl, rfl⟩, noTb_inv, noTb_tw⟩
theorem KT.tab (h : KT st t T) : htab st t = some T := by obtain ⟨o, hg, h4, hT⟩ := h.ob; rw [htab_of hg h.kd h4, hT]
theorem KT.get (h : KT st t T) (k : Vl) : hgetV st t k = tget T k := by unfold hgetV; rw [h.tab]
theorem KT.getE (h : KT st t T) : hgetE st t = 0 := by unfold hgetE; rw [h.tab]; rfl
theorem KT.setE (h : KT st t T) (k v : Vl) : hsetE st t k v = 0 ↔ okKey k = true ∧ validB v = true := by
  unfold hsetE; rw [h.tab]; dsimp only
  cases hk : okKey k
  · simp
  · rw [if_neg (by decide), elemE_zero]; simp
theorem KT.set (h : KT st t T) (k v : Vl) : KT (hset st t k v) t (tset T k v) := by
  obtain ⟨o, hg, h4, hT⟩ := h.ob
  by_cases hok : okKey k = true ∧ validB v = true
  · obtain ⟨_, _, h3⟩ := hset_okG (x := v) hg h4 h.kd hok.1 (elemE_zero.2 hok.2)
    exact ⟨h.kd, ⟨{ o with tab := tset o.tab k v }, by rw [h3, if_pos rfl], h4, by rw [hT]⟩, tset_inv h.inv k v, tset_tw h.inv h.tw k v⟩
  · have h1 : tset T k v = T := by
      unfold tset
      cases hk : okKey k
      · rw [if_pos rfl]
      · cases hv : validB v
        · simp
        · exact absurd ⟨hk, hv⟩ hok
    have h2 : hset st t k v = st := by
      unfold hset; rw [h.tab]; dsimp only
      cases hk : okKey k
      · rw [if_pos rfl]
      · rw [if_neg (by decide), if_pos (fun he => hok ⟨hk, elemE_zero.1 he⟩)]
    rw [h1, h2]; exact h
theorem KT.alive (h : KT st t T) : halive st t.ref = true := by obtain ⟨o, hg, _, _⟩ := h.ob; unfold halive; rw [hg]; rfl
theorem KT.dropped (h : KT st t T) : (hdrop st t.ref).get t.ref = none := by
  have ha := h.alive
  obtain ⟨o, hg, _, _⟩ := h.ob
  unfold hdrop; rw [if_pos ha]
  unfold Hst.get at hg ⊢
  dsimp only at hg ⊢
  split at hg
  · rename_i h1
    rw [if_pos h1, List.getElem?_set, if_pos rfl]; split <;> rfl
  · cases hg
theorem KT.gone (h : KT st t T) : hgetE (hdrop st t.ref) t = 8 := by
  have : htab (hdrop st t.ref) t = none := by unfold htab hfind; rw [h.dropped]; rfl
  unfold hgetE; rw [this]; rfl
end Go.Proofs.Ytmilekfknhglkaa
end
section
set_option linter.unusedSimpArgs false
set_option linter.unusedVariables false
namespace Go.Proofs.Ytmilekfknhglkaa
open Go.Hp Go.J
section
variable {st : Hst} {t k v x : Vl} {T : Tb}
theorem KT.setE_eq (h : KT st t T) (hs : v.str.size ≤ 4096) (k : Vl) : hsetE st t k v = tsetE k v := by
  unfold hsetE tsetE; rw [h.tab]; dsimp only
  split
  · rfl
  · unfold elemE; rw [if_neg (fun hq => by omega)]
theorem KT.len (h : KT st t T) : hlenV st t = (T.list.length : Int) := by unfold hlenV; rw [h.tab]
theorem KT.next (h : KT st t T) (k : Vl) : hnext st t k = tnext T k := by unfold hnext; rw [h.tab]
theorem hset_size (st : Hst) (t k v : Vl) : (hset st t k v).objs.length = st.objs.length := by
  rcases hset_cases st t k v with ⟨_, h, _⟩ | ⟨_, _, _, h, _⟩ | ⟨_, _, _, _, h, _⟩ | ⟨_, _, _, _, _, _, _, _, _, _, h, _⟩ <;> rw [h]
  exact List.length_set
theorem KT.size (h : KT st t T) (h1 : st.objs.length = 1) : hsize st = 8 + tabSize T := by
  obtain ⟨o, hg, h4, hT⟩ := h.ob
  have hr : t.ref = 1 := by
    unfold Hst.get at hg
    split at hg
    · by_cases hlt : t.ref.toNat - 1 < st.objs.length
      · omega
      · rw [List.getElem?_eq_none (by omega)] at hg; cases hg
    · cases hg
  have ha : halive st 1 = true := by rw [← hr]; exact h.alive
  have hid : hids st = [1] := by unfold hids; rw [h1]; simp [List.range_succ, ha]
  unfold hsize; rw [hid]
  have : st.ob 1 = o := by unfold Hst.ob; rw [← hr, hg]; rfl
  simp only [List.map_cons, List.map_nil, List.sum_cons, List.sum_nil, this]
  unfold obSize; rw [if_pos h4, hT]; omega
end
/-- Where the key of the round i lies. -/
def tlIx (l : List Vl) (i : Nat) : Nat := (i * 7 + 3) % l.length
theorem tlIx_lt {l : List Vl} {i : Nat} (h : 0 < l.length) : tlIx l i < l.length := Nat.mod_lt _ h
theorem tl_mod (l : List Vl) (i : Nat) : Int.tmod ((i : Int) * 7 + 3) (l.length : Int) = (tlIx l i : Int) := by
  unfold tlIx; rw [Int.natCast_emod]
  have e : ((i * 7 + 3 : Nat) : Int) = (i : Int) * 7 + 3 := by omega
  rw [e]; exact Int.tmod_eq_emod_of_nonneg (by omega)
def tlKey (l : List Vl) (i : Nat) : Vl := (l[tlIx l i]?).getD zVl
def tlVal (l : List Vl) (i : Nat) : Vl := (l[i]?).getD zVl
/-- The table, and the heap, before the round i. -/
def tlT (l : List Vl) : Nat → Tb
  | 0 => noTb
  | i + 1 => tset (tlT l i) (tlKey l i) (tlVal l i)
def tlH (l : List Vl) : Nat → Hst
  | 0 => hmake hp0 (newO 4 0 ByteArray.empty [])
  | i + 1 => hset (tlH l i) (hmakeV hp0 4) (tlKey l i) (tlVal l i)
theorem tl_succ {l : List Vl} {i : Nat} {z y : Vl} (hz : l[tlIx l i]? = some z) (hy : l[i]? = some y) : tlT l (i + 1) = tset (tlT l i) z y ∧ tlH l (i + 1) = hset (tlH l i) (hmakeV hp0 4) z y := by
  have e1 : tlKey l i = z := by unfold tlKey; rw [hz]; rfl
  have e2 : tlVal l i = y := by unfold tlVal; rw [hy]; rfl
  exact ⟨by show tset _ _ _ = _; rw [e1, e2], by show hset _ _ _ _ = _; rw [e1, e2]⟩
theorem tl_inv (l : List Vl) : ∀ i : Nat, HInv (tlH l i) ∧ HSm (i + 1) (tlH l i) ∧ HW (tlH l i) ∧ KT (tlH l i) (hmakeV hp0 4) (tlT l i) ∧ (tlH l i).objs.length = 1
  | 0 => ⟨hmake_inv HInv.nil (newO_inv _ _ _ (by decide)), hmake_sm HSm.nil rfl (by decide), HW.make HW.nil (newO_w _ _ _ (fun _ hv => (by cases hv)) (fun h8 => by cases h8)), KT.make (by decide), rfl⟩
  | i + 1 => by
    obtain ⟨hi, hs, hw, kt, hn⟩ := tl_inv l i
    exact ⟨hset_inv hi _ _ _, hset_sm hi hs _ _ _, HW.set hi hw _ _ _, kt.set _ _, (hset_size _ _ _ _).trans hn⟩
theorem tl_len (l : List Vl) {i : Nat} (h : i ≤ 60) : (tlT l i).list.length ≤ 4000 ∧ (tlT l i).rest.length ≤ 61 := by
  obtain ⟨_, hs, _, kt, _⟩ := tl_inv l i
  obtain ⟨o, hg, _, hT⟩ := kt.ob
  obtain ⟨h1, h2, _⟩ := hs.obs o (get_mem hg).1
  rw [hT] at h1 h2
  have : (i + 1) * (i + 1 + 1) ≤ 61 * 62 := Nat.mul_le_mul (by omega) (by omega)
  omega
end Go.Proofs.Ytmilekfknhglkaa
end
section
set_option linter.unusedSimpArgs false
set_option linter.unusedVariables false
namespace Go.Proofs.Ytmilekfknhglkaa
open Go.Hp Go.J
theorem numV_ofI {n : Int} (h1 : 1 ≤ n) (h2 : n ≤ 2147483647) : numV n = ofI n := by unfold ofI; rw [if_neg (by omega)]; rfl
theorem numV_ok {n : Int} (h1 : 1 ≤ n) (h2 : n ≤ 2147483647) : whole (numV n) = n ∧ okKey (numV n) = true := by
  rw [numV_ofI h1 h2]; obtain ⟨a, b, _⟩ := whole_ofI h1 h2; exact ⟨a, b⟩
theorem listE_snoc (v : Vl) : ∀ (L : List Vl) (i : Nat), listE (L ++ [v]) i = listE L i ++ (if v.kind ≠ 0 then [(ofI (((i + L.length : Nat) : Int) + 1), v)] else [])
  | [], i => by
    show listE [v] i = _
    rw [List.length_nil, Nat.add_zero]; rfl
  | x :: r, i => by
    have ih := listE_snoc v r (i + 1)
    have e : i + 1 + r.length = i + (x :: r).length := by rw [List.length_cons]; omega
    rw [e] at ih
    show (if x.kind ≠ 0 then (ofI ((i : Int) + 1), x) :: listE (r ++ [v]) (i + 1) else listE (r ++ [v]) (i + 1)) = (if x.kind ≠ 0 then (ofI ((i : Int) + 1), x) :: listE r (i + 1) else listE r (i + 1)) ++ _
    rw [ih]
    by_cases hx : x.kind ≠ 0
    · rw [if_pos hx, if_pos hx, List.cons_append]
    · rw [if_neg hx, if_neg hx]
/-- The table before the round i. -/
def wkT (l : List Vl) : Nat → Tb
  | 0 => noTb
  | i + 1 => tset (wkT l i) (numV ((i : Int) + 1)) (tlVal l i)
structure WkS (T : Tb) (i : Nat) : Prop where
  len : T.list.length ≤ i
  rest : T.list.length = i → T.rest = []
  keys : ∀ s ∈ T.rest, ∃ j : Nat, T.list.length + 1 < j ∧ j ≤ i ∧ s.key = numV (j : Int)
theorem tadd_nil (L : List Vl) {v : Vl} (h : v.kind ≠ 0) : tadd ⟨L, []⟩ v = ⟨L ++ [v], []⟩ := by
  have hg : grow [] 2 L v = L ++ [v] := by
    show (if v.kind = 0 then L else grow [] 1 (L ++ [v]) (oget [] _)) = _
    rw [if_neg h]; rfl
  show (⟨grow [] 2 L v, if staleB [] L.length (grow [] 2 L v).length then purge [] (grow [] 2 L v).length else []⟩ : Tb) = _
  rw [hg]; congr 1; split <;> rfl
theorem wk_step {T : Tb} {i : Nat} (h : WkS T i) (hi : i ≤ 100) (v : Vl) : WkS (tset T (numV ((i : Int) + 1)) v) (i + 1) ∧
    tents (tset T (numV ((i : Int) + 1)) v) = if validB v = true ∧ v.kind ≠ 0 then tents T ++ [(numV ((i : Int) + 1), v)] else tents T := by
  obtain ⟨hw, hk⟩ := numV_ok (n := (i : Int) + 1) (by omega) (by omega)
  have hno : ∀ s ∈ T.rest, s.key ≠ numV ((i : Int) + 1) := fun s hs e => by
    obtain ⟨j, _, h2, h3⟩ := h.keys s hs
    rw [h3] at e
    have := congrArg Vl.p e
    have : (j : Int) = (i : Int) + 1 := this
    omega
  have hS : WkS T (i + 1) := ⟨by have := h.len; omega, fun e => by have := h.len; omega, fun s hs => by obtain ⟨j, a, b, c⟩ := h.keys s hs; exact ⟨j, a, by omega, c⟩⟩
  cases hv : validB v
  · rw [tset_bad (.inr hv), if_neg (by simp)]
    exact ⟨hS, rfl⟩
  · by_cases h0 : v.kind = 0
    · rw [if_neg (fun hq => hq.2 h0), tset_out hk hv (by have := h.len; omega) (fun hq => hq.2 h0), osetL_rem hk hv h0, thereAt_none (lastAt_nokey hno)]
      exact ⟨hS, rfl⟩
    · rw [if_pos ⟨rfl, h0⟩]
      by_cases hl : T.list.length = i
      · have hr := h.rest hl
        obtain ⟨L, S⟩ := T
        dsimp only at hr hl; subst hr
        rw [tset_add hk hv (by rw [hw]; show _ = (L.length : Int) + 1; omega) h0, tadd_nil L h0]
        refine ⟨⟨by rw [List.length_append]; show L.length + 1 ≤ _; omega, fun _ => rfl, fun _ hs => by cases hs⟩, ?_⟩
        show listE (L ++ [v]) 0 ++ [] = (listE L 0 ++ []) ++ _
        rw [listE_snoc, if_pos h0, List.append_nil, List.append_nil, numV_ofI (by omega) (by omega)]
        congr 4; omega
      · rw [tset_out hk hv (by have := h.len; omega) (fun hq => by have := hq.1; rw [hw] at this; have := h.len; omega), osetL_put hk hv h0, thereAt_none (lastAt_nokey hno)]
        dsimp only
        refine ⟨⟨by show T.list.length ≤ _; have := h.len; omega, fun e => by have := h.len; change T.list.length = _ at e; omega, fun s hs => ?_⟩, ?_⟩
        · rcases List.mem_append.1 hs with hs | hs
          · have hs' : s ∈ T.rest := by
              split at hs
              · exact (List.mem_filter.1 hs).1
              · exact hs
            obtain ⟨j, a, b, c⟩ := h.keys s hs'; exact ⟨j, a, by omega, c⟩
          · rw [List.mem_singleton.1 hs]; exact ⟨i + 1, by show T.list.length + 1 < _; have := h.len; omega, Nat.le_refl _, by show numV _ = _; congr 1⟩
        · show listE T.list 0 ++ liveE ((if cnt T.rest + 8 < T.rest.length - cnt T.rest then live T.rest else T.rest) ++ [⟨numV ((i : Int) + 1), v, false⟩]) = (listE T.list 0 ++ liveE T.rest) ++ _
          have e : live (if cnt T.rest + 8 < T.rest.length - cnt T.rest then live T.rest else T.rest) = live T.rest := by split; exact live_live _; rfl
          unfold liveE
          rw [live_snoc, e, if_neg (by simp), List.map_append, List.append_assoc]; rfl
theorem wk_shape (l : List Vl) : ∀ i : Nat, i ≤ 100 → WkS (wkT l i) i
  | 0, _ => ⟨Nat.le_refl _, fun _ => rfl, fun _ hs => by cases hs⟩
  | i + 1, h => (wk_step (wk_shape l i (by omega)) (by omega) _).1
theorem wk_ents (l : List Vl) {i : Nat} (hi : i ≤ 100) {y : Vl} (hy : l[i]? = some y) : entsOf (wkT l (i + 1)) = if validB y = true ∧ isRef y.kind = true then entsOf (wkT l i) ++ [⟨0, y.ref⟩] else entsOf (wkT l i) := by
  have ev : tlVal l i = y := by unfold tlVal; rw [hy]; rfl
  have hs := (wk_step (wk_shape l i hi) hi y).2
  show entL (tents (tset (wkT l i) _ (tlVal l i))) = _
  rw [ev, hs]
  have hk : idn (numV ((i : Int) + 1)) = 0 := by unfold idn; exact if_neg (by show ¬ isRef 2 = true; decide)
  by_cases h1 : validB y = true ∧ y.kind ≠ 0
  · rw [if_pos h1, entL_step]
    show (if (⟨idn (numV ((i : Int) + 1)), idn y⟩ : Ent) ≠ ⟨0, 0⟩ then entL (tents (wkT l i)) ++ [⟨idn (numV ((i : Int) + 1)), idn y⟩] else entL (tents (wkT l i))) = _
    by_cases hr : isRef y.kind = true
    · obtain ⟨e1, e2⟩ := idn_valid h1.1 hr
      rw [hk, e1, if_pos (fun hc => by have := congrArg Ent.val hc; change y.ref = 0 at this; omega), if_pos ⟨h1.1, hr⟩]; rfl
    · have e1 : idn y = 0 := by unfold idn; rw [if_neg hr]
      rw [hk, e1, if_neg (fun hc => hc rfl), if_neg (fun hq => hr hq.2)]; rfl
  · rw [if_neg h1, if_neg (fun hq => h1 ⟨hq.1, fun h0 => by rw [h0] at hq; exact absurd hq.2 (by decide)⟩)]; rfl
theorem wk_each (l : List Vl) : ∀ i : Nat, i ≤ 100 → i ≤ l.length → ∀ e ∈ entsOf (wkT l i), e.key = 0 ∧ 1 ≤ e.val
  | 0, _, _, e, he => by cases he
  | i + 1, h, hl, e, he => by
    have hy : l[i]? = some l[i] := List.getElem?_eq_getElem (by omega)
    rw [wk_ents l (by omega) hy] at he
    split at he
    · rename_i hq
      rcases List.mem_append.1 he with he | he
      · exact wk_each l i (by omega) (by omega) e he
      · rw [List.mem_singleton.1 he]; exact ⟨rfl, (idn_valid hq.1 hq.2).2⟩
    · exact wk_each l i (by omega) (by omega) e he
theorem wk_entlen (l : List Vl) : ∀ i : Nat, i ≤ 100 → i ≤ l.length → (entsOf (wkT l i)).length ≤ i
  | 0, _, _ => Nat.le_refl _
  | i + 1, h, hl => by
    have hy : l[i]? = some l[i] := List.getElem?_eq_getElem (by omega)
    have := wk_entlen l i (by omega) (by omega)
    rw [wk_ents l (by omega) hy]
    split
    · rw [List.length_append]; show _ + 1 ≤ _; omega
    · omega
/-- The heap ahead of the loop, and before the round i. -/
def wkH0 : Hst := (hsetMeta (hsetSlot (hsetMeta (hdata (hmake (hmake hp0 (newO 4 0 ByteArray.empty [])) (newO 4 0 ByteArray.empty [])) ⟨#[100]⟩) (hmakeV hp0 4) (hmakeV (hmake hp0 (newO 4 0 ByteArray.empty [])) 4)) (hdataV (hmake (hmake hp0 (newO 4 0 ByteArray.empty [])) (newO 4 0 ByteArray.empty [])) ⟨#[100]⟩) 1 (hmakeV hp0 4)) (hdataV (hmake (hmake hp0 (newO 4 0 ByteArray.empty [])) (newO 4 0 ByteArray.empty [])) ⟨#[100]⟩) (hmakeV (hmake hp0 (newO 4 0 ByteArray.empty [])) 4))
def wkH (l : List Vl) : Nat → Hst
  | 0 => wkH0
  | i + 1 => hset (wkH l i) (hmakeV hp0 4) (numV ((i : Int) + 1)) (tlVal l i)
theorem wk0_one : wkH0.get 1 = some ⟨4, 0, ByteArray.empty, noTb, refV 4 2, []⟩ := by kernel_rfl
theorem wk0_three : ∃ d, wkH0.get 3 = some d ∧ d.kind = 8 ∧ refsOf d = [2, 1] := ⟨(wkH0.get 3).getD ob0, by kernel_rfl, by kernel_rfl, by kernel_rfl⟩
theorem KT.set_bad {st : Hst} {t k v : Vl} {T : Tb} (h : KT st t T) (hb : ¬ (okKey k = true ∧ validB v = true)) : hset st t k v = st ∧ tset T k v = T := by
  constructor
  · unfold hset; rw [h.tab]; dsimp only
    cases hk : okKey k
    · rw [if_pos rfl]
    · rw [if_neg (by decide), if_pos (fun he => hb ⟨hk, elemE_zero.1 he⟩)]
  · refine tset_bad ?_
    cases hk : okKey k
    · exact .inl rfl
    · cases hv : validB v
      · exact .inr rfl
      · exact absurd ⟨hk, hv⟩ hb
structure WkI (l : List Vl) (i : Nat) : Prop where
  kt : KT (wkH l i) (hmakeV hp0 4) (wkT l i)
  one : ∃ o, (wkH l i).get 1 = some o ∧ o.kind = 4 ∧ o.tab = wkT l i ∧ o.mt = refV 4 2 ∧ o.vals = []
  three : ∃ d, (wkH l i).get 3 = some d ∧ d.kind = 8 ∧ refsOf d = [2, 1]
theorem wk_inv {n : Nat} (hi0 : HInv wkH0) (hs0 : HSm n wkH0) (hw0 : HW wkH0) (l : List Vl) : ∀ i : Nat, HInv (wkH l i) ∧ HSm (n + i) (wkH l i) ∧ HW (wkH l i) ∧ WkI l i
  | 0 => ⟨hi0, hs0, hw0, ⟨rfl, ⟨_, wk0_one, rfl, rfl⟩, noTb_inv, noTb_tw⟩, ⟨_, wk0_one, rfl, rfl, rfl, rfl⟩, wk0_three⟩
  | i + 1 => by
    obtain ⟨hi, hs, hw, kt, ⟨o, hg, h4, hT, hm, hv⟩, d, hd, h8, hr⟩ := wk_inv hi0 hs0 hw0 l i
    refine ⟨hset_inv hi _ _ _, hset_sm hi hs _ _ _, HW.set hi hw _ _ _, kt.set _ _, ?_, ?_⟩
    · by_cases hok : okKey (numV ((i : Int) + 1)) = true ∧ validB (tlVal l i) = true
      · obtain ⟨_, _, h3⟩ := hset_okG (x := tlVal l i) (t := hmakeV hp0 4) hg h4 rfl hok.1 (elemE_zero.2 hok.2)
        exact ⟨_, (h3 1).trans (if_pos rfl), h4, by show tset o.tab _ _ = _; rw [hT]; rfl, hm, hv⟩
      · have e := kt.set_bad hok
        exact ⟨o, by show (hset _ _ _ _).get 1 = _; rw [e.1]; exact hg, h4, by show _ = tset _ _ _; rw [e.2]; exact hT, hm, hv⟩
    · by_cases hok : okKey (numV ((i : Int) + 1)) = true ∧ validB (tlVal l i) = true
      · obtain ⟨_, _, h3⟩ := hset_okG (x := tlVal l i) (t := hmakeV hp0 4) hg h4 rfl hok.1 (elemE_zero.2 hok.2)
        exact ⟨d, (h3 3).trans ((if_neg (by decide)).trans hd), h8, hr⟩
      · have e := kt.set_bad hok
        exact ⟨d, by show (hset _ _ _ _).get 3 = _; rw [e.1]; exact hd, h8, hr⟩
theorem wk_succ {l : List Vl} {i : Nat} {y : Vl} (hy : l[i]? = some y) : wkH l (i + 1) = hset (wkH l i) (hmakeV hp0 4) (numV ((i : Int) + 1)) y := by
  have e2 : tlVal l i = y := by unfold tlVal; rw [hy]; rfl
  show hset _ _ _ _ = _; rw [e2]
theorem WkI.setE {l : List Vl} {i : Nat} (h : WkI l i) (hi : i ≤ 100) (y : Vl) : hsetE (wkH l i) (hmakeV hp0 4) (numV ((i : Int) + 1)) y = 0 ↔ validB y = true := by
  rw [h.kt.setE]; exact ⟨fun q => q.2, fun q => ⟨(numV_ok (by omega) (by omega)).2, q⟩⟩
theorem WkI.shows {l : List Vl} {i : Nat} (h : WkI l i) (weak : Int) : halive (wkH l i) (hmakeV hp0 4).ref = true ∧ hents (wkH l i) (hmakeV hp0 4).ref = entsOf (wkT l i) ∧ hrefs (wkH l i) (hmakeV hp0 4).ref = [2] ∧ (0 ≤ weak → weak ≤ 3 → hoWk (wkH l i) (hmakeV hp0 4).ref weak = weak) := by
  obtain ⟨o, hg, h4, hT, hm, hv⟩ := h.one
  obtain ⟨a, _, _, b, c, d⟩ := obj_some (id := (hmakeV hp0 4).ref) hg weak
  refine ⟨a, by rw [d, if_pos h4, hT], by rw [c]; unfold refsOf; rw [hm, hv]; kernel_rfl, fun h0 h3 => ?_⟩
  rw [b]; unfold hweak; exact if_pos ⟨h4, h0, h3⟩
theorem WkI.showsD {l : List Vl} {i : Nat} (h : WkI l i) (weak : Int) : halive (wkH l i) (hdataV (hmake (hmake hp0 (newO 4 0 ByteArray.empty [])) (newO 4 0 ByteArray.empty [])) ⟨#[100]⟩).ref = true ∧ hrefs (wkH l i) (hdataV (hmake (hmake hp0 (newO 4 0 ByteArray.empty [])) (newO 4 0 ByteArray.empty [])) ⟨#[100]⟩).ref = [2, 1] ∧ hoWk (wkH l i) (hdataV (hmake (hmake hp0 (newO 4 0 ByteArray.empty [])) (newO 4 0 ByteArray.empty [])) ⟨#[100]⟩).ref weak = 0 := by
  obtain ⟨o, hg, h8, hr⟩ := h.three
  obtain ⟨a, _, _, b, c, d⟩ := obj_some (id := (hdataV (hmake (hmake hp0 (newO 4 0 ByteArray.empty [])) (newO 4 0 ByteArray.empty [])) ⟨#[100]⟩).ref) hg weak
  refine ⟨a, by rw [c, hr], ?_⟩
  rw [b]; unfold hweak; exact if_neg (fun q => by rw [h8] at q; exact absurd q.1 (by decide))
end Go.Proofs.Ytmilekfknhglkaa
end
