/-
  Layer 15: MetaIndex. Each law says its conditions.
-/
import Derived.Test.YtplkkhpokodbmaaW13
set_option linter.unusedSimpArgs false
set_option linter.unusedVariables false
set_option maxRecDepth 100000
set_option maxHeartbeats 2000000
namespace Go.Proofs.Ytplkkhpokodbmaa
open Go.Hp Go.J Go.S
open Go.Mem (Ty KTy blk elemAt pre suf blk_pre blk_suf aget aset strK aggDesc)
open Go.Mem (adel apos aget_aset aget_adel)
theorem values_s {Z : Zone} {F : List Asr} {av bv : Value} {L : List Vl} : SF Try.prog 18 #[av, bv] Z (own VlT av L :: own VlT bv L :: F) fun r Bs => r = .bool true ∧ Bs = own VlT av L :: own VlT bv L :: F := by
 refine sf_enter Try.func18 26 [(0, av), (1, bv)] (fun w0 => ?_)
 refine k_fact (fun H h => ((Acc.own (T := VlT) (L := L) 0 rfl) H h).len_le) (fun lA => ?_)
 refine k_sr ?_
 refine sp (.bool false) ?_
 refine s_nt ?_
 refine k_seq ?_
 refine k_sr ?_
 refine sp av ?_
 refine s_lt (t_len VlT_ok Try.underlying33 (.own 0)) ?_
 refine sp bv ?_
 refine s_lt (t_len VlT_ok Try.underlying33 (.own 1)) ?_
 refine s_lt (Lt.to t_cmp (congrArg Value.bool (decide_eq_false (fun h => h rfl) : (decide ((L.length : Int) ≠ (L.length : Int))) = false))) ?_
 refine s_nt ?_
 refine k_false ?_
 refine k_st ?_
 refine k_seq ?_
 refine k_sr ?_
 refine sp (.int .i64 0) ?_
 refine s_nt ?_
 refine k_block ?_
 refine k_loop (ι := Nat) (fun i => i ≤ L.length) (fun i => [(0, av), (1, bv), (5, .int .i64 (i : Int))]) (fun i => own VlT av L :: own VlT bv L :: F) (fun i => L.length - i) 0 (by omega) (sub_of rfl ⟨⟨rfl, rfl⟩, ⟨⟨rfl, rfl⟩, ⟨⟨rfl, rfl⟩, trivial⟩⟩⟩) (fun _ h => h.re [0, 0] []) ?_
 rintro i hi1
 show SK _ _ _ _ _ [(0, av), (1, bv), (5, .int .i64 (i : Int))] _ (own VlT av L :: own VlT bv L :: F)
 refine k_seq ?_
 refine k_sr ?_
 refine sp (.int .i64 (i : Int)) ?_
 refine sp av ?_
 refine s_lt (t_len VlT_ok Try.underlying33 (.own 0)) ?_
 refine s_lt t_cmp ?_
 refine s_nt ?_
 refine k_cond (decide ((i : Int) < (L.length : Int))) (fun c2 => ?_) (fun c2 => ?_)
 ·
  have p3 := of_decide_eq_true c2
  refine k_st ?_
  refine k_seq ?_
  refine k_block ?_
  refine k_seq ?_
  refine k_draw ?_
  refine sp av ?_
  refine sp (.int .i64 (i : Int)) ?_
  refine s_lt (t_index VlT_ok Try.underlying33 (.own 0) (i : Int) i (by omega) (by (try simp only [lnm]); omega) (by omega)) ?_
  obtain ⟨y4, hy5⟩ : ∃ y, L[i]? = some y := ⟨_, List.getElem?_eq_getElem (by (try simp only [lnm]); omega)⟩
  refine s_lt (t_loadE VlT_ok (.own 0) hy5) ?_
  refine sp bv ?_
  refine sp (.int .i64 (i : Int)) ?_
  refine s_lt (t_index VlT_ok Try.underlying33 (.own 1) (i : Int) i (by omega) (by (try simp only [lnm]); omega) (by omega)) ?_
  refine s_lt (t_loadE VlT_ok (.own 1) hy5) ?_
  refine s_lt (Lt.to (t_eqS (fun w => (eqVlT y4 y4 w).2)) (congrArg Value.bool ((congrArg Bool.not (decide_eq_true rfl : (decide (y4 = y4)) = true)).trans rfl : (!(decide (y4 = y4))) = false))) ?_
  refine s_nil ?_
  refine x_dynS (fun _ h => by kernel_rfl) ?_
  refine xs_then ?_
  refine k_false ?_
  refine k_skip ?_
  refine xs_block ?_
  refine xs_then ?_
  refine k_reg ?_
  refine sp (.int .i64 (i : Int)) ?_
  refine s_lt (t_add (i : Int) 1 (by (try simp only [lnm]); omega)) ?_
  refine sp (.int .i64 ((i : Int) + 1)) ?_
  refine s_nil ?_
  exact xs_round (i + 1) (by omega) (by omega) (sub_of rfl ⟨⟨rfl, rfl⟩, ⟨⟨rfl, rfl⟩, ⟨⟨rfl, rfl⟩, trivial⟩⟩⟩) (fun _ h => h.re [0, 0] [])
 ·
  have p6 := of_decide_eq_false c2
  refine k_exit ?_
  refine xs_exit ?_
  refine xs_exit ?_
  refine xs_here ?_
  refine xs_then ?_
  refine k_sr ?_
  refine sp (.bool true) ?_
  refine s_nt ?_
  refine k_ret ?_
  exact xs_fin [.bool true] (own VlT av L :: own VlT bv L :: F) (SI.tmp 4 SI.nil) (fun _ h => h.re [0, 0] []) ⟨rfl, rfl⟩
theorem same_s {Z : Zone} {F : List Asr} (x : Nd) {av bv : Value} : SF Try.prog 19 #[x.w av, x.w bv] Z (own VlT av x.args :: own VlT bv x.args :: F) fun r Bs => r = .bool true ∧ Bs = own VlT av x.args :: own VlT bv x.args :: F := by
 refine sf_enter Try.func19 45 [(0, .agg #[.int .i64 x.kind, .int .i64 x.val.kind, .int .i64 x.val.p, .int .i64 x.val.q, .string x.val.str, .int .i64 x.val.ref, .int .i64 x.fn.kind, .int .i64 x.fn.p, .int .i64 x.fn.q, .string x.fn.str, .int .i64 x.fn.ref, av, .int .i64 x.after, .string x.str]), (1, .agg #[.int .i64 x.kind, .int .i64 x.val.kind, .int .i64 x.val.p, .int .i64 x.val.q, .string x.val.str, .int .i64 x.val.ref, .int .i64 x.fn.kind, .int .i64 x.fn.p, .int .i64 x.fn.q, .string x.fn.str, .int .i64 x.fn.ref, bv, .int .i64 x.after, .string x.str])] (fun w0 => ?_)
 refine k_fact (fun H h => ((Acc.own (T := VlT) (L := x.args) 0 rfl) H h).form) (fun hfav => ?_)
 refine k_fact (fun H h => ((Acc.own (T := VlT) (L := x.args) 1 rfl) H h).form) (fun hfbv => ?_)
 refine k_sr ?_
 refine s_box #[.int .i64 x.kind, .int .i64 x.val.kind, .int .i64 x.val.p, .int .i64 x.val.q, .string x.val.str, .int .i64 x.val.ref, .int .i64 x.fn.kind, .int .i64 x.fn.p, .int .i64 x.fn.q, .string x.fn.str, .int .i64 x.fn.ref, av, .int .i64 x.after, .string x.str] (fun g1 => ?_)
 refine s_box #[.int .i64 x.kind, .int .i64 x.val.kind, .int .i64 x.val.p, .int .i64 x.val.q, .string x.val.str, .int .i64 x.val.ref, .int .i64 x.fn.kind, .int .i64 x.fn.p, .int .i64 x.fn.q, .string x.fn.str, .int .i64 x.fn.ref, bv, .int .i64 x.after, .string x.str] (fun g2 => ?_)
 refine sp (.bool false) ?_
 refine s_nr ?_
 refine sp (pB g1 0) ?_
 refine s_lt (t_load 1 (.int .i64 x.kind)) ?_
 refine sp (pB g2 0) ?_
 refine s_lt (t_load 0 (.int .i64 x.kind)) ?_
 refine s_lt (Lt.to t_cmp (congrArg Value.bool (decide_eq_true rfl : (decide (x.kind = x.kind)) = true))) ?_
 refine sp (.bool true) ?_
 refine sp (pB g1 1) ?_
 refine s_lt (t_loadA 1 #[.int .i64 x.val.kind, .int .i64 x.val.p, .int .i64 x.val.q, .string x.val.str, .int .i64 x.val.ref]) ?_
 refine sp (pB g2 1) ?_
 refine s_lt (t_loadA 0 #[.int .i64 x.val.kind, .int .i64 x.val.p, .int .i64 x.val.q, .string x.val.str, .int .i64 x.val.ref]) ?_
 refine s_lt (Lt.to (t_eqS (fun w => (eqVlT x.val x.val w).1)) (congrArg Value.bool (decide_eq_true rfl : (decide (x.val = x.val)) = true))) ?_
 refine sp (.bool true) ?_
 refine sp (.bool true) ?_
 refine sp (pB g1 6) ?_
 refine s_lt (t_loadA 1 #[.int .i64 x.fn.kind, .int .i64 x.fn.p, .int .i64 x.fn.q, .string x.fn.str, .int .i64 x.fn.ref]) ?_
 refine sp (pB g2 6) ?_
 refine s_lt (t_loadA 0 #[.int .i64 x.fn.kind, .int .i64 x.fn.p, .int .i64 x.fn.q, .string x.fn.str, .int .i64 x.fn.ref]) ?_
 refine s_lt (Lt.to (t_eqS (fun w => (eqVlT x.fn x.fn w).1)) (congrArg Value.bool (decide_eq_true rfl : (decide (x.fn = x.fn)) = true))) ?_
 refine sp (.bool true) ?_
 refine sp (.bool true) ?_
 refine sp (pB g1 12) ?_
 refine s_lt (t_load 1 (.int .i64 x.after)) ?_
 refine sp (pB g2 12) ?_
 refine s_lt (t_load 0 (.int .i64 x.after)) ?_
 refine s_lt (Lt.to t_cmp (congrArg Value.bool (decide_eq_true rfl : (decide (x.after = x.after)) = true))) ?_
 refine sp (.bool true) ?_
 refine sp (.bool true) ?_
 refine sp (pB g1 13) ?_
 refine s_lt (t_load 1 (.string x.str)) ?_
 refine sp (pB g2 13) ?_
 refine s_lt (t_load 0 (.string x.str)) ?_
 refine s_lt (Lt.to t_cmpS (congrArg Value.bool (decide_eq_true rfl : (decide (x.str = x.str)) = true))) ?_
 refine sp (.bool true) ?_
 refine sp (.bool true) ?_
 refine sp (pB g1 11) ?_
 refine s_lt (t_load 1 av) ?_
 refine sp (pB g2 11) ?_
 refine s_lt (t_load 0 bv) ?_
 refine s_call [2, 2] (values_s (L := x.args)) ?_
 rintro _ _ ⟨rfl, rfl⟩
 refine sp (.bool true) ?_
 refine sp (.bool true) ?_
 refine s_nt ?_
 refine k_ret ?_
 exact xs_fin [.bool true] (own VlT av x.args :: own VlT bv x.args :: F) (SI.tmp 4 SI.nil) (fun _ h => h.re [0, 0] [2, 2]) ⟨rfl, rfl⟩
theorem index_w {Z : Zone} {lv : Value} {l : List Opc} (hl0 : Kn Z OpT lv l) (v k : Spc) : SF Try.prog 5 #[lv, v.w, k.w] Z [] fun r Bs => r = .bool true ∧ Bs = [] := by
 refine sf_enter Try.func5 45 [(0, lv), (1, .agg #[.int .i64 v.v.kind, .int .i64 v.v.p, .int .i64 v.v.q, .string v.v.str, .int .i64 v.v.ref, .int .i64 v.obj]), (2, .agg #[.int .i64 k.v.kind, .int .i64 k.v.p, .int .i64 k.v.q, .string k.v.str, .int .i64 k.v.ref, .int .i64 k.obj])] (fun w0 => ?_)
 refine k_sr ?_
 refine s_box #[.int .i64 v.v.kind, .int .i64 v.v.p, .int .i64 v.v.q, .string v.v.str, .int .i64 v.v.ref, .int .i64 v.obj] (fun g1 => ?_)
 refine s_box #[.int .i64 k.v.kind, .int .i64 k.v.p, .int .i64 k.v.q, .string k.v.str, .int .i64 k.v.ref, .int .i64 k.obj] (fun g2 => ?_)
 refine sp (.bool false) ?_
 refine s_nt ?_
 refine k_seq ?_
 refine k_sr ?_
 refine sp lv ?_
 refine s_lt (t_loadA 1 #[.int .i64 v.v.kind, .int .i64 v.v.p, .int .i64 v.v.q, .string v.v.str, .int .i64 v.v.ref, .int .i64 v.obj]) ?_
 refine s_lt (t_loadA 0 #[.int .i64 k.v.kind, .int .i64 k.v.p, .int .i64 k.v.q, .string k.v.str, .int .i64 k.v.ref, .int .i64 k.obj]) ?_
 refine s_buildSlice (e := 28) [(0, .agg #[.int .i64 v.v.kind, .int .i64 v.v.p, .int .i64 v.v.q, .string v.v.str, .int .i64 v.v.ref, .int .i64 v.obj]), (1, .agg #[.int .i64 k.v.kind, .int .i64 k.v.p, .int .i64 k.v.q, .string k.v.str, .int .i64 k.v.ref, .int .i64 k.obj])] #[.int .i64 v.v.kind, .int .i64 v.v.p, .int .i64 v.v.q, .string v.v.str, .int .i64 v.v.ref, .int .i64 v.obj, .int .i64 k.v.kind, .int .i64 k.v.p, .int .i64 k.v.q, .string k.v.str, .int .i64 k.v.ref, .int .i64 k.obj] (fun g3 => ?_) (hb := by kernel_rfl)
 refine s_mem (fun _ h => Holds.slice 0 h SpT_ok [v, k]) ?_
 refine s_call [0] (large_s (M := [v, k]) hl0 (by (try simp only [lnm]); omega)) ?_
 rintro _ _ ⟨lg4, rfl, hlg5, rfl⟩
 refine s_nt ?_
 refine k_cond lg4 (fun c6 => ?_) (fun c6 => ?_)
 ·
  refine k_sr ?_
  refine s_vcall (fun _ h => lives_s) ?_
  rintro _ rfl
  refine sp (.bool true) ?_
  refine s_nt ?_
  refine k_ret ?_
  refine xs_ret ?_
  exact xs_fin [.bool true] [] (SI.tmp 6 SI.nil) (fun _ h => h.re [] [0, 0]) ⟨rfl, rfl⟩
 ·
  refine k_st ?_
  refine k_sr ?_
  refine sp lv ?_
  refine s_call [] (made_s hl0) ?_
  rintro _ _ ⟨hb7, gb8, lx9, rfl, rfl⟩
  refine s_fact (fun H h => ((Acc.own (T := VlT) (L := (made l).2) 2 rfl) H h).form) (fun hf10 => ?_)
  obtain ⟨hinv, hsm, hll⟩ := made_good l
  refine sp (.tuple #[.agg #[pB hb7 0, pB gb8 0, lx9], .bool true]) ?_
  refine sp (.agg #[pB hb7 0, pB gb8 0, lx9]) ?_
  refine sp (.bool true) ?_
  refine s_alloc (.agg #[.pointer none, .pointer none, (.slice none 0 0)]) #[.pointer none, .pointer none, (.slice none 0 0)] (fun g11 => ?_)
  refine s_store (u := .agg #[pB hb7 0, pB gb8 0, lx9]) (m := 3) 0 #[pB hb7 0, pB gb8 0, lx9] ?_ (hm := by (obtain ⟨_, _, e⟩ := hf10; rw [e]; rfl)) (h1 := by (obtain ⟨_, _, e⟩ := hf10; rw [e]; rfl)) (ha' := by (obtain ⟨_, _, e⟩ := hf10; rw [e]; rfl))
  refine sp (.bool true) ?_
  refine s_nt ?_
  refine k_seq ?_
  refine k_held [blkA g11 #[pB hb7 0, pB gb8 0, lx9] 35, own VlT lx9 ((made l).2), blkA g2 #[.int .i64 k.v.kind, .int .i64 k.v.p, .int .i64 k.v.q, .string k.v.str, .int .i64 k.v.ref, .int .i64 k.obj] 28, blkA g1 #[.int .i64 v.v.kind, .int .i64 v.v.p, .int .i64 v.v.q, .string v.v.str, .int .i64 v.v.ref, .int .i64 v.obj] 28] ?_
  refine h_l 0 rfl [0, 2, 2, 2] (fun _ => (t_loadA 0 #[pB hb7 0, pB gb8 0, lx9])) ?_
  refine h_l 1 rfl [0, 2, 2, 2] (fun _ => (t_loadA 3 #[.int .i64 v.v.kind, .int .i64 v.v.p, .int .i64 v.v.q, .string v.v.str, .int .i64 v.v.ref, .int .i64 v.obj])) ?_
  refine h_l 3 rfl [0, 2, 2, 2] (fun _ => (t_loadA 0 #[pB hb7 0, pB gb8 0, lx9])) ?_
  refine h_l 4 rfl [0, 2, 2, 2] (fun _ => (t_loadA 2 #[.int .i64 k.v.kind, .int .i64 k.v.p, .int .i64 k.v.q, .string k.v.str, .int .i64 k.v.ref, .int .i64 k.obj])) ?_
  refine h_join (ι := Nat × Nat) 2 #[true, true, true, true, true, true, true, true, false, false] (fun (g12, g13) => [(7, pB g11 0), (8, .bool true), (9, pB g12 0), (10, pB g13 0), (24, .agg #[.int .i64 ((ofS ((made l).2) v).kind), .int .i64 ((ofS ((made l).2) v).p), .int .i64 ((ofS ((made l).2) v).q), .string ((ofS ((made l).2) v).str), .int .i64 ((ofS ((made l).2) v).ref)]), (27, .agg #[.int .i64 ((ofS ((made l).2) k).kind), .int .i64 ((ofS ((made l).2) k).p), .int .i64 ((ofS ((made l).2) k).q), .string ((ofS ((made l).2) k).str), .int .i64 ((ofS ((made l).2) k).ref)])]) (fun (g12, g13) => [blkA g13 #[.int .i64 0, .int .i64 0, .int .i64 0, .string ByteArray.empty, .int .i64 0] 26, blkA g12 #[.int .i64 0, .int .i64 0, .int .i64 0, .string ByteArray.empty, .int .i64 0] 26, own VlT lx9 ((made l).2), blkA g11 #[pB hb7 0, pB gb8 0, lx9] 35, hpA hb7 ((made l).1), rhA gb8 ((made l).1), blkA g2 #[.int .i64 k.v.kind, .int .i64 k.v.p, .int .i64 k.v.q, .string k.v.str, .int .i64 k.v.ref, .int .i64 k.obj] 28, blkA g1 #[.int .i64 v.v.kind, .int .i64 v.v.p, .int .i64 v.v.q, .string v.v.str, .int .i64 v.v.ref, .int .i64 v.obj] 28]) ?_ (fun hj24 => ?_)
  ·
   rintro ⟨g12, g13⟩
   try dsimp only
   refine h_stepS 8 ?_
   refine s_store 1 #[.int .i64 ((ofS ((made l).2) v).kind), .int .i64 ((ofS ((made l).2) v).p), .int .i64 ((ofS ((made l).2) v).q), .string ((ofS ((made l).2) v).str), .int .i64 ((ofS ((made l).2) v).ref)] ?_
   refine s_nil (xs_held [3, 2, 4, 4] ?_)
   refine h_stepS 9 ?_
   refine s_store 0 #[.int .i64 ((ofS ((made l).2) k).kind), .int .i64 ((ofS ((made l).2) k).p), .int .i64 ((ofS ((made l).2) k).q), .string ((ofS ((made l).2) k).str), .int .i64 ((ofS ((made l).2) k).ref)] ?_
   refine s_nil (xs_held [3, 2, 4, 4] ?_)
   refine h_doneS ?_
   refine xs_then ?_
   refine k_seq ?_
   refine k_held [blkA g13 #[.int .i64 ((ofS ((made l).2) k).kind), .int .i64 ((ofS ((made l).2) k).p), .int .i64 ((ofS ((made l).2) k).q), .string ((ofS ((made l).2) k).str), .int .i64 ((ofS ((made l).2) k).ref)] 26, blkA g12 #[.int .i64 ((ofS ((made l).2) v).kind), .int .i64 ((ofS ((made l).2) v).p), .int .i64 ((ofS ((made l).2) v).q), .string ((ofS ((made l).2) v).str), .int .i64 ((ofS ((made l).2) v).ref)] 26, own VlT lx9 ((made l).2), blkA g11 #[pB hb7 0, pB gb8 0, lx9] 35, blkA g2 #[.int .i64 k.v.kind, .int .i64 k.v.p, .int .i64 k.v.q, .string k.v.str, .int .i64 k.v.ref, .int .i64 k.obj] 28, blkA g1 #[.int .i64 v.v.kind, .int .i64 v.v.p, .int .i64 v.v.q, .string v.v.str, .int .i64 v.v.ref, .int .i64 v.obj] 28] ?_
   refine hp_ 0 [0, 0, 0, 0, 2, 2] (.bool true) ?_
   refine hp_ 1 [0, 0, 0, 0, 2, 2] (.bool true) ?_
   refine hp_ 2 [0, 0, 0, 0, 2, 2] (pB g11 0) ?_
   refine h_l 3 rfl [0, 0, 0, 0, 2, 2] (fun _ => (t_load 3 (pB hb7 0))) ?_
   refine h_l 4 rfl [0, 0, 0, 0, 2, 2] (fun _ => (t_loadA 1 #[.int .i64 ((ofS ((made l).2) v).kind), .int .i64 ((ofS ((made l).2) v).p), .int .i64 ((ofS ((made l).2) v).q), .string ((ofS ((made l).2) v).str), .int .i64 ((ofS ((made l).2) v).ref)])) ?_
   refine h_l 5 rfl [0, 0, 0, 0, 2, 2] (fun _ => (t_loadA 0 #[.int .i64 ((ofS ((made l).2) k).kind), .int .i64 ((ofS ((made l).2) k).p), .int .i64 ((ofS ((made l).2) k).q), .string ((ofS ((made l).2) k).str), .int .i64 ((ofS ((made l).2) k).ref)])) ?_
   refine hp_ 7 [0, 0, 0, 0, 2, 2] (pB g11 1) ?_
   refine h_l 8 rfl [0, 0, 0, 0, 2, 2] (fun _ => (t_load 3 (pB gb8 0))) ?_
   refine h_l 9 rfl [0, 0, 0, 0, 2, 2] (fun _ => (t_loadA 1 #[.int .i64 ((ofS ((made l).2) v).kind), .int .i64 ((ofS ((made l).2) v).p), .int .i64 ((ofS ((made l).2) v).q), .string ((ofS ((made l).2) v).str), .int .i64 ((ofS ((made l).2) v).ref)])) ?_
   refine h_l 10 rfl [0, 0, 0, 0, 2, 2] (fun _ => (t_loadA 0 #[.int .i64 ((ofS ((made l).2) k).kind), .int .i64 ((ofS ((made l).2) k).p), .int .i64 ((ofS ((made l).2) k).q), .string ((ofS ((made l).2) k).str), .int .i64 ((ofS ((made l).2) k).ref)])) ?_
   refine h_stepS 6 ?_
   refine s_call [4] (index_s (st := (made l).1) hsm (by omega) (ofS ((made l).2) v) (ofS ((made l).2) k)) ?_
   rintro _ _ ⟨av25, rfl, rfl⟩
   refine s_fact (fun H h => ((Acc.own (T := VlT) (L := (idx ((made l).1) (ofS ((made l).2) k) 32 (ofS ((made l).2) v)).args) 0 rfl) H h).form) (fun hf26 => ?_)
   refine s_nil (xs_held [2, 2, 2, 2, 3, 3] ?_)
   refine h_stepS 11 ?_
   refine s_call [6] (rindex15_s (st := (made l).1) hsm (by omega) (ofS ((made l).2) v) (ofS ((made l).2) k)) ?_
   rintro _ _ ⟨av27, rfl, rfl⟩
   refine s_fact (fun H h => ((Acc.own (T := VlT) (L := (idx ((made l).1) (ofS ((made l).2) k) 32 (ofS ((made l).2) v)).args) 0 rfl) H h).form) (fun hf28 => ?_)
   refine s_nil (xs_held [4, 4, 4, 4, 4, 4] ?_)
   refine h_stepS 12 ?_
   refine s_call [2, 0] (same_s (idx ((made l).1) (ofS ((made l).2) k) 32 (ofS ((made l).2) v))) ?_
   rintro _ _ ⟨rfl, rfl⟩
   refine s_nil (xs_held [4, 4, 4, 4, 4, 4] ?_)
   refine hp_ 13 [4, 4, 4, 4, 4, 4] (.bool true) ?_
   refine hp_ 14 [4, 4, 4, 4, 4, 4] (.bool true) ?_
   refine h_stepS 15 ?_
   refine s_vcall (fun _ h => lives_s) ?_
   rintro _ rfl
   refine s_nil (xs_held [4, 4, 4, 4, 4, 4] ?_)
   refine hp_ 16 [4, 4, 4, 4, 4, 4] (.bool true) ?_
   refine hp_ 17 [4, 4, 4, 4, 4, 4] (.bool true) ?_
   refine h_doneS ?_
   refine xs_then ?_
   refine k_ret ?_
   exact xs_fin [.bool true] [] (SI.tmp 6 SI.nil) (fun _ h => h.re [] [0, 0, 0, 0, 0, 0, 0, 0, 0, 0]) ⟨rfl, rfl⟩
  refine h_join (ι := Nat) 3 #[true, true, true, true, true, true, true, false, false, false] (fun g12 => [(7, pB g11 0), (8, .bool true), (9, pB g12 0), (24, .agg #[.int .i64 ((ofS ((made l).2) v).kind), .int .i64 ((ofS ((made l).2) v).p), .int .i64 ((ofS ((made l).2) v).q), .string ((ofS ((made l).2) v).str), .int .i64 ((ofS ((made l).2) v).ref)]), (27, .agg #[.int .i64 ((ofS ((made l).2) k).kind), .int .i64 ((ofS ((made l).2) k).p), .int .i64 ((ofS ((made l).2) k).q), .string ((ofS ((made l).2) k).str), .int .i64 ((ofS ((made l).2) k).ref)])]) (fun g12 => [blkA g12 #[.int .i64 0, .int .i64 0, .int .i64 0, .string ByteArray.empty, .int .i64 0] 26, own VlT lx9 ((made l).2), blkA g11 #[pB hb7 0, pB gb8 0, lx9] 35, hpA hb7 ((made l).1), rhA gb8 ((made l).1), blkA g2 #[.int .i64 k.v.kind, .int .i64 k.v.p, .int .i64 k.v.q, .string k.v.str, .int .i64 k.v.ref, .int .i64 k.obj] 28, blkA g1 #[.int .i64 v.v.kind, .int .i64 v.v.p, .int .i64 v.v.q, .string v.v.str, .int .i64 v.v.ref, .int .i64 v.obj] 28]) ?_ (fun hj29 => ?_)
  ·
   rintro g12
   try dsimp only
   refine h_stepS 7 ?_
   refine s_alloc (.agg #[.int .i64 0, .int .i64 0, .int .i64 0, .string ByteArray.empty, .int .i64 0]) #[.int .i64 0, .int .i64 0, .int .i64 0, .string ByteArray.empty, .int .i64 0] (fun g30 => ?_)
   refine s_nil (xs_held [3, 2, 4, 4] ?_)
   exact h_use hj24 (g12, g30) (fun _ h => h.re [0, 0, 0, 0, 0, 0, 0, 0] [])
  refine h_join (ι := Nat) 3 #[true, true, true, true, true, true, false, true, false, false] (fun g14 => [(7, pB g11 0), (8, .bool true), (10, pB g14 0), (24, .agg #[.int .i64 ((ofS ((made l).2) v).kind), .int .i64 ((ofS ((made l).2) v).p), .int .i64 ((ofS ((made l).2) v).q), .string ((ofS ((made l).2) v).str), .int .i64 ((ofS ((made l).2) v).ref)]), (27, .agg #[.int .i64 ((ofS ((made l).2) k).kind), .int .i64 ((ofS ((made l).2) k).p), .int .i64 ((ofS ((made l).2) k).q), .string ((ofS ((made l).2) k).str), .int .i64 ((ofS ((made l).2) k).ref)])]) (fun g14 => [blkA g14 #[.int .i64 0, .int .i64 0, .int .i64 0, .string ByteArray.empty, .int .i64 0] 26, own VlT lx9 ((made l).2), blkA g11 #[pB hb7 0, pB gb8 0, lx9] 35, hpA hb7 ((made l).1), rhA gb8 ((made l).1), blkA g2 #[.int .i64 k.v.kind, .int .i64 k.v.p, .int .i64 k.v.q, .string k.v.str, .int .i64 k.v.ref, .int .i64 k.obj] 28, blkA g1 #[.int .i64 v.v.kind, .int .i64 v.v.p, .int .i64 v.v.q, .string v.v.str, .int .i64 v.v.ref, .int .i64 v.obj] 28]) ?_ (fun hj31 => ?_)
  ·
   rintro g14
   try dsimp only
   refine h_stepS 6 ?_
   refine s_alloc (.agg #[.int .i64 0, .int .i64 0, .int .i64 0, .string ByteArray.empty, .int .i64 0]) #[.int .i64 0, .int .i64 0, .int .i64 0, .string ByteArray.empty, .int .i64 0] (fun g32 => ?_)
   refine s_nil (xs_held [3, 2, 4, 4] ?_)
   exact h_use hj24 (g32, g14) (fun _ h => h.re [1, 0, 0, 0, 0, 0, 0, 0] [])
  refine h_join (ι := Nat × Nat) 3 #[true, true, true, true, true, false, true, true, false, false] (fun (g16, g17) => [(7, pB g11 0), (8, .bool true), (9, pB g16 0), (10, pB g17 0), (24, .agg #[.int .i64 ((ofS ((made l).2) v).kind), .int .i64 ((ofS ((made l).2) v).p), .int .i64 ((ofS ((made l).2) v).q), .string ((ofS ((made l).2) v).str), .int .i64 ((ofS ((made l).2) v).ref)]), (25, .agg #[pB hb7 0, pB gb8 0, lx9]), (26, .agg #[.int .i64 k.v.kind, .int .i64 k.v.p, .int .i64 k.v.q, .string k.v.str, .int .i64 k.v.ref, .int .i64 k.obj])]) (fun (g16, g17) => [blkA g17 #[.int .i64 0, .int .i64 0, .int .i64 0, .string ByteArray.empty, .int .i64 0] 26, blkA g16 #[.int .i64 0, .int .i64 0, .int .i64 0, .string ByteArray.empty, .int .i64 0] 26, own VlT lx9 ((made l).2), blkA g11 #[pB hb7 0, pB gb8 0, lx9] 35, hpA hb7 ((made l).1), rhA gb8 ((made l).1), blkA g2 #[.int .i64 k.v.kind, .int .i64 k.v.p, .int .i64 k.v.q, .string k.v.str, .int .i64 k.v.ref, .int .i64 k.obj] 28, blkA g1 #[.int .i64 v.v.kind, .int .i64 v.v.p, .int .i64 v.v.q, .string v.v.str, .int .i64 v.v.ref, .int .i64 v.obj] 28]) ?_ (fun hj33 => ?_)
  ·
   rintro ⟨g16, g17⟩
   try dsimp only
   refine h_stepS 5 ?_
   refine s_call [2] (of_s (L := (made l).2) (by (try simp only [lnm]); omega) k) ?_
   rintro _ _ ⟨rfl, rfl⟩
   refine s_nil (xs_held [3, 0, 4, 4] ?_)
   exact h_use hj24 (g16, g17) (fun _ h => h.re [1, 1, 0, 0, 0, 0, 0, 0] [])
  refine h_join (ι := Nat) 4 #[true, true, true, true, true, false, true, false, false, false] (fun g16 => [(7, pB g11 0), (8, .bool true), (9, pB g16 0), (24, .agg #[.int .i64 ((ofS ((made l).2) v).kind), .int .i64 ((ofS ((made l).2) v).p), .int .i64 ((ofS ((made l).2) v).q), .string ((ofS ((made l).2) v).str), .int .i64 ((ofS ((made l).2) v).ref)]), (25, .agg #[pB hb7 0, pB gb8 0, lx9]), (26, .agg #[.int .i64 k.v.kind, .int .i64 k.v.p, .int .i64 k.v.q, .string k.v.str, .int .i64 k.v.ref, .int .i64 k.obj])]) (fun g16 => [blkA g16 #[.int .i64 0, .int .i64 0, .int .i64 0, .string ByteArray.empty, .int .i64 0] 26, own VlT lx9 ((made l).2), blkA g11 #[pB hb7 0, pB gb8 0, lx9] 35, hpA hb7 ((made l).1), rhA gb8 ((made l).1), blkA g2 #[.int .i64 k.v.kind, .int .i64 k.v.p, .int .i64 k.v.q, .string k.v.str, .int .i64 k.v.ref, .int .i64 k.obj] 28, blkA g1 #[.int .i64 v.v.kind, .int .i64 v.v.p, .int .i64 v.v.q, .string v.v.str, .int .i64 v.v.ref, .int .i64 v.obj] 28]) ?_ (fun hj34 => ?_)
  ·
   rintro g16
   try dsimp only
   refine h_stepS2 5 7 ?_ ?_
   ·
    refine s_call [1] (of_s (L := (made l).2) (by (try simp only [lnm]); omega) k) ?_
    rintro _ _ ⟨rfl, rfl⟩
    refine s_nil (xs_held [2, 0, 3, 3] ?_)
    exact h_use hj29 g16 (fun _ h => h.re [1, 0, 0, 0, 0, 0, 0] [])
   ·
    refine s_alloc (.agg #[.int .i64 0, .int .i64 0, .int .i64 0, .string ByteArray.empty, .int .i64 0]) #[.int .i64 0, .int .i64 0, .int .i64 0, .string ByteArray.empty, .int .i64 0] (fun g35 => ?_)
    refine s_nil (xs_held [3, 2, 4, 4] ?_)
    exact h_use hj33 (g16, g35) (fun _ h => h.re [0, 0, 0, 0, 0, 0, 0, 0] [])
  refine h_join (ι := Nat) 4 #[true, true, true, true, true, false, false, true, false, false] (fun g18 => [(7, pB g11 0), (8, .bool true), (10, pB g18 0), (24, .agg #[.int .i64 ((ofS ((made l).2) v).kind), .int .i64 ((ofS ((made l).2) v).p), .int .i64 ((ofS ((made l).2) v).q), .string ((ofS ((made l).2) v).str), .int .i64 ((ofS ((made l).2) v).ref)]), (25, .agg #[pB hb7 0, pB gb8 0, lx9]), (26, .agg #[.int .i64 k.v.kind, .int .i64 k.v.p, .int .i64 k.v.q, .string k.v.str, .int .i64 k.v.ref, .int .i64 k.obj])]) (fun g18 => [blkA g18 #[.int .i64 0, .int .i64 0, .int .i64 0, .string ByteArray.empty, .int .i64 0] 26, own VlT lx9 ((made l).2), blkA g11 #[pB hb7 0, pB gb8 0, lx9] 35, hpA hb7 ((made l).1), rhA gb8 ((made l).1), blkA g2 #[.int .i64 k.v.kind, .int .i64 k.v.p, .int .i64 k.v.q, .string k.v.str, .int .i64 k.v.ref, .int .i64 k.obj] 28, blkA g1 #[.int .i64 v.v.kind, .int .i64 v.v.p, .int .i64 v.v.q, .string v.v.str, .int .i64 v.v.ref, .int .i64 v.obj] 28]) ?_ (fun hj36 => ?_)
  ·
   rintro g18
   try dsimp only
   refine h_stepS2 5 6 ?_ ?_
   ·
    refine s_call [1] (of_s (L := (made l).2) (by (try simp only [lnm]); omega) k) ?_
    rintro _ _ ⟨rfl, rfl⟩
    refine s_nil (xs_held [2, 0, 3, 3] ?_)
    exact h_use hj31 g18 (fun _ h => h.re [1, 0, 0, 0, 0, 0, 0] [])
   ·
    refine s_alloc (.agg #[.int .i64 0, .int .i64 0, .int .i64 0, .string ByteArray.empty, .int .i64 0]) #[.int .i64 0, .int .i64 0, .int .i64 0, .string ByteArray.empty, .int .i64 0] (fun g37 => ?_)
    refine s_nil (xs_held [3, 2, 4, 4] ?_)
    exact h_use hj33 (g37, g18) (fun _ h => h.re [1, 0, 0, 0, 0, 0, 0, 0] [])
  refine h_join (ι := Nat × Nat) 4 #[true, true, false, true, true, false, true, true, false, false] (fun (g20, g21) => [(7, pB g11 0), (8, .bool true), (9, pB g20 0), (10, pB g21 0), (22, .agg #[pB hb7 0, pB gb8 0, lx9]), (23, .agg #[.int .i64 v.v.kind, .int .i64 v.v.p, .int .i64 v.v.q, .string v.v.str, .int .i64 v.v.ref, .int .i64 v.obj]), (25, .agg #[pB hb7 0, pB gb8 0, lx9]), (26, .agg #[.int .i64 k.v.kind, .int .i64 k.v.p, .int .i64 k.v.q, .string k.v.str, .int .i64 k.v.ref, .int .i64 k.obj])]) (fun (g20, g21) => [blkA g21 #[.int .i64 0, .int .i64 0, .int .i64 0, .string ByteArray.empty, .int .i64 0] 26, blkA g20 #[.int .i64 0, .int .i64 0, .int .i64 0, .string ByteArray.empty, .int .i64 0] 26, blkA g11 #[pB hb7 0, pB gb8 0, lx9] 35, hpA hb7 ((made l).1), rhA gb8 ((made l).1), own VlT lx9 ((made l).2), blkA g2 #[.int .i64 k.v.kind, .int .i64 k.v.p, .int .i64 k.v.q, .string k.v.str, .int .i64 k.v.ref, .int .i64 k.obj] 28, blkA g1 #[.int .i64 v.v.kind, .int .i64 v.v.p, .int .i64 v.v.q, .string v.v.str, .int .i64 v.v.ref, .int .i64 v.obj] 28]) ?_ (fun hj38 => ?_)
  ·
   rintro ⟨g20, g21⟩
   try dsimp only
   refine h_stepS 2 ?_
   refine s_call [5] (of_s (L := (made l).2) (by (try simp only [lnm]); omega) v) ?_
   rintro _ _ ⟨rfl, rfl⟩
   refine s_nil (xs_held [3, 0, 4, 4] ?_)
   exact h_use hj33 (g20, g21) (fun _ h => h.re [1, 1, 0, 0, 0, 0, 0, 0] [])
  refine h_stepS3 2 6 7 ?_ ?_ ?_
  ·
   refine s_call [3] (of_s (L := (made l).2) (by (try simp only [lnm]); omega) v) ?_
   rintro _ _ ⟨rfl, rfl⟩
   refine s_nil (xs_held [1, 0, 2, 2] ?_)
   refine h_stepS3 5 6 7 ?_ ?_ ?_
   ·
    refine s_call [0] (of_s (L := (made l).2) (by (try simp only [lnm]); omega) k) ?_
    rintro _ _ ⟨rfl, rfl⟩
    refine s_nil (xs_held [1, 0, 2, 2] ?_)
    refine h_stepS2 6 7 ?_ ?_
    ·
     refine s_alloc (.agg #[.int .i64 0, .int .i64 0, .int .i64 0, .string ByteArray.empty, .int .i64 0]) #[.int .i64 0, .int .i64 0, .int .i64 0, .string ByteArray.empty, .int .i64 0] (fun g39 => ?_)
     refine s_nil (xs_held [2, 1, 3, 3] ?_)
     exact h_use hj29 g39 (fun _ h => h.re [0, 0, 0, 0, 0, 0, 0] [])
    ·
     refine s_alloc (.agg #[.int .i64 0, .int .i64 0, .int .i64 0, .string ByteArray.empty, .int .i64 0]) #[.int .i64 0, .int .i64 0, .int .i64 0, .string ByteArray.empty, .int .i64 0] (fun g40 => ?_)
     refine s_nil (xs_held [2, 1, 3, 3] ?_)
     exact h_use hj31 g40 (fun _ h => h.re [0, 0, 0, 0, 0, 0, 0] [])
   ·
    refine s_alloc (.agg #[.int .i64 0, .int .i64 0, .int .i64 0, .string ByteArray.empty, .int .i64 0]) #[.int .i64 0, .int .i64 0, .int .i64 0, .string ByteArray.empty, .int .i64 0] (fun g41 => ?_)
    refine s_nil (xs_held [2, 1, 3, 3] ?_)
    exact h_use hj34 g41 (fun _ h => h.re [0, 0, 0, 0, 0, 0, 0] [])
   ·
    refine s_alloc (.agg #[.int .i64 0, .int .i64 0, .int .i64 0, .string ByteArray.empty, .int .i64 0]) #[.int .i64 0, .int .i64 0, .int .i64 0, .string ByteArray.empty, .int .i64 0] (fun g42 => ?_)
    refine s_nil (xs_held [2, 1, 3, 3] ?_)
    exact h_use hj36 g42 (fun _ h => h.re [0, 0, 0, 0, 0, 0, 0] [])
  ·
   refine s_alloc (.agg #[.int .i64 0, .int .i64 0, .int .i64 0, .string ByteArray.empty, .int .i64 0]) #[.int .i64 0, .int .i64 0, .int .i64 0, .string ByteArray.empty, .int .i64 0] (fun g43 => ?_)
   refine s_nil (xs_held [1, 3, 3, 3] ?_)
   refine h_stepS2 2 7 ?_ ?_
   ·
    refine s_call [4] (of_s (L := (made l).2) (by (try simp only [lnm]); omega) v) ?_
    rintro _ _ ⟨rfl, rfl⟩
    refine s_nil (xs_held [2, 0, 3, 3] ?_)
    exact h_use hj34 g43 (fun _ h => h.re [1, 0, 0, 0, 0, 0, 0] [])
   ·
    refine s_alloc (.agg #[.int .i64 0, .int .i64 0, .int .i64 0, .string ByteArray.empty, .int .i64 0]) #[.int .i64 0, .int .i64 0, .int .i64 0, .string ByteArray.empty, .int .i64 0] (fun g44 => ?_)
    refine s_nil (xs_held [2, 4, 4, 4] ?_)
    exact h_use hj38 (g43, g44) (fun _ h => h.re [0, 0, 0, 0, 0, 0, 0, 0] [])
  ·
   refine s_alloc (.agg #[.int .i64 0, .int .i64 0, .int .i64 0, .string ByteArray.empty, .int .i64 0]) #[.int .i64 0, .int .i64 0, .int .i64 0, .string ByteArray.empty, .int .i64 0] (fun g45 => ?_)
   refine s_nil (xs_held [1, 3, 3, 3] ?_)
   refine h_stepS2 2 6 ?_ ?_
   ·
    refine s_call [4] (of_s (L := (made l).2) (by (try simp only [lnm]); omega) v) ?_
    rintro _ _ ⟨rfl, rfl⟩
    refine s_nil (xs_held [2, 0, 3, 3] ?_)
    exact h_use hj36 g45 (fun _ h => h.re [1, 0, 0, 0, 0, 0, 0] [])
   ·
    refine s_alloc (.agg #[.int .i64 0, .int .i64 0, .int .i64 0, .string ByteArray.empty, .int .i64 0]) #[.int .i64 0, .int .i64 0, .int .i64 0, .string ByteArray.empty, .int .i64 0] (fun g46 => ?_)
    refine s_nil (xs_held [2, 4, 4, 4] ?_)
    exact h_use hj38 (g46, g45) (fun _ h => h.re [1, 0, 0, 0, 0, 0, 0, 0] [])
end Go.Proofs.Ytplkkhpokodbmaa
