/-
  Layer 15: MetaAssign. Each law says its conditions.
-/
import Derived.Test.YtplkkhpokodbmaaW16
set_option linter.unusedSimpArgs false
set_option linter.unusedVariables false
set_option maxRecDepth 100000
set_option maxHeartbeats 2000000
namespace Go.Proofs.Ytplkkhpokodbmaa
open Go.Hp Go.J Go.S
open Go.Mem (Ty KTy blk elemAt pre suf blk_pre blk_suf aget aset strK aggDesc)
open Go.Mem (adel apos aget_aset aget_adel)
theorem values_s {Z : Zone} {F : List Asr} {av bv : Value} {L : List Vl} : SF Try.prog 18 #[av, bv] Z (own VlT av L :: own VlT bv L :: F) fun r Bs => r = .bool true ∧ Bs = own VlT av L :: own VlT bv L :: F := by
 refine sf_enter Try.func18 26 [(0, av), (1, bv)] (fun w0 => ?_)
 refine k_fact (fun H h => ((Acc.own (T := VlT) (L := L) 0 rfl) H h).len_le) (fun lA => ?_)
 refine k_sr ?_
 refine sp (.bool false) ?_
 refine s_nt ?_
 refine k_seq ?_
 refine k_sr ?_
 refine sp av ?_
 refine s_lt (t_len VlT_ok Try.underlying33 (.own 0)) ?_
 refine sp bv ?_
 refine s_lt (t_len VlT_ok Try.underlying33 (.own 1)) ?_
 refine s_lt (Lt.to t_cmp (congrArg Value.bool (decide_eq_false (fun h => h rfl) : (decide ((L.length : Int) ≠ (L.length : Int))) = false))) ?_
 refine s_nt ?_
 refine k_false ?_
 refine k_st ?_
 refine k_seq ?_
 refine k_sr ?_
 refine sp (.int .i64 0) ?_
 refine s_nt ?_
 refine k_block ?_
 refine k_loop (ι := Nat) (fun i => i ≤ L.length) (fun i => [(0, av), (1, bv), (5, .int .i64 (i : Int))]) (fun i => own VlT av L :: own VlT bv L :: F) (fun i => L.length - i) 0 (by omega) (sub_of rfl ⟨⟨rfl, rfl⟩, ⟨⟨rfl, rfl⟩, ⟨⟨rfl, rfl⟩, trivial⟩⟩⟩) (fun _ h => h.re [0, 0] []) ?_
 rintro i hi1
 show SK _ _ _ _ _ [(0, av), (1, bv), (5, .int .i64 (i : Int))] _ (own VlT av L :: own VlT bv L :: F)
 refine k_seq ?_
 refine k_sr ?_
 refine sp (.int .i64 (i : Int)) ?_
 refine sp av ?_
 refine s_lt (t_len VlT_ok Try.underlying33 (.own 0)) ?_
 refine s_lt t_cmp ?_
 refine s_nt ?_
 refine k_cond (decide ((i : Int) < (L.length : Int))) (fun c2 => ?_) (fun c2 => ?_)
 ·
  have p3 := of_decide_eq_true c2
  refine k_st ?_
  refine k_seq ?_
  refine k_block ?_
  refine k_seq ?_
  refine k_draw ?_
  refine sp av ?_
  refine sp (.int .i64 (i : Int)) ?_
  refine s_lt (t_index VlT_ok Try.underlying33 (.own 0) (i : Int) i (by omega) (by (try simp only [lnm]); omega) (by omega)) ?_
  obtain ⟨y4, hy5⟩ : ∃ y, L[i]? = some y := ⟨_, List.getElem?_eq_getElem (by (try simp only [lnm]); omega)⟩
  refine s_lt (t_loadE VlT_ok (.own 0) hy5) ?_
  refine sp bv ?_
  refine sp (.int .i64 (i : Int)) ?_
  refine s_lt (t_index VlT_ok Try.underlying33 (.own 1) (i : Int) i (by omega) (by (try simp only [lnm]); omega) (by omega)) ?_
  refine s_lt (t_loadE VlT_ok (.own 1) hy5) ?_
  refine s_lt (Lt.to (t_eqS (fun w => (eqVlT y4 y4 w).2)) (congrArg Value.bool ((congrArg Bool.not (decide_eq_true rfl : (decide (y4 = y4)) = true)).trans rfl : (!(decide (y4 = y4))) = false))) ?_
  refine s_nil ?_
  refine x_dynS (fun _ h => by kernel_rfl) ?_
  refine xs_then ?_
  refine k_false ?_
  refine k_skip ?_
  refine xs_block ?_
  refine xs_then ?_
  refine k_reg ?_
  refine sp (.int .i64 (i : Int)) ?_
  refine s_lt (t_add (i : Int) 1 (by (try simp only [lnm]); omega)) ?_
  refine sp (.int .i64 ((i : Int) + 1)) ?_
  refine s_nil ?_
  exact xs_round (i + 1) (by omega) (by omega) (sub_of rfl ⟨⟨rfl, rfl⟩, ⟨⟨rfl, rfl⟩, ⟨⟨rfl, rfl⟩, trivial⟩⟩⟩) (fun _ h => h.re [0, 0] [])
 ·
  have p6 := of_decide_eq_false c2
  refine k_exit ?_
  refine xs_exit ?_
  refine xs_exit ?_
  refine xs_here ?_
  refine xs_then ?_
  refine k_sr ?_
  refine sp (.bool true) ?_
  refine s_nt ?_
  refine k_ret ?_
  exact xs_fin [.bool true] (own VlT av L :: own VlT bv L :: F) (SI.tmp 4 SI.nil) (fun _ h => h.re [0, 0] []) ⟨rfl, rfl⟩
theorem same_s {Z : Zone} {F : List Asr} (x : Nd) {av bv : Value} : SF Try.prog 19 #[x.w av, x.w bv] Z (own VlT av x.args :: own VlT bv x.args :: F) fun r Bs => r = .bool true ∧ Bs = own VlT av x.args :: own VlT bv x.args :: F := by
 refine sf_enter Try.func19 45 [(0, .agg #[.int .i64 x.kind, .int .i64 x.val.kind, .int .i64 x.val.p, .int .i64 x.val.q, .string x.val.str, .int .i64 x.val.ref, .int .i64 x.fn.kind, .int .i64 x.fn.p, .int .i64 x.fn.q, .string x.fn.str, .int .i64 x.fn.ref, av, .int .i64 x.after, .string x.str]), (1, .agg #[.int .i64 x.kind, .int .i64 x.val.kind, .int .i64 x.val.p, .int .i64 x.val.q, .string x.val.str, .int .i64 x.val.ref, .int .i64 x.fn.kind, .int .i64 x.fn.p, .int .i64 x.fn.q, .string x.fn.str, .int .i64 x.fn.ref, bv, .int .i64 x.after, .string x.str])] (fun w0 => ?_)
 refine k_fact (fun H h => ((Acc.own (T := VlT) (L := x.args) 0 rfl) H h).form) (fun hfav => ?_)
 refine k_fact (fun H h => ((Acc.own (T := VlT) (L := x.args) 1 rfl) H h).form) (fun hfbv => ?_)
 refine k_sr ?_
 refine s_box #[.int .i64 x.kind, .int .i64 x.val.kind, .int .i64 x.val.p, .int .i64 x.val.q, .string x.val.str, .int .i64 x.val.ref, .int .i64 x.fn.kind, .int .i64 x.fn.p, .int .i64 x.fn.q, .string x.fn.str, .int .i64 x.fn.ref, av, .int .i64 x.after, .string x.str] (fun g1 => ?_)
 refine s_box #[.int .i64 x.kind, .int .i64 x.val.kind, .int .i64 x.val.p, .int .i64 x.val.q, .string x.val.str, .int .i64 x.val.ref, .int .i64 x.fn.kind, .int .i64 x.fn.p, .int .i64 x.fn.q, .string x.fn.str, .int .i64 x.fn.ref, bv, .int .i64 x.after, .string x.str] (fun g2 => ?_)
 refine sp (.bool false) ?_
 refine s_nr ?_
 refine sp (pB g1 0) ?_
 refine s_lt (t_load 1 (.int .i64 x.kind)) ?_
 refine sp (pB g2 0) ?_
 refine s_lt (t_load 0 (.int .i64 x.kind)) ?_
 refine s_lt (Lt.to t_cmp (congrArg Value.bool (decide_eq_true rfl : (decide (x.kind = x.kind)) = true))) ?_
 refine sp (.bool true) ?_
 refine sp (pB g1 1) ?_
 refine s_lt (t_loadA 1 #[.int .i64 x.val.kind, .int .i64 x.val.p, .int .i64 x.val.q, .string x.val.str, .int .i64 x.val.ref]) ?_
 refine sp (pB g2 1) ?_
 refine s_lt (t_loadA 0 #[.int .i64 x.val.kind, .int .i64 x.val.p, .int .i64 x.val.q, .string x.val.str, .int .i64 x.val.ref]) ?_
 refine s_lt (Lt.to (t_eqS (fun w => (eqVlT x.val x.val w).1)) (congrArg Value.bool (decide_eq_true rfl : (decide (x.val = x.val)) = true))) ?_
 refine sp (.bool true) ?_
 refine sp (.bool true) ?_
 refine sp (pB g1 6) ?_
 refine s_lt (t_loadA 1 #[.int .i64 x.fn.kind, .int .i64 x.fn.p, .int .i64 x.fn.q, .string x.fn.str, .int .i64 x.fn.ref]) ?_
 refine sp (pB g2 6) ?_
 refine s_lt (t_loadA 0 #[.int .i64 x.fn.kind, .int .i64 x.fn.p, .int .i64 x.fn.q, .string x.fn.str, .int .i64 x.fn.ref]) ?_
 refine s_lt (Lt.to (t_eqS (fun w => (eqVlT x.fn x.fn w).1)) (congrArg Value.bool (decide_eq_true rfl : (decide (x.fn = x.fn)) = true))) ?_
 refine sp (.bool true) ?_
 refine sp (.bool true) ?_
 refine sp (pB g1 12) ?_
 refine s_lt (t_load 1 (.int .i64 x.after)) ?_
 refine sp (pB g2 12) ?_
 refine s_lt (t_load 0 (.int .i64 x.after)) ?_
 refine s_lt (Lt.to t_cmp (congrArg Value.bool (decide_eq_true rfl : (decide (x.after = x.after)) = true))) ?_
 refine sp (.bool true) ?_
 refine sp (.bool true) ?_
 refine sp (pB g1 13) ?_
 refine s_lt (t_load 1 (.string x.str)) ?_
 refine sp (pB g2 13) ?_
 refine s_lt (t_load 0 (.string x.str)) ?_
 refine s_lt (Lt.to t_cmpS (congrArg Value.bool (decide_eq_true rfl : (decide (x.str = x.str)) = true))) ?_
 refine sp (.bool true) ?_
 refine sp (.bool true) ?_
 refine sp (pB g1 11) ?_
 refine s_lt (t_load 1 av) ?_
 refine sp (pB g2 11) ?_
 refine s_lt (t_load 0 bv) ?_
 refine s_call [2, 2] (values_s (L := x.args)) ?_
 rintro _ _ ⟨rfl, rfl⟩
 refine sp (.bool true) ?_
 refine sp (.bool true) ?_
 refine s_nt ?_
 refine k_ret ?_
 exact xs_fin [.bool true] (own VlT av x.args :: own VlT bv x.args :: F) (SI.tmp 4 SI.nil) (fun _ h => h.re [0, 0] [2, 2]) ⟨rfl, rfl⟩
theorem assign_w {Z : Zone} {lv : Value} {l : List Opc} (hl0 : Kn Z OpT lv l) (v k x : Spc) : SF Try.prog 6 #[lv, v.w, k.w, x.w] Z [] fun r Bs => r = .bool true ∧ Bs = [] := by
 refine sf_enter Try.func6 98 [(0, lv), (1, .agg #[.int .i64 v.v.kind, .int .i64 v.v.p, .int .i64 v.v.q, .string v.v.str, .int .i64 v.v.ref, .int .i64 v.obj]), (2, .agg #[.int .i64 k.v.kind, .int .i64 k.v.p, .int .i64 k.v.q, .string k.v.str, .int .i64 k.v.ref, .int .i64 k.obj]), (3, .agg #[.int .i64 x.v.kind, .int .i64 x.v.p, .int .i64 x.v.q, .string x.v.str, .int .i64 x.v.ref, .int .i64 x.obj])] (fun w0 => ?_)
 refine k_sr ?_
 refine s_box #[.int .i64 v.v.kind, .int .i64 v.v.p, .int .i64 v.v.q, .string v.v.str, .int .i64 v.v.ref, .int .i64 v.obj] (fun g1 => ?_)
 refine s_box #[.int .i64 k.v.kind, .int .i64 k.v.p, .int .i64 k.v.q, .string k.v.str, .int .i64 k.v.ref, .int .i64 k.obj] (fun g2 => ?_)
 refine s_box #[.int .i64 x.v.kind, .int .i64 x.v.p, .int .i64 x.v.q, .string x.v.str, .int .i64 x.v.ref, .int .i64 x.obj] (fun g3 => ?_)
 refine sp (.bool false) ?_
 refine s_nt ?_
 refine k_seq ?_
 refine k_sr ?_
 refine sp lv ?_
 refine s_lt (t_loadA 2 #[.int .i64 v.v.kind, .int .i64 v.v.p, .int .i64 v.v.q, .string v.v.str, .int .i64 v.v.ref, .int .i64 v.obj]) ?_
 refine s_lt (t_loadA 1 #[.int .i64 k.v.kind, .int .i64 k.v.p, .int .i64 k.v.q, .string k.v.str, .int .i64 k.v.ref, .int .i64 k.obj]) ?_
 refine s_lt (t_loadA 0 #[.int .i64 x.v.kind, .int .i64 x.v.p, .int .i64 x.v.q, .string x.v.str, .int .i64 x.v.ref, .int .i64 x.obj]) ?_
 refine s_buildSlice (e := 28) [(0, .agg #[.int .i64 v.v.kind, .int .i64 v.v.p, .int .i64 v.v.q, .string v.v.str, .int .i64 v.v.ref, .int .i64 v.obj]), (1, .agg #[.int .i64 k.v.kind, .int .i64 k.v.p, .int .i64 k.v.q, .string k.v.str, .int .i64 k.v.ref, .int .i64 k.obj]), (2, .agg #[.int .i64 x.v.kind, .int .i64 x.v.p, .int .i64 x.v.q, .string x.v.str, .int .i64 x.v.ref, .int .i64 x.obj])] #[.int .i64 v.v.kind, .int .i64 v.v.p, .int .i64 v.v.q, .string v.v.str, .int .i64 v.v.ref, .int .i64 v.obj, .int .i64 k.v.kind, .int .i64 k.v.p, .int .i64 k.v.q, .string k.v.str, .int .i64 k.v.ref, .int .i64 k.obj, .int .i64 x.v.kind, .int .i64 x.v.p, .int .i64 x.v.q, .string x.v.str, .int .i64 x.v.ref, .int .i64 x.obj] (fun g4 => ?_) (hb := by kernel_rfl)
 refine s_mem (fun _ h => Holds.slice 0 h SpT_ok [v, k, x]) ?_
 refine s_call [0] (large_s (M := [v, k, x]) hl0 (by (try simp only [lnm]); omega)) ?_
 rintro _ _ ⟨lg5, rfl, hlg6, rfl⟩
 refine s_nt ?_
 refine k_cond lg5 (fun c7 => ?_) (fun c7 => ?_)
 ·
  refine k_sr ?_
  refine s_vcall (fun _ h => lives_s) ?_
  rintro _ rfl
  refine sp (.bool true) ?_
  refine s_nt ?_
  refine k_ret ?_
  refine xs_ret ?_
  exact xs_fin [.bool true] [] (SI.tmp 8 SI.nil) (fun _ h => h.re [] [0, 0, 0]) ⟨rfl, rfl⟩
 ·
  refine k_st ?_
  refine k_sr ?_
  refine sp lv ?_
  refine s_call [] (made_s hl0) ?_
  rintro _ _ ⟨hb8, gb9, lx10, rfl, rfl⟩
  refine s_fact (fun H h => ((Acc.own (T := VlT) (L := (made l).2) 2 rfl) H h).form) (fun hf11 => ?_)
  obtain ⟨hinv, hsm, hll⟩ := made_good l
  refine sp (.tuple #[.agg #[pB hb8 0, pB gb9 0, lx10], .bool true]) ?_
  refine sp (.agg #[pB hb8 0, pB gb9 0, lx10]) ?_
  refine sp (.bool true) ?_
  refine s_alloc (.agg #[.pointer none, .pointer none, (.slice none 0 0)]) #[.pointer none, .pointer none, (.slice none 0 0)] (fun g12 => ?_)
  refine s_store (u := .agg #[pB hb8 0, pB gb9 0, lx10]) (m := 3) 0 #[pB hb8 0, pB gb9 0, lx10] ?_ (hm := by (obtain ⟨_, _, e⟩ := hf11; rw [e]; rfl)) (h1 := by (obtain ⟨_, _, e⟩ := hf11; rw [e]; rfl)) (ha' := by (obtain ⟨_, _, e⟩ := hf11; rw [e]; rfl))
  refine sp (.bool true) ?_
  refine s_nt ?_
  refine k_seq ?_
  refine k_held [blkA g12 #[pB hb8 0, pB gb9 0, lx10] 35, own VlT lx10 ((made l).2), blkA g3 #[.int .i64 x.v.kind, .int .i64 x.v.p, .int .i64 x.v.q, .string x.v.str, .int .i64 x.v.ref, .int .i64 x.obj] 28, blkA g2 #[.int .i64 k.v.kind, .int .i64 k.v.p, .int .i64 k.v.q, .string k.v.str, .int .i64 k.v.ref, .int .i64 k.obj] 28, blkA g1 #[.int .i64 v.v.kind, .int .i64 v.v.p, .int .i64 v.v.q, .string v.v.str, .int .i64 v.v.ref, .int .i64 v.obj] 28] ?_
  refine h_l 0 rfl [0, 2, 2, 2, 2] (fun _ => (t_loadA 0 #[pB hb8 0, pB gb9 0, lx10])) ?_
  refine h_l 1 rfl [0, 2, 2, 2, 2] (fun _ => (t_loadA 4 #[.int .i64 v.v.kind, .int .i64 v.v.p, .int .i64 v.v.q, .string v.v.str, .int .i64 v.v.ref, .int .i64 v.obj])) ?_
  refine h_l 3 rfl [0, 2, 2, 2, 2] (fun _ => (t_loadA 0 #[pB hb8 0, pB gb9 0, lx10])) ?_
  refine h_l 4 rfl [0, 2, 2, 2, 2] (fun _ => (t_loadA 3 #[.int .i64 k.v.kind, .int .i64 k.v.p, .int .i64 k.v.q, .string k.v.str, .int .i64 k.v.ref, .int .i64 k.obj])) ?_
  refine h_l 6 rfl [0, 2, 2, 2, 2] (fun _ => (t_loadA 0 #[pB hb8 0, pB gb9 0, lx10])) ?_
  refine h_l 7 rfl [0, 2, 2, 2, 2] (fun _ => (t_loadA 2 #[.int .i64 x.v.kind, .int .i64 x.v.p, .int .i64 x.v.q, .string x.v.str, .int .i64 x.v.ref, .int .i64 x.obj])) ?_
  refine h_join (ι := Nat × Nat × Nat) 3 #[true, true, true, true, true, true, true, true, true, true, true, true, false, false, false] (fun (g13, g14, g15) => [(9, pB g12 0), (10, .bool true), (11, pB g13 0), (12, pB g14 0), (13, pB g15 0), (33, .agg #[.int .i64 ((ofS ((made l).2) v).kind), .int .i64 ((ofS ((made l).2) v).p), .int .i64 ((ofS ((made l).2) v).q), .string ((ofS ((made l).2) v).str), .int .i64 ((ofS ((made l).2) v).ref)]), (36, .agg #[.int .i64 ((ofS ((made l).2) k).kind), .int .i64 ((ofS ((made l).2) k).p), .int .i64 ((ofS ((made l).2) k).q), .string ((ofS ((made l).2) k).str), .int .i64 ((ofS ((made l).2) k).ref)]), (39, .agg #[.int .i64 ((ofS ((made l).2) x).kind), .int .i64 ((ofS ((made l).2) x).p), .int .i64 ((ofS ((made l).2) x).q), .string ((ofS ((made l).2) x).str), .int .i64 ((ofS ((made l).2) x).ref)])]) (fun (g13, g14, g15) => [blkA g15 #[.int .i64 0, .int .i64 0, .int .i64 0, .string ByteArray.empty, .int .i64 0] 26, blkA g14 #[.int .i64 0, .int .i64 0, .int .i64 0, .string ByteArray.empty, .int .i64 0] 26, blkA g13 #[.int .i64 0, .int .i64 0, .int .i64 0, .string ByteArray.empty, .int .i64 0] 26, own VlT lx10 ((made l).2), blkA g12 #[pB hb8 0, pB gb9 0, lx10] 35, hpA hb8 ((made l).1), rhA gb9 ((made l).1), blkA g3 #[.int .i64 x.v.kind, .int .i64 x.v.p, .int .i64 x.v.q, .string x.v.str, .int .i64 x.v.ref, .int .i64 x.obj] 28, blkA g2 #[.int .i64 k.v.kind, .int .i64 k.v.p, .int .i64 k.v.q, .string k.v.str, .int .i64 k.v.ref, .int .i64 k.obj] 28, blkA g1 #[.int .i64 v.v.kind, .int .i64 v.v.p, .int .i64 v.v.q, .string v.v.str, .int .i64 v.v.ref, .int .i64 v.obj] 28]) ?_ (fun hj61 => ?_)
  ·
   rintro ⟨g13, g14, g15⟩
   try dsimp only
   refine h_stepS 12 ?_
   refine s_store 2 #[.int .i64 ((ofS ((made l).2) v).kind), .int .i64 ((ofS ((made l).2) v).p), .int .i64 ((ofS ((made l).2) v).q), .string ((ofS ((made l).2) v).str), .int .i64 ((ofS ((made l).2) v).ref)] ?_
   refine s_nil (xs_held [4, 3, 5, 5, 5] ?_)
   refine h_stepS 13 ?_
   refine s_store 1 #[.int .i64 ((ofS ((made l).2) k).kind), .int .i64 ((ofS ((made l).2) k).p), .int .i64 ((ofS ((made l).2) k).q), .string ((ofS ((made l).2) k).str), .int .i64 ((ofS ((made l).2) k).ref)] ?_
   refine s_nil (xs_held [4, 3, 5, 5, 5] ?_)
   refine h_stepS 14 ?_
   refine s_store 0 #[.int .i64 ((ofS ((made l).2) x).kind), .int .i64 ((ofS ((made l).2) x).p), .int .i64 ((ofS ((made l).2) x).q), .string ((ofS ((made l).2) x).str), .int .i64 ((ofS ((made l).2) x).ref)] ?_
   refine s_nil (xs_held [4, 3, 5, 5, 5] ?_)
   refine h_doneS ?_
   refine xs_then ?_
   refine k_seq ?_
   refine k_seq ?_
   refine k_held [blkA g15 #[.int .i64 ((ofS ((made l).2) x).kind), .int .i64 ((ofS ((made l).2) x).p), .int .i64 ((ofS ((made l).2) x).q), .string ((ofS ((made l).2) x).str), .int .i64 ((ofS ((made l).2) x).ref)] 26, blkA g14 #[.int .i64 ((ofS ((made l).2) k).kind), .int .i64 ((ofS ((made l).2) k).p), .int .i64 ((ofS ((made l).2) k).q), .string ((ofS ((made l).2) k).str), .int .i64 ((ofS ((made l).2) k).ref)] 26, blkA g13 #[.int .i64 ((ofS ((made l).2) v).kind), .int .i64 ((ofS ((made l).2) v).p), .int .i64 ((ofS ((made l).2) v).q), .string ((ofS ((made l).2) v).str), .int .i64 ((ofS ((made l).2) v).ref)] 26, own VlT lx10 ((made l).2), blkA g12 #[pB hb8 0, pB gb9 0, lx10] 35, blkA g3 #[.int .i64 x.v.kind, .int .i64 x.v.p, .int .i64 x.v.q, .string x.v.str, .int .i64 x.v.ref, .int .i64 x.obj] 28, blkA g2 #[.int .i64 k.v.kind, .int .i64 k.v.p, .int .i64 k.v.q, .string k.v.str, .int .i64 k.v.ref, .int .i64 k.obj] 28, blkA g1 #[.int .i64 v.v.kind, .int .i64 v.v.p, .int .i64 v.v.q, .string v.v.str, .int .i64 v.v.ref, .int .i64 v.obj] 28] ?_
   refine hp_ 0 [0, 0, 0, 0, 0, 2, 2, 2] (.bool true) ?_
   refine hp_ 1 [0, 0, 0, 0, 0, 2, 2, 2] (.bool false) ?_
   refine hp_ 2 [0, 0, 0, 0, 0, 2, 2, 2] (.bool false) ?_
   refine hp_ 3 [0, 0, 0, 0, 0, 2, 2, 2] (pB g12 0) ?_
   refine h_l 4 rfl [0, 0, 0, 0, 0, 2, 2, 2] (fun _ => (t_load 4 (pB hb8 0))) ?_
   refine h_l 5 rfl [0, 0, 0, 0, 0, 2, 2, 2] (fun _ => (t_loadA 2 #[.int .i64 ((ofS ((made l).2) v).kind), .int .i64 ((ofS ((made l).2) v).p), .int .i64 ((ofS ((made l).2) v).q), .string ((ofS ((made l).2) v).str), .int .i64 ((ofS ((made l).2) v).ref)])) ?_
   refine h_l 6 rfl [0, 0, 0, 0, 0, 2, 2, 2] (fun _ => (t_loadA 1 #[.int .i64 ((ofS ((made l).2) k).kind), .int .i64 ((ofS ((made l).2) k).p), .int .i64 ((ofS ((made l).2) k).q), .string ((ofS ((made l).2) k).str), .int .i64 ((ofS ((made l).2) k).ref)])) ?_
   refine h_l 7 rfl [0, 0, 0, 0, 0, 2, 2, 2] (fun _ => (t_loadA 0 #[.int .i64 ((ofS ((made l).2) x).kind), .int .i64 ((ofS ((made l).2) x).p), .int .i64 ((ofS ((made l).2) x).q), .string ((ofS ((made l).2) x).str), .int .i64 ((ofS ((made l).2) x).ref)])) ?_
   refine hp_ 9 [0, 0, 0, 0, 0, 2, 2, 2] (pB g12 1) ?_
   refine h_l 10 rfl [0, 0, 0, 0, 0, 2, 2, 2] (fun _ => (t_load 4 (pB gb9 0))) ?_
   refine h_l 11 rfl [0, 0, 0, 0, 0, 2, 2, 2] (fun _ => (t_loadA 2 #[.int .i64 ((ofS ((made l).2) v).kind), .int .i64 ((ofS ((made l).2) v).p), .int .i64 ((ofS ((made l).2) v).q), .string ((ofS ((made l).2) v).str), .int .i64 ((ofS ((made l).2) v).ref)])) ?_
   refine h_l 12 rfl [0, 0, 0, 0, 0, 2, 2, 2] (fun _ => (t_loadA 1 #[.int .i64 ((ofS ((made l).2) k).kind), .int .i64 ((ofS ((made l).2) k).p), .int .i64 ((ofS ((made l).2) k).q), .string ((ofS ((made l).2) k).str), .int .i64 ((ofS ((made l).2) k).ref)])) ?_
   refine h_l 13 rfl [0, 0, 0, 0, 0, 2, 2, 2] (fun _ => (t_loadA 0 #[.int .i64 ((ofS ((made l).2) x).kind), .int .i64 ((ofS ((made l).2) x).p), .int .i64 ((ofS ((made l).2) x).q), .string ((ofS ((made l).2) x).str), .int .i64 ((ofS ((made l).2) x).ref)])) ?_
   refine h_stepS 8 ?_
   refine s_call [5] (assign_s (st := (made l).1) hsm (by omega) (ofS ((made l).2) v) (ofS ((made l).2) k) (ofS ((made l).2) x)) ?_
   rintro _ _ ⟨av62, rfl, rfl⟩
   refine s_fact (fun H h => ((Acc.own (T := VlT) (L := (asg ((made l).1) (ofS ((made l).2) k) (ofS ((made l).2) x) 32 (ofS ((made l).2) v)).args) 0 rfl) H h).form) (fun hf63 => ?_)
   have hg64 := asgS_good hinv hsm (ofS ((made l).2) k) (ofS ((made l).2) x) (ofS ((made l).2) v) 32
   refine s_nil (xs_held [2, 2, 2, 2, 2, 3, 3, 3] ?_)
   refine h_stepS 14 ?_
   refine s_call [7] (rassign_s (st := (made l).1) hsm (by omega) (ofS ((made l).2) v) (ofS ((made l).2) k) (ofS ((made l).2) x)) ?_
   rintro _ _ ⟨av65, rfl, rfl⟩
   refine s_fact (fun H h => ((Acc.own (T := VlT) (L := (asg ((made l).1) (ofS ((made l).2) k) (ofS ((made l).2) x) 32 (ofS ((made l).2) v)).args) 0 rfl) H h).form) (fun hf66 => ?_)
   refine s_nil (xs_held [4, 4, 4, 4, 4, 4, 4, 4] ?_)
   refine h_stepS 15 ?_
   refine s_call [2, 0] (same_s (asg ((made l).1) (ofS ((made l).2) k) (ofS ((made l).2) x) 32 (ofS ((made l).2) v))) ?_
   rintro _ _ ⟨rfl, rfl⟩
   refine s_nil (xs_held [4, 4, 4, 4, 4, 4, 4, 4] ?_)
   refine hp_ 16 [4, 4, 4, 4, 4, 4, 4, 4] (.bool false) ?_
   refine hp_ 17 [4, 4, 4, 4, 4, 4, 4, 4] (.bool false) ?_
   refine h_doneS ?_
   refine xs_then ?_
   refine k_false ?_
   refine k_st ?_
   refine k_seq ?_
   refine k_sr ?_
   refine sp (.int .i64 0) ?_
   refine s_nt ?_
   refine k_block ?_
   refine k_loop (ι := Nat) (fun i => i ≤ (made l).2.length) (fun i => [(9, pB g12 0), (12, pB g14 0), (14, .int .i64 (i : Int))]) (fun i => [own VlT av62 ((asg ((made l).1) (ofS ((made l).2) k) (ofS ((made l).2) x) 32 (ofS ((made l).2) v)).args), own VlT av65 ((asg ((made l).1) (ofS ((made l).2) k) (ofS ((made l).2) x) 32 (ofS ((made l).2) v)).args), rhA gb9 (asgS ((made l).1) (ofS ((made l).2) k) (ofS ((made l).2) x) 32 (ofS ((made l).2) v)), hpA hb8 (asgS ((made l).1) (ofS ((made l).2) k) (ofS ((made l).2) x) 32 (ofS ((made l).2) v)), blkA g15 #[.int .i64 ((ofS ((made l).2) x).kind), .int .i64 ((ofS ((made l).2) x).p), .int .i64 ((ofS ((made l).2) x).q), .string ((ofS ((made l).2) x).str), .int .i64 ((ofS ((made l).2) x).ref)] 26, blkA g14 #[.int .i64 ((ofS ((made l).2) k).kind), .int .i64 ((ofS ((made l).2) k).p), .int .i64 ((ofS ((made l).2) k).q), .string ((ofS ((made l).2) k).str), .int .i64 ((ofS ((made l).2) k).ref)] 26, blkA g13 #[.int .i64 ((ofS ((made l).2) v).kind), .int .i64 ((ofS ((made l).2) v).p), .int .i64 ((ofS ((made l).2) v).q), .string ((ofS ((made l).2) v).str), .int .i64 ((ofS ((made l).2) v).ref)] 26, own VlT lx10 ((made l).2), blkA g12 #[pB hb8 0, pB gb9 0, lx10] 35, blkA g3 #[.int .i64 x.v.kind, .int .i64 x.v.p, .int .i64 x.v.q, .string x.v.str, .int .i64 x.v.ref, .int .i64 x.obj] 28, blkA g2 #[.int .i64 k.v.kind, .int .i64 k.v.p, .int .i64 k.v.q, .string k.v.str, .int .i64 k.v.ref, .int .i64 k.obj] 28, blkA g1 #[.int .i64 v.v.kind, .int .i64 v.v.p, .int .i64 v.v.q, .string v.v.str, .int .i64 v.v.ref, .int .i64 v.obj] 28]) (fun i => (made l).2.length - i) 0 (by omega) (sub_of rfl ⟨⟨rfl, rfl⟩, ⟨⟨rfl, rfl⟩, ⟨⟨rfl, rfl⟩, trivial⟩⟩⟩) (fun _ h => h.re [0, 0, 0, 0, 0, 0, 0, 0, 0, 0, 0, 0] []) ?_
   rintro i hi67
   show SK _ _ _ _ _ [(9, .pointer (some ⟨g12, 0, none⟩)), (12, .pointer (some ⟨g14, 0, none⟩)), (14, .int .i64 (i : Int))] _ [own VlT av62 ((asg ((made l).1) (ofS ((made l).2) k) (ofS ((made l).2) x) 32 (ofS ((made l).2) v)).args), own VlT av65 ((asg ((made l).1) (ofS ((made l).2) k) (ofS ((made l).2) x) 32 (ofS ((made l).2) v)).args), rhA gb9 (asgS ((made l).1) (ofS ((made l).2) k) (ofS ((made l).2) x) 32 (ofS ((made l).2) v)), hpA hb8 (asgS ((made l).1) (ofS ((made l).2) k) (ofS ((made l).2) x) 32 (ofS ((made l).2) v)), blkA g15 #[.int .i64 ((ofS ((made l).2) x).kind), .int .i64 ((ofS ((made l).2) x).p), .int .i64 ((ofS ((made l).2) x).q), .string ((ofS ((made l).2) x).str), .int .i64 ((ofS ((made l).2) x).ref)] 26, blkA g14 #[.int .i64 ((ofS ((made l).2) k).kind), .int .i64 ((ofS ((made l).2) k).p), .int .i64 ((ofS ((made l).2) k).q), .string ((ofS ((made l).2) k).str), .int .i64 ((ofS ((made l).2) k).ref)] 26, blkA g13 #[.int .i64 ((ofS ((made l).2) v).kind), .int .i64 ((ofS ((made l).2) v).p), .int .i64 ((ofS ((made l).2) v).q), .string ((ofS ((made l).2) v).str), .int .i64 ((ofS ((made l).2) v).ref)] 26, own VlT lx10 ((made l).2), blkA g12 #[.pointer (some ⟨hb8, 0, none⟩), .pointer (some ⟨gb9, 0, none⟩), lx10] 35, blkA g3 #[.int .i64 x.v.kind, .int .i64 x.v.p, .int .i64 x.v.q, .string x.v.str, .int .i64 x.v.ref, .int .i64 x.obj] 28, blkA g2 #[.int .i64 k.v.kind, .int .i64 k.v.p, .int .i64 k.v.q, .string k.v.str, .int .i64 k.v.ref, .int .i64 k.obj] 28, blkA g1 #[.int .i64 v.v.kind, .int .i64 v.v.p, .int .i64 v.v.q, .string v.v.str, .int .i64 v.v.ref, .int .i64 v.obj] 28]
   refine k_seq ?_
   refine k_sr ?_
   refine sp (.int .i64 (i : Int)) ?_
   refine sp (pB g12 2) ?_
   refine s_lt (t_load 8 lx10) ?_
   refine s_lt (t_len VlT_ok Try.underlying33 (.own 7)) ?_
   refine s_lt t_cmp ?_
   refine s_nt ?_
   refine k_cond (decide ((i : Int) < (((made l).2).length : Int))) (fun c68 => ?_) (fun c68 => ?_)
   ·
    have p69 := of_decide_eq_true c68
    refine k_st ?_
    refine k_seq ?_
    refine k_block ?_
    refine k_seq ?_
    refine k_held [own VlT av62 ((asg ((made l).1) (ofS ((made l).2) k) (ofS ((made l).2) x) 32 (ofS ((made l).2) v)).args), own VlT av65 ((asg ((made l).1) (ofS ((made l).2) k) (ofS ((made l).2) x) 32 (ofS ((made l).2) v)).args), blkA g15 #[.int .i64 ((ofS ((made l).2) x).kind), .int .i64 ((ofS ((made l).2) x).p), .int .i64 ((ofS ((made l).2) x).q), .string ((ofS ((made l).2) x).str), .int .i64 ((ofS ((made l).2) x).ref)] 26, blkA g14 #[.int .i64 ((ofS ((made l).2) k).kind), .int .i64 ((ofS ((made l).2) k).p), .int .i64 ((ofS ((made l).2) k).q), .string ((ofS ((made l).2) k).str), .int .i64 ((ofS ((made l).2) k).ref)] 26, blkA g13 #[.int .i64 ((ofS ((made l).2) v).kind), .int .i64 ((ofS ((made l).2) v).p), .int .i64 ((ofS ((made l).2) v).q), .string ((ofS ((made l).2) v).str), .int .i64 ((ofS ((made l).2) v).ref)] 26, own VlT lx10 ((made l).2), blkA g12 #[pB hb8 0, pB gb9 0, lx10] 35, blkA g3 #[.int .i64 x.v.kind, .int .i64 x.v.p, .int .i64 x.v.q, .string x.v.str, .int .i64 x.v.ref, .int .i64 x.obj] 28, blkA g2 #[.int .i64 k.v.kind, .int .i64 k.v.p, .int .i64 k.v.q, .string k.v.str, .int .i64 k.v.ref, .int .i64 k.obj] 28, blkA g1 #[.int .i64 v.v.kind, .int .i64 v.v.p, .int .i64 v.v.q, .string v.v.str, .int .i64 v.v.ref, .int .i64 v.obj] 28] ?_
    refine hp_ 0 [0, 0, 2, 2, 2, 2, 2, 2, 2, 2] (pB g12 0) ?_
    refine h_l 1 rfl [0, 0, 2, 2, 2, 2, 2, 2, 2, 2] (fun _ => (t_load 6 (pB hb8 0))) ?_
    refine hp_ 2 [0, 0, 2, 2, 2, 2, 2, 2, 2, 2] (pB g12 2) ?_
    refine h_l 3 rfl [0, 0, 2, 2, 2, 2, 2, 2, 2, 2] (fun _ => (t_load 6 lx10)) ?_
    refine hp_ 4 [0, 0, 2, 2, 2, 2, 2, 2, 2, 2] (.int .i64 (i : Int)) ?_
    refine h_l 5 rfl [0, 0, 2, 2, 2, 2, 2, 2, 2, 2] (fun _ => (t_index VlT_ok Try.underlying33 (.own 5) (i : Int) i (by omega) (by (try simp only [lnm]); omega) (by omega))) ?_
    obtain ⟨y70, hy71⟩ : ∃ y, ((made l).2)[i]? = some y := ⟨_, List.getElem?_eq_getElem (by (try simp only [lnm]); omega)⟩
    refine h_l 6 rfl [0, 0, 2, 2, 2, 2, 2, 2, 2, 2] (fun _ => (t_loadE VlT_ok (.own 5) hy71)) ?_
    refine h_l 7 rfl [0, 0, 2, 2, 2, 2, 2, 2, 2, 2] (fun _ => (t_loadA 3 #[.int .i64 ((ofS ((made l).2) k).kind), .int .i64 ((ofS ((made l).2) k).p), .int .i64 ((ofS ((made l).2) k).q), .string ((ofS ((made l).2) k).str), .int .i64 ((ofS ((made l).2) k).ref)])) ?_
    refine h_join (ι := Nat) 2 #[true, true, true, true, true, true, true, true, true, true, true, true, true, false, false] (fun g72 => [(9, pB g12 0), (12, pB g14 0), (14, .int .i64 (i : Int)), (15, pB g72 0), (75, .agg #[.int .i64 ((hgetV (asgS ((made l).1) (ofS ((made l).2) k) (ofS ((made l).2) x) 32 (ofS ((made l).2) v)) y70 (ofS ((made l).2) k)).kind), .int .i64 ((hgetV (asgS ((made l).1) (ofS ((made l).2) k) (ofS ((made l).2) x) 32 (ofS ((made l).2) v)) y70 (ofS ((made l).2) k)).p), .int .i64 ((hgetV (asgS ((made l).1) (ofS ((made l).2) k) (ofS ((made l).2) x) 32 (ofS ((made l).2) v)) y70 (ofS ((made l).2) k)).q), .string ((hgetV (asgS ((made l).1) (ofS ((made l).2) k) (ofS ((made l).2) x) 32 (ofS ((made l).2) v)) y70 (ofS ((made l).2) k)).str), .int .i64 ((hgetV (asgS ((made l).1) (ofS ((made l).2) k) (ofS ((made l).2) x) 32 (ofS ((made l).2) v)) y70 (ofS ((made l).2) k)).ref)]), (76, .int .i64 (hgetE (asgS ((made l).1) (ofS ((made l).2) k) (ofS ((made l).2) x) 32 (ofS ((made l).2) v)) y70))]) (fun g72 => [blkA g72 #[.int .i64 0, .int .i64 0, .int .i64 0, .string ByteArray.empty, .int .i64 0] 26, hpA hb8 (asgS ((made l).1) (ofS ((made l).2) k) (ofS ((made l).2) x) 32 (ofS ((made l).2) v)), own VlT av62 ((asg ((made l).1) (ofS ((made l).2) k) (ofS ((made l).2) x) 32 (ofS ((made l).2) v)).args), own VlT av65 ((asg ((made l).1) (ofS ((made l).2) k) (ofS ((made l).2) x) 32 (ofS ((made l).2) v)).args), rhA gb9 (asgS ((made l).1) (ofS ((made l).2) k) (ofS ((made l).2) x) 32 (ofS ((made l).2) v)), blkA g15 #[.int .i64 ((ofS ((made l).2) x).kind), .int .i64 ((ofS ((made l).2) x).p), .int .i64 ((ofS ((made l).2) x).q), .string ((ofS ((made l).2) x).str), .int .i64 ((ofS ((made l).2) x).ref)] 26, blkA g14 #[.int .i64 ((ofS ((made l).2) k).kind), .int .i64 ((ofS ((made l).2) k).p), .int .i64 ((ofS ((made l).2) k).q), .string ((ofS ((made l).2) k).str), .int .i64 ((ofS ((made l).2) k).ref)] 26, blkA g13 #[.int .i64 ((ofS ((made l).2) v).kind), .int .i64 ((ofS ((made l).2) v).p), .int .i64 ((ofS ((made l).2) v).q), .string ((ofS ((made l).2) v).str), .int .i64 ((ofS ((made l).2) v).ref)] 26, own VlT lx10 ((made l).2), blkA g12 #[pB hb8 0, pB gb9 0, lx10] 35, blkA g3 #[.int .i64 x.v.kind, .int .i64 x.v.p, .int .i64 x.v.q, .string x.v.str, .int .i64 x.v.ref, .int .i64 x.obj] 28, blkA g2 #[.int .i64 k.v.kind, .int .i64 k.v.p, .int .i64 k.v.q, .string k.v.str, .int .i64 k.v.ref, .int .i64 k.obj] 28, blkA g1 #[.int .i64 v.v.kind, .int .i64 v.v.p, .int .i64 v.v.q, .string v.v.str, .int .i64 v.v.ref, .int .i64 v.obj] 28]) ?_ (fun hj74 => ?_)
    ·
     rintro g72
     try dsimp only
     refine h_stepS 13 ?_
     refine s_store 0 #[.int .i64 ((hgetV (asgS ((made l).1) (ofS ((made l).2) k) (ofS ((made l).2) x) 32 (ofS ((made l).2) v)) y70 (ofS ((made l).2) k)).kind), .int .i64 ((hgetV (asgS ((made l).1) (ofS ((made l).2) k) (ofS ((made l).2) x) 32 (ofS ((made l).2) v)) y70 (ofS ((made l).2) k)).p), .int .i64 ((hgetV (asgS ((made l).1) (ofS ((made l).2) k) (ofS ((made l).2) x) 32 (ofS ((made l).2) v)) y70 (ofS ((made l).2) k)).q), .string ((hgetV (asgS ((made l).1) (ofS ((made l).2) k) (ofS ((made l).2) x) 32 (ofS ((made l).2) v)) y70 (ofS ((made l).2) k)).str), .int .i64 ((hgetV (asgS ((made l).1) (ofS ((made l).2) k) (ofS ((made l).2) x) 32 (ofS ((made l).2) v)) y70 (ofS ((made l).2) k)).ref)] ?_
     refine s_nil (xs_held [2, 2, 3, 3, 3, 3, 3, 3, 3, 3] ?_)
     refine hp_ 14 [2, 2, 3, 3, 3, 3, 3, 3, 3, 3] (.int .i64 (hgetE (asgS ((made l).1) (ofS ((made l).2) k) (ofS ((made l).2) x) 32 (ofS ((made l).2) v)) y70)) ?_
     refine h_doneS ?_
     refine xs_then ?_
     refine k_seq ?_
     refine k_held [blkA g72 #[.int .i64 ((hgetV (asgS ((made l).1) (ofS ((made l).2) k) (ofS ((made l).2) x) 32 (ofS ((made l).2) v)) y70 (ofS ((made l).2) k)).kind), .int .i64 ((hgetV (asgS ((made l).1) (ofS ((made l).2) k) (ofS ((made l).2) x) 32 (ofS ((made l).2) v)) y70 (ofS ((made l).2) k)).p), .int .i64 ((hgetV (asgS ((made l).1) (ofS ((made l).2) k) (ofS ((made l).2) x) 32 (ofS ((made l).2) v)) y70 (ofS ((made l).2) k)).q), .string ((hgetV (asgS ((made l).1) (ofS ((made l).2) k) (ofS ((made l).2) x) 32 (ofS ((made l).2) v)) y70 (ofS ((made l).2) k)).str), .int .i64 ((hgetV (asgS ((made l).1) (ofS ((made l).2) k) (ofS ((made l).2) x) 32 (ofS ((made l).2) v)) y70 (ofS ((made l).2) k)).ref)] 26, own VlT av62 ((asg ((made l).1) (ofS ((made l).2) k) (ofS ((made l).2) x) 32 (ofS ((made l).2) v)).args), own VlT av65 ((asg ((made l).1) (ofS ((made l).2) k) (ofS ((made l).2) x) 32 (ofS ((made l).2) v)).args), blkA g15 #[.int .i64 ((ofS ((made l).2) x).kind), .int .i64 ((ofS ((made l).2) x).p), .int .i64 ((ofS ((made l).2) x).q), .string ((ofS ((made l).2) x).str), .int .i64 ((ofS ((made l).2) x).ref)] 26, blkA g14 #[.int .i64 ((ofS ((made l).2) k).kind), .int .i64 ((ofS ((made l).2) k).p), .int .i64 ((ofS ((made l).2) k).q), .string ((ofS ((made l).2) k).str), .int .i64 ((ofS ((made l).2) k).ref)] 26, blkA g13 #[.int .i64 ((ofS ((made l).2) v).kind), .int .i64 ((ofS ((made l).2) v).p), .int .i64 ((ofS ((made l).2) v).q), .string ((ofS ((made l).2) v).str), .int .i64 ((ofS ((made l).2) v).ref)] 26, own VlT lx10 ((made l).2), blkA g12 #[pB hb8 0, pB gb9 0, lx10] 35, blkA g3 #[.int .i64 x.v.kind, .int .i64 x.v.p, .int .i64 x.v.q, .string x.v.str, .int .i64 x.v.ref, .int .i64 x.obj] 28, blkA g2 #[.int .i64 k.v.kind, .int .i64 k.v.p, .int .i64 k.v.q, .string k.v.str, .int .i64 k.v.ref, .int .i64 k.obj] 28, blkA g1 #[.int .i64 v.v.kind, .int .i64 v.v.p, .int .i64 v.v.q, .string v.v.str, .int .i64 v.v.ref, .int .i64 v.obj] 28] ?_
     refine hp_ 0 [0, 1, 1, 2, 2, 2, 2, 2, 2, 2, 2] (pB g12 1) ?_
     refine h_l 1 rfl [0, 1, 1, 2, 2, 2, 2, 2, 2, 2, 2] (fun _ => (t_load 7 (pB gb9 0))) ?_
     refine hp_ 2 [0, 1, 1, 2, 2, 2, 2, 2, 2, 2, 2] (pB g12 2) ?_
     refine h_l 3 rfl [0, 1, 1, 2, 2, 2, 2, 2, 2, 2, 2] (fun _ => (t_load 7 lx10)) ?_
     refine hp_ 4 [0, 1, 1, 2, 2, 2, 2, 2, 2, 2, 2] (.int .i64 (i : Int)) ?_
     refine h_l 5 rfl [0, 1, 1, 2, 2, 2, 2, 2, 2, 2, 2] (fun _ => (t_index VlT_ok Try.underlying33 (.own 6) (i : Int) i (by omega) (by (try simp only [lnm]); omega) (by omega))) ?_
     refine h_l 6 rfl [0, 1, 1, 2, 2, 2, 2, 2, 2, 2, 2] (fun _ => (t_loadE VlT_ok (.own 6) hy71)) ?_
     refine h_l 7 rfl [0, 1, 1, 2, 2, 2, 2, 2, 2, 2, 2] (fun _ => (t_loadA 4 #[.int .i64 ((ofS ((made l).2) k).kind), .int .i64 ((ofS ((made l).2) k).p), .int .i64 ((ofS ((made l).2) k).q), .string ((ofS ((made l).2) k).str), .int .i64 ((ofS ((made l).2) k).ref)])) ?_
     refine h_join (ι := Nat) 2 #[true, true, true, true, true, true, true, true, true, true, true, true, true, false, false] (fun g75 => [(9, pB g12 0), (12, pB g14 0), (14, .int .i64 (i : Int)), (15, pB g72 0), (16, .int .i64 (hgetE (asgS ((made l).1) (ofS ((made l).2) k) (ofS ((made l).2) x) 32 (ofS ((made l).2) v)) y70)), (17, pB g75 0), (87, .agg #[.int .i64 ((hgetV (asgS ((made l).1) (ofS ((made l).2) k) (ofS ((made l).2) x) 32 (ofS ((made l).2) v)) y70 (ofS ((made l).2) k)).kind), .int .i64 ((hgetV (asgS ((made l).1) (ofS ((made l).2) k) (ofS ((made l).2) x) 32 (ofS ((made l).2) v)) y70 (ofS ((made l).2) k)).p), .int .i64 ((hgetV (asgS ((made l).1) (ofS ((made l).2) k) (ofS ((made l).2) x) 32 (ofS ((made l).2) v)) y70 (ofS ((made l).2) k)).q), .string ((hgetV (asgS ((made l).1) (ofS ((made l).2) k) (ofS ((made l).2) x) 32 (ofS ((made l).2) v)) y70 (ofS ((made l).2) k)).str), .int .i64 ((hgetV (asgS ((made l).1) (ofS ((made l).2) k) (ofS ((made l).2) x) 32 (ofS ((made l).2) v)) y70 (ofS ((made l).2) k)).ref)]), (88, .int .i64 (hgetE (asgS ((made l).1) (ofS ((made l).2) k) (ofS ((made l).2) x) 32 (ofS ((made l).2) v)) y70))]) (fun g75 => [blkA g75 #[.int .i64 0, .int .i64 0, .int .i64 0, .string ByteArray.empty, .int .i64 0] 26, rhA gb9 (asgS ((made l).1) (ofS ((made l).2) k) (ofS ((made l).2) x) 32 (ofS ((made l).2) v)), blkA g72 #[.int .i64 ((hgetV (asgS ((made l).1) (ofS ((made l).2) k) (ofS ((made l).2) x) 32 (ofS ((made l).2) v)) y70 (ofS ((made l).2) k)).kind), .int .i64 ((hgetV (asgS ((made l).1) (ofS ((made l).2) k) (ofS ((made l).2) x) 32 (ofS ((made l).2) v)) y70 (ofS ((made l).2) k)).p), .int .i64 ((hgetV (asgS ((made l).1) (ofS ((made l).2) k) (ofS ((made l).2) x) 32 (ofS ((made l).2) v)) y70 (ofS ((made l).2) k)).q), .string ((hgetV (asgS ((made l).1) (ofS ((made l).2) k) (ofS ((made l).2) x) 32 (ofS ((made l).2) v)) y70 (ofS ((made l).2) k)).str), .int .i64 ((hgetV (asgS ((made l).1) (ofS ((made l).2) k) (ofS ((made l).2) x) 32 (ofS ((made l).2) v)) y70 (ofS ((made l).2) k)).ref)] 26, hpA hb8 (asgS ((made l).1) (ofS ((made l).2) k) (ofS ((made l).2) x) 32 (ofS ((made l).2) v)), own VlT av62 ((asg ((made l).1) (ofS ((made l).2) k) (ofS ((made l).2) x) 32 (ofS ((made l).2) v)).args), own VlT av65 ((asg ((made l).1) (ofS ((made l).2) k) (ofS ((made l).2) x) 32 (ofS ((made l).2) v)).args), blkA g15 #[.int .i64 ((ofS ((made l).2) x).kind), .int .i64 ((ofS ((made l).2) x).p), .int .i64 ((ofS ((made l).2) x).q), .string ((ofS ((made l).2) x).str), .int .i64 ((ofS ((made l).2) x).ref)] 26, blkA g14 #[.int .i64 ((ofS ((made l).2) k).kind), .int .i64 ((ofS ((made l).2) k).p), .int .i64 ((ofS ((made l).2) k).q), .string ((ofS ((made l).2) k).str), .int .i64 ((ofS ((made l).2) k).ref)] 26, blkA g13 #[.int .i64 ((ofS ((made l).2) v).kind), .int .i64 ((ofS ((made l).2) v).p), .int .i64 ((ofS ((made l).2) v).q), .string ((ofS ((made l).2) v).str), .int .i64 ((ofS ((made l).2) v).ref)] 26, own VlT lx10 ((made l).2), blkA g12 #[pB hb8 0, pB gb9 0, lx10] 35, blkA g3 #[.int .i64 x.v.kind, .int .i64 x.v.p, .int .i64 x.v.q, .string x.v.str, .int .i64 x.v.ref, .int .i64 x.obj] 28, blkA g2 #[.int .i64 k.v.kind, .int .i64 k.v.p, .int .i64 k.v.q, .string k.v.str, .int .i64 k.v.ref, .int .i64 k.obj] 28, blkA g1 #[.int .i64 v.v.kind, .int .i64 v.v.p, .int .i64 v.v.q, .string v.v.str, .int .i64 v.v.ref, .int .i64 v.obj] 28]) ?_ (fun hj77 => ?_)
     ·
      rintro g75
      try dsimp only
      refine h_stepS 13 ?_
      refine s_store 0 #[.int .i64 ((hgetV (asgS ((made l).1) (ofS ((made l).2) k) (ofS ((made l).2) x) 32 (ofS ((made l).2) v)) y70 (ofS ((made l).2) k)).kind), .int .i64 ((hgetV (asgS ((made l).1) (ofS ((made l).2) k) (ofS ((made l).2) x) 32 (ofS ((made l).2) v)) y70 (ofS ((made l).2) k)).p), .int .i64 ((hgetV (asgS ((made l).1) (ofS ((made l).2) k) (ofS ((made l).2) x) 32 (ofS ((made l).2) v)) y70 (ofS ((made l).2) k)).q), .string ((hgetV (asgS ((made l).1) (ofS ((made l).2) k) (ofS ((made l).2) x) 32 (ofS ((made l).2) v)) y70 (ofS ((made l).2) k)).str), .int .i64 ((hgetV (asgS ((made l).1) (ofS ((made l).2) k) (ofS ((made l).2) x) 32 (ofS ((made l).2) v)) y70 (ofS ((made l).2) k)).ref)] ?_
      refine s_nil (xs_held [2, 3, 3, 3, 3, 3, 3, 3, 3, 3, 3] ?_)
      refine hp_ 14 [2, 3, 3, 3, 3, 3, 3, 3, 3, 3, 3] (.int .i64 (hgetE (asgS ((made l).1) (ofS ((made l).2) k) (ofS ((made l).2) x) 32 (ofS ((made l).2) v)) y70)) ?_
      refine h_doneS ?_
      refine xs_then ?_
      refine k_sr ?_
      refine s_lt (t_loadA 2 #[.int .i64 ((hgetV (asgS ((made l).1) (ofS ((made l).2) k) (ofS ((made l).2) x) 32 (ofS ((made l).2) v)) y70 (ofS ((made l).2) k)).kind), .int .i64 ((hgetV (asgS ((made l).1) (ofS ((made l).2) k) (ofS ((made l).2) x) 32 (ofS ((made l).2) v)) y70 (ofS ((made l).2) k)).p), .int .i64 ((hgetV (asgS ((made l).1) (ofS ((made l).2) k) (ofS ((made l).2) x) 32 (ofS ((made l).2) v)) y70 (ofS ((made l).2) k)).q), .string ((hgetV (asgS ((made l).1) (ofS ((made l).2) k) (ofS ((made l).2) x) 32 (ofS ((made l).2) v)) y70 (ofS ((made l).2) k)).str), .int .i64 ((hgetV (asgS ((made l).1) (ofS ((made l).2) k) (ofS ((made l).2) x) 32 (ofS ((made l).2) v)) y70 (ofS ((made l).2) k)).ref)]) ?_
      refine s_lt (t_loadA 0 #[.int .i64 ((hgetV (asgS ((made l).1) (ofS ((made l).2) k) (ofS ((made l).2) x) 32 (ofS ((made l).2) v)) y70 (ofS ((made l).2) k)).kind), .int .i64 ((hgetV (asgS ((made l).1) (ofS ((made l).2) k) (ofS ((made l).2) x) 32 (ofS ((made l).2) v)) y70 (ofS ((made l).2) k)).p), .int .i64 ((hgetV (asgS ((made l).1) (ofS ((made l).2) k) (ofS ((made l).2) x) 32 (ofS ((made l).2) v)) y70 (ofS ((made l).2) k)).q), .string ((hgetV (asgS ((made l).1) (ofS ((made l).2) k) (ofS ((made l).2) x) 32 (ofS ((made l).2) v)) y70 (ofS ((made l).2) k)).str), .int .i64 ((hgetV (asgS ((made l).1) (ofS ((made l).2) k) (ofS ((made l).2) x) 32 (ofS ((made l).2) v)) y70 (ofS ((made l).2) k)).ref)]) ?_
      refine s_lt (Lt.to (t_eqS (fun w => (eqVlT (hgetV (asgS ((made l).1) (ofS ((made l).2) k) (ofS ((made l).2) x) 32 (ofS ((made l).2) v)) y70 (ofS ((made l).2) k)) (hgetV (asgS ((made l).1) (ofS ((made l).2) k) (ofS ((made l).2) x) 32 (ofS ((made l).2) v)) y70 (ofS ((made l).2) k)) w).2)) (congrArg Value.bool ((congrArg Bool.not (decide_eq_true rfl : (decide ((hgetV (asgS ((made l).1) (ofS ((made l).2) k) (ofS ((made l).2) x) 32 (ofS ((made l).2) v)) y70 (ofS ((made l).2) k)) = (hgetV (asgS ((made l).1) (ofS ((made l).2) k) (ofS ((made l).2) x) 32 (ofS ((made l).2) v)) y70 (ofS ((made l).2) k)))) = true)).trans rfl : (!(decide ((hgetV (asgS ((made l).1) (ofS ((made l).2) k) (ofS ((made l).2) x) 32 (ofS ((made l).2) v)) y70 (ofS ((made l).2) k)) = (hgetV (asgS ((made l).1) (ofS ((made l).2) k) (ofS ((made l).2) x) 32 (ofS ((made l).2) v)) y70 (ofS ((made l).2) k))))) = false))) ?_
      refine sp (.bool false) ?_
      refine sp (.int .i64 (hgetE (asgS ((made l).1) (ofS ((made l).2) k) (ofS ((made l).2) x) 32 (ofS ((made l).2) v)) y70)) ?_
      refine sp (.int .i64 (hgetE (asgS ((made l).1) (ofS ((made l).2) k) (ofS ((made l).2) x) 32 (ofS ((made l).2) v)) y70)) ?_
      refine s_lt (Lt.to t_cmp (congrArg Value.bool (decide_eq_false (fun h => h rfl) : (decide ((hgetE (asgS ((made l).1) (ofS ((made l).2) k) (ofS ((made l).2) x) 32 (ofS ((made l).2) v)) y70) ≠ (hgetE (asgS ((made l).1) (ofS ((made l).2) k) (ofS ((made l).2) x) 32 (ofS ((made l).2) v)) y70))) = false))) ?_
      refine sp (.bool false) ?_
      refine s_nt ?_
      refine k_false ?_
      refine k_skip ?_
      refine xs_block ?_
      refine xs_then ?_
      refine k_reg ?_
      refine sp (.int .i64 (i : Int)) ?_
      refine s_lt (t_add (i : Int) 1 (by (try simp only [lnm]); omega)) ?_
      refine sp (.int .i64 ((i : Int) + 1)) ?_
      refine s_nil ?_
      exact xs_round (i + 1) (by omega) (by omega) (sub_of rfl ⟨⟨rfl, rfl⟩, ⟨⟨rfl, rfl⟩, ⟨⟨rfl, rfl⟩, trivial⟩⟩⟩) (fun _ h => h.re [4, 4, 1, 2, 2, 2, 2, 2, 2, 2, 2, 2] [12, 12])
     refine h_stepS2 8 12 ?_ ?_
     ·
      refine s_call [4] (rhget_s (st := (asgS ((made l).1) (ofS ((made l).2) k) (ofS ((made l).2) x) 32 (ofS ((made l).2) v))) hg64.2 (by omega) y70 (ofS ((made l).2) k)) ?_
      rintro _ _ ⟨rfl, rfl⟩
      refine s_nil (xs_held [1, 2, 2, 2, 2, 2, 2, 2, 2, 2, 2] ?_)
      refine hp_ 9 [1, 2, 2, 2, 2, 2, 2, 2, 2, 2, 2] (.tuple #[.agg #[.int .i64 ((hgetV (asgS ((made l).1) (ofS ((made l).2) k) (ofS ((made l).2) x) 32 (ofS ((made l).2) v)) y70 (ofS ((made l).2) k)).kind), .int .i64 ((hgetV (asgS ((made l).1) (ofS ((made l).2) k) (ofS ((made l).2) x) 32 (ofS ((made l).2) v)) y70 (ofS ((made l).2) k)).p), .int .i64 ((hgetV (asgS ((made l).1) (ofS ((made l).2) k) (ofS ((made l).2) x) 32 (ofS ((made l).2) v)) y70 (ofS ((made l).2) k)).q), .string ((hgetV (asgS ((made l).1) (ofS ((made l).2) k) (ofS ((made l).2) x) 32 (ofS ((made l).2) v)) y70 (ofS ((made l).2) k)).str), .int .i64 ((hgetV (asgS ((made l).1) (ofS ((made l).2) k) (ofS ((made l).2) x) 32 (ofS ((made l).2) v)) y70 (ofS ((made l).2) k)).ref)], .int .i64 (hgetE (asgS ((made l).1) (ofS ((made l).2) k) (ofS ((made l).2) x) 32 (ofS ((made l).2) v)) y70)]) ?_
      refine hp_ 10 [1, 2, 2, 2, 2, 2, 2, 2, 2, 2, 2] (.agg #[.int .i64 ((hgetV (asgS ((made l).1) (ofS ((made l).2) k) (ofS ((made l).2) x) 32 (ofS ((made l).2) v)) y70 (ofS ((made l).2) k)).kind), .int .i64 ((hgetV (asgS ((made l).1) (ofS ((made l).2) k) (ofS ((made l).2) x) 32 (ofS ((made l).2) v)) y70 (ofS ((made l).2) k)).p), .int .i64 ((hgetV (asgS ((made l).1) (ofS ((made l).2) k) (ofS ((made l).2) x) 32 (ofS ((made l).2) v)) y70 (ofS ((made l).2) k)).q), .string ((hgetV (asgS ((made l).1) (ofS ((made l).2) k) (ofS ((made l).2) x) 32 (ofS ((made l).2) v)) y70 (ofS ((made l).2) k)).str), .int .i64 ((hgetV (asgS ((made l).1) (ofS ((made l).2) k) (ofS ((made l).2) x) 32 (ofS ((made l).2) v)) y70 (ofS ((made l).2) k)).ref)]) ?_
      refine hp_ 11 [1, 2, 2, 2, 2, 2, 2, 2, 2, 2, 2] (.int .i64 (hgetE (asgS ((made l).1) (ofS ((made l).2) k) (ofS ((made l).2) x) 32 (ofS ((made l).2) v)) y70)) ?_
      refine h_stepS 12 ?_
      refine s_alloc (.agg #[.int .i64 0, .int .i64 0, .int .i64 0, .string ByteArray.empty, .int .i64 0]) #[.int .i64 0, .int .i64 0, .int .i64 0, .string ByteArray.empty, .int .i64 0] (fun g78 => ?_)
      refine s_nil (xs_held [2, 3, 3, 3, 3, 3, 3, 3, 3, 3, 3] ?_)
      exact h_use hj77 g78 (fun _ h => h.re [0, 0, 0, 0, 0, 0, 0, 0, 0, 0, 0, 0, 0, 0] [])
     ·
      refine s_alloc (.agg #[.int .i64 0, .int .i64 0, .int .i64 0, .string ByteArray.empty, .int .i64 0]) #[.int .i64 0, .int .i64 0, .int .i64 0, .string ByteArray.empty, .int .i64 0] (fun g79 => ?_)
      refine s_nil (xs_held [1, 2, 2, 3, 3, 3, 3, 3, 3, 3, 3] ?_)
      refine h_stepS 8 ?_
      refine s_call [5] (rhget_s (st := (asgS ((made l).1) (ofS ((made l).2) k) (ofS ((made l).2) x) 32 (ofS ((made l).2) v))) hg64.2 (by omega) y70 (ofS ((made l).2) k)) ?_
      rintro _ _ ⟨rfl, rfl⟩
      refine s_nil (xs_held [2, 3, 3, 3, 3, 3, 3, 3, 3, 3, 3] ?_)
      refine hp_ 9 [2, 3, 3, 3, 3, 3, 3, 3, 3, 3, 3] (.tuple #[.agg #[.int .i64 ((hgetV (asgS ((made l).1) (ofS ((made l).2) k) (ofS ((made l).2) x) 32 (ofS ((made l).2) v)) y70 (ofS ((made l).2) k)).kind), .int .i64 ((hgetV (asgS ((made l).1) (ofS ((made l).2) k) (ofS ((made l).2) x) 32 (ofS ((made l).2) v)) y70 (ofS ((made l).2) k)).p), .int .i64 ((hgetV (asgS ((made l).1) (ofS ((made l).2) k) (ofS ((made l).2) x) 32 (ofS ((made l).2) v)) y70 (ofS ((made l).2) k)).q), .string ((hgetV (asgS ((made l).1) (ofS ((made l).2) k) (ofS ((made l).2) x) 32 (ofS ((made l).2) v)) y70 (ofS ((made l).2) k)).str), .int .i64 ((hgetV (asgS ((made l).1) (ofS ((made l).2) k) (ofS ((made l).2) x) 32 (ofS ((made l).2) v)) y70 (ofS ((made l).2) k)).ref)], .int .i64 (hgetE (asgS ((made l).1) (ofS ((made l).2) k) (ofS ((made l).2) x) 32 (ofS ((made l).2) v)) y70)]) ?_
      refine hp_ 10 [2, 3, 3, 3, 3, 3, 3, 3, 3, 3, 3] (.agg #[.int .i64 ((hgetV (asgS ((made l).1) (ofS ((made l).2) k) (ofS ((made l).2) x) 32 (ofS ((made l).2) v)) y70 (ofS ((made l).2) k)).kind), .int .i64 ((hgetV (asgS ((made l).1) (ofS ((made l).2) k) (ofS ((made l).2) x) 32 (ofS ((made l).2) v)) y70 (ofS ((made l).2) k)).p), .int .i64 ((hgetV (asgS ((made l).1) (ofS ((made l).2) k) (ofS ((made l).2) x) 32 (ofS ((made l).2) v)) y70 (ofS ((made l).2) k)).q), .string ((hgetV (asgS ((made l).1) (ofS ((made l).2) k) (ofS ((made l).2) x) 32 (ofS ((made l).2) v)) y70 (ofS ((made l).2) k)).str), .int .i64 ((hgetV (asgS ((made l).1) (ofS ((made l).2) k) (ofS ((made l).2) x) 32 (ofS ((made l).2) v)) y70 (ofS ((made l).2) k)).ref)]) ?_
      refine hp_ 11 [2, 3, 3, 3, 3, 3, 3, 3, 3, 3, 3] (.int .i64 (hgetE (asgS ((made l).1) (ofS ((made l).2) k) (ofS ((made l).2) x) 32 (ofS ((made l).2) v)) y70)) ?_
      exact h_use hj77 g79 (fun _ h => h.re [1, 0, 0, 0, 0, 0, 0, 0, 0, 0, 0, 0, 0, 0] [])
    refine h_stepS2 8 12 ?_ ?_
    ·
     refine s_call [3] (hget_s (st := (asgS ((made l).1) (ofS ((made l).2) k) (ofS ((made l).2) x) 32 (ofS ((made l).2) v))) hg64.2 (by omega) y70 (ofS ((made l).2) k)) ?_
     rintro _ _ ⟨rfl, rfl⟩
     refine s_nil (xs_held [1, 1, 2, 2, 2, 2, 2, 2, 2, 2] ?_)
     refine hp_ 9 [1, 1, 2, 2, 2, 2, 2, 2, 2, 2] (.tuple #[.agg #[.int .i64 ((hgetV (asgS ((made l).1) (ofS ((made l).2) k) (ofS ((made l).2) x) 32 (ofS ((made l).2) v)) y70 (ofS ((made l).2) k)).kind), .int .i64 ((hgetV (asgS ((made l).1) (ofS ((made l).2) k) (ofS ((made l).2) x) 32 (ofS ((made l).2) v)) y70 (ofS ((made l).2) k)).p), .int .i64 ((hgetV (asgS ((made l).1) (ofS ((made l).2) k) (ofS ((made l).2) x) 32 (ofS ((made l).2) v)) y70 (ofS ((made l).2) k)).q), .string ((hgetV (asgS ((made l).1) (ofS ((made l).2) k) (ofS ((made l).2) x) 32 (ofS ((made l).2) v)) y70 (ofS ((made l).2) k)).str), .int .i64 ((hgetV (asgS ((made l).1) (ofS ((made l).2) k) (ofS ((made l).2) x) 32 (ofS ((made l).2) v)) y70 (ofS ((made l).2) k)).ref)], .int .i64 (hgetE (asgS ((made l).1) (ofS ((made l).2) k) (ofS ((made l).2) x) 32 (ofS ((made l).2) v)) y70)]) ?_
     refine hp_ 10 [1, 1, 2, 2, 2, 2, 2, 2, 2, 2] (.agg #[.int .i64 ((hgetV (asgS ((made l).1) (ofS ((made l).2) k) (ofS ((made l).2) x) 32 (ofS ((made l).2) v)) y70 (ofS ((made l).2) k)).kind), .int .i64 ((hgetV (asgS ((made l).1) (ofS ((made l).2) k) (ofS ((made l).2) x) 32 (ofS ((made l).2) v)) y70 (ofS ((made l).2) k)).p), .int .i64 ((hgetV (asgS ((made l).1) (ofS ((made l).2) k) (ofS ((made l).2) x) 32 (ofS ((made l).2) v)) y70 (ofS ((made l).2) k)).q), .string ((hgetV (asgS ((made l).1) (ofS ((made l).2) k) (ofS ((made l).2) x) 32 (ofS ((made l).2) v)) y70 (ofS ((made l).2) k)).str), .int .i64 ((hgetV (asgS ((made l).1) (ofS ((made l).2) k) (ofS ((made l).2) x) 32 (ofS ((made l).2) v)) y70 (ofS ((made l).2) k)).ref)]) ?_
     refine hp_ 11 [1, 1, 2, 2, 2, 2, 2, 2, 2, 2] (.int .i64 (hgetE (asgS ((made l).1) (ofS ((made l).2) k) (ofS ((made l).2) x) 32 (ofS ((made l).2) v)) y70)) ?_
     refine h_stepS 12 ?_
     refine s_alloc (.agg #[.int .i64 0, .int .i64 0, .int .i64 0, .string ByteArray.empty, .int .i64 0]) #[.int .i64 0, .int .i64 0, .int .i64 0, .string ByteArray.empty, .int .i64 0] (fun g80 => ?_)
     refine s_nil (xs_held [2, 2, 3, 3, 3, 3, 3, 3, 3, 3] ?_)
     exact h_use hj74 g80 (fun _ h => h.re [0, 0, 0, 0, 0, 0, 0, 0, 0, 0, 0, 0, 0] [])
    ·
     refine s_alloc (.agg #[.int .i64 0, .int .i64 0, .int .i64 0, .string ByteArray.empty, .int .i64 0]) #[.int .i64 0, .int .i64 0, .int .i64 0, .string ByteArray.empty, .int .i64 0] (fun g81 => ?_)
     refine s_nil (xs_held [1, 1, 3, 3, 3, 3, 3, 3, 3, 3] ?_)
     refine h_stepS 8 ?_
     refine s_call [4] (hget_s (st := (asgS ((made l).1) (ofS ((made l).2) k) (ofS ((made l).2) x) 32 (ofS ((made l).2) v))) hg64.2 (by omega) y70 (ofS ((made l).2) k)) ?_
     rintro _ _ ⟨rfl, rfl⟩
     refine s_nil (xs_held [2, 2, 3, 3, 3, 3, 3, 3, 3, 3] ?_)
     refine hp_ 9 [2, 2, 3, 3, 3, 3, 3, 3, 3, 3] (.tuple #[.agg #[.int .i64 ((hgetV (asgS ((made l).1) (ofS ((made l).2) k) (ofS ((made l).2) x) 32 (ofS ((made l).2) v)) y70 (ofS ((made l).2) k)).kind), .int .i64 ((hgetV (asgS ((made l).1) (ofS ((made l).2) k) (ofS ((made l).2) x) 32 (ofS ((made l).2) v)) y70 (ofS ((made l).2) k)).p), .int .i64 ((hgetV (asgS ((made l).1) (ofS ((made l).2) k) (ofS ((made l).2) x) 32 (ofS ((made l).2) v)) y70 (ofS ((made l).2) k)).q), .string ((hgetV (asgS ((made l).1) (ofS ((made l).2) k) (ofS ((made l).2) x) 32 (ofS ((made l).2) v)) y70 (ofS ((made l).2) k)).str), .int .i64 ((hgetV (asgS ((made l).1) (ofS ((made l).2) k) (ofS ((made l).2) x) 32 (ofS ((made l).2) v)) y70 (ofS ((made l).2) k)).ref)], .int .i64 (hgetE (asgS ((made l).1) (ofS ((made l).2) k) (ofS ((made l).2) x) 32 (ofS ((made l).2) v)) y70)]) ?_
     refine hp_ 10 [2, 2, 3, 3, 3, 3, 3, 3, 3, 3] (.agg #[.int .i64 ((hgetV (asgS ((made l).1) (ofS ((made l).2) k) (ofS ((made l).2) x) 32 (ofS ((made l).2) v)) y70 (ofS ((made l).2) k)).kind), .int .i64 ((hgetV (asgS ((made l).1) (ofS ((made l).2) k) (ofS ((made l).2) x) 32 (ofS ((made l).2) v)) y70 (ofS ((made l).2) k)).p), .int .i64 ((hgetV (asgS ((made l).1) (ofS ((made l).2) k) (ofS ((made l).2) x) 32 (ofS ((made l).2) v)) y70 (ofS ((made l).2) k)).q), .string ((hgetV (asgS ((made l).1) (ofS ((made l).2) k) (ofS ((made l).2) x) 32 (ofS ((made l).2) v)) y70 (ofS ((made l).2) k)).str), .int .i64 ((hgetV (asgS ((made l).1) (ofS ((made l).2) k) (ofS ((made l).2) x) 32 (ofS ((made l).2) v)) y70 (ofS ((made l).2) k)).ref)]) ?_
     refine hp_ 11 [2, 2, 3, 3, 3, 3, 3, 3, 3, 3] (.int .i64 (hgetE (asgS ((made l).1) (ofS ((made l).2) k) (ofS ((made l).2) x) 32 (ofS ((made l).2) v)) y70)) ?_
     exact h_use hj74 g81 (fun _ h => h.re [1, 0, 0, 0, 0, 0, 0, 0, 0, 0, 0, 0, 0] [])
   ·
    have p82 := of_decide_eq_false c68
    refine k_exit ?_
    refine xs_exit ?_
    refine xs_exit ?_
    refine xs_here ?_
    refine xs_then ?_
    refine k_sr ?_
    refine s_vcall (fun _ h => lives_s) ?_
    rintro _ rfl
    refine sp (.bool true) ?_
    refine s_nt ?_
    refine k_ret ?_
    exact xs_fin [.bool true] [] (SI.tmp 8 SI.nil) (fun _ h => h.re [] [0, 0, 0, 0, 0, 0, 0, 0, 0, 0, 0, 0]) ⟨rfl, rfl⟩
  refine h_join (ι := Nat × Nat) 4 #[true, true, true, true, true, true, true, true, true, true, true, false, false, false, false] (fun (g13, g14) => [(9, pB g12 0), (10, .bool true), (11, pB g13 0), (12, pB g14 0), (33, .agg #[.int .i64 ((ofS ((made l).2) v).kind), .int .i64 ((ofS ((made l).2) v).p), .int .i64 ((ofS ((made l).2) v).q), .string ((ofS ((made l).2) v).str), .int .i64 ((ofS ((made l).2) v).ref)]), (36, .agg #[.int .i64 ((ofS ((made l).2) k).kind), .int .i64 ((ofS ((made l).2) k).p), .int .i64 ((ofS ((made l).2) k).q), .string ((ofS ((made l).2) k).str), .int .i64 ((ofS ((made l).2) k).ref)]), (39, .agg #[.int .i64 ((ofS ((made l).2) x).kind), .int .i64 ((ofS ((made l).2) x).p), .int .i64 ((ofS ((made l).2) x).q), .string ((ofS ((made l).2) x).str), .int .i64 ((ofS ((made l).2) x).ref)])]) (fun (g13, g14) => [blkA g14 #[.int .i64 0, .int .i64 0, .int .i64 0, .string ByteArray.empty, .int .i64 0] 26, blkA g13 #[.int .i64 0, .int .i64 0, .int .i64 0, .string ByteArray.empty, .int .i64 0] 26, own VlT lx10 ((made l).2), blkA g12 #[pB hb8 0, pB gb9 0, lx10] 35, hpA hb8 ((made l).1), rhA gb9 ((made l).1), blkA g3 #[.int .i64 x.v.kind, .int .i64 x.v.p, .int .i64 x.v.q, .string x.v.str, .int .i64 x.v.ref, .int .i64 x.obj] 28, blkA g2 #[.int .i64 k.v.kind, .int .i64 k.v.p, .int .i64 k.v.q, .string k.v.str, .int .i64 k.v.ref, .int .i64 k.obj] 28, blkA g1 #[.int .i64 v.v.kind, .int .i64 v.v.p, .int .i64 v.v.q, .string v.v.str, .int .i64 v.v.ref, .int .i64 v.obj] 28]) ?_ (fun hj83 => ?_)
  ·
   rintro ⟨g13, g14⟩
   try dsimp only
   refine h_stepS 11 ?_
   refine s_alloc (.agg #[.int .i64 0, .int .i64 0, .int .i64 0, .string ByteArray.empty, .int .i64 0]) #[.int .i64 0, .int .i64 0, .int .i64 0, .string ByteArray.empty, .int .i64 0] (fun g84 => ?_)
   refine s_nil (xs_held [4, 3, 5, 5, 5] ?_)
   exact h_use hj61 (g13, g14, g84) (fun _ h => h.re [0, 0, 0, 0, 0, 0, 0, 0, 0, 0] [])
  refine h_join (ι := Nat × Nat) 4 #[true, true, true, true, true, true, true, true, true, true, false, true, false, false, false] (fun (g13, g16) => [(9, pB g12 0), (10, .bool true), (11, pB g13 0), (13, pB g16 0), (33, .agg #[.int .i64 ((ofS ((made l).2) v).kind), .int .i64 ((ofS ((made l).2) v).p), .int .i64 ((ofS ((made l).2) v).q), .string ((ofS ((made l).2) v).str), .int .i64 ((ofS ((made l).2) v).ref)]), (36, .agg #[.int .i64 ((ofS ((made l).2) k).kind), .int .i64 ((ofS ((made l).2) k).p), .int .i64 ((ofS ((made l).2) k).q), .string ((ofS ((made l).2) k).str), .int .i64 ((ofS ((made l).2) k).ref)]), (39, .agg #[.int .i64 ((ofS ((made l).2) x).kind), .int .i64 ((ofS ((made l).2) x).p), .int .i64 ((ofS ((made l).2) x).q), .string ((ofS ((made l).2) x).str), .int .i64 ((ofS ((made l).2) x).ref)])]) (fun (g13, g16) => [blkA g16 #[.int .i64 0, .int .i64 0, .int .i64 0, .string ByteArray.empty, .int .i64 0] 26, blkA g13 #[.int .i64 0, .int .i64 0, .int .i64 0, .string ByteArray.empty, .int .i64 0] 26, own VlT lx10 ((made l).2), blkA g12 #[pB hb8 0, pB gb9 0, lx10] 35, hpA hb8 ((made l).1), rhA gb9 ((made l).1), blkA g3 #[.int .i64 x.v.kind, .int .i64 x.v.p, .int .i64 x.v.q, .string x.v.str, .int .i64 x.v.ref, .int .i64 x.obj] 28, blkA g2 #[.int .i64 k.v.kind, .int .i64 k.v.p, .int .i64 k.v.q, .string k.v.str, .int .i64 k.v.ref, .int .i64 k.obj] 28, blkA g1 #[.int .i64 v.v.kind, .int .i64 v.v.p, .int .i64 v.v.q, .string v.v.str, .int .i64 v.v.ref, .int .i64 v.obj] 28]) ?_ (fun hj85 => ?_)
  ·
   rintro ⟨g13, g16⟩
   try dsimp only
   refine h_stepS 10 ?_
   refine s_alloc (.agg #[.int .i64 0, .int .i64 0, .int .i64 0, .string ByteArray.empty, .int .i64 0]) #[.int .i64 0, .int .i64 0, .int .i64 0, .string ByteArray.empty, .int .i64 0] (fun g86 => ?_)
   refine s_nil (xs_held [4, 3, 5, 5, 5] ?_)
   exact h_use hj61 (g13, g86, g16) (fun _ h => h.re [1, 0, 0, 0, 0, 0, 0, 0, 0, 0] [])
  refine h_join (ι := Nat × Nat) 4 #[true, true, true, true, true, true, true, true, true, false, true, true, false, false, false] (fun (g18, g20) => [(9, pB g12 0), (10, .bool true), (12, pB g18 0), (13, pB g20 0), (33, .agg #[.int .i64 ((ofS ((made l).2) v).kind), .int .i64 ((ofS ((made l).2) v).p), .int .i64 ((ofS ((made l).2) v).q), .string ((ofS ((made l).2) v).str), .int .i64 ((ofS ((made l).2) v).ref)]), (36, .agg #[.int .i64 ((ofS ((made l).2) k).kind), .int .i64 ((ofS ((made l).2) k).p), .int .i64 ((ofS ((made l).2) k).q), .string ((ofS ((made l).2) k).str), .int .i64 ((ofS ((made l).2) k).ref)]), (39, .agg #[.int .i64 ((ofS ((made l).2) x).kind), .int .i64 ((ofS ((made l).2) x).p), .int .i64 ((ofS ((made l).2) x).q), .string ((ofS ((made l).2) x).str), .int .i64 ((ofS ((made l).2) x).ref)])]) (fun (g18, g20) => [blkA g20 #[.int .i64 0, .int .i64 0, .int .i64 0, .string ByteArray.empty, .int .i64 0] 26, blkA g18 #[.int .i64 0, .int .i64 0, .int .i64 0, .string ByteArray.empty, .int .i64 0] 26, own VlT lx10 ((made l).2), blkA g12 #[pB hb8 0, pB gb9 0, lx10] 35, hpA hb8 ((made l).1), rhA gb9 ((made l).1), blkA g3 #[.int .i64 x.v.kind, .int .i64 x.v.p, .int .i64 x.v.q, .string x.v.str, .int .i64 x.v.ref, .int .i64 x.obj] 28, blkA g2 #[.int .i64 k.v.kind, .int .i64 k.v.p, .int .i64 k.v.q, .string k.v.str, .int .i64 k.v.ref, .int .i64 k.obj] 28, blkA g1 #[.int .i64 v.v.kind, .int .i64 v.v.p, .int .i64 v.v.q, .string v.v.str, .int .i64 v.v.ref, .int .i64 v.obj] 28]) ?_ (fun hj87 => ?_)
  ·
   rintro ⟨g18, g20⟩
   try dsimp only
   refine h_stepS 9 ?_
   refine s_alloc (.agg #[.int .i64 0, .int .i64 0, .int .i64 0, .string ByteArray.empty, .int .i64 0]) #[.int .i64 0, .int .i64 0, .int .i64 0, .string ByteArray.empty, .int .i64 0] (fun g88 => ?_)
   refine s_nil (xs_held [4, 3, 5, 5, 5] ?_)
   exact h_use hj61 (g88, g18, g20) (fun _ h => h.re [1, 1, 0, 0, 0, 0, 0, 0, 0, 0] [])
  refine h_join (ι := Nat × Nat × Nat) 4 #[true, true, true, true, true, true, true, true, false, true, true, true, false, false, false] (fun (g25, g26, g27) => [(9, pB g12 0), (10, .bool true), (11, pB g25 0), (12, pB g26 0), (13, pB g27 0), (33, .agg #[.int .i64 ((ofS ((made l).2) v).kind), .int .i64 ((ofS ((made l).2) v).p), .int .i64 ((ofS ((made l).2) v).q), .string ((ofS ((made l).2) v).str), .int .i64 ((ofS ((made l).2) v).ref)]), (36, .agg #[.int .i64 ((ofS ((made l).2) k).kind), .int .i64 ((ofS ((made l).2) k).p), .int .i64 ((ofS ((made l).2) k).q), .string ((ofS ((made l).2) k).str), .int .i64 ((ofS ((made l).2) k).ref)]), (37, .agg #[pB hb8 0, pB gb9 0, lx10]), (38, .agg #[.int .i64 x.v.kind, .int .i64 x.v.p, .int .i64 x.v.q, .string x.v.str, .int .i64 x.v.ref, .int .i64 x.obj])]) (fun (g25, g26, g27) => [blkA g27 #[.int .i64 0, .int .i64 0, .int .i64 0, .string ByteArray.empty, .int .i64 0] 26, blkA g26 #[.int .i64 0, .int .i64 0, .int .i64 0, .string ByteArray.empty, .int .i64 0] 26, blkA g25 #[.int .i64 0, .int .i64 0, .int .i64 0, .string ByteArray.empty, .int .i64 0] 26, own VlT lx10 ((made l).2), blkA g12 #[pB hb8 0, pB gb9 0, lx10] 35, hpA hb8 ((made l).1), rhA gb9 ((made l).1), blkA g3 #[.int .i64 x.v.kind, .int .i64 x.v.p, .int .i64 x.v.q, .string x.v.str, .int .i64 x.v.ref, .int .i64 x.obj] 28, blkA g2 #[.int .i64 k.v.kind, .int .i64 k.v.p, .int .i64 k.v.q, .string k.v.str, .int .i64 k.v.ref, .int .i64 k.obj] 28, blkA g1 #[.int .i64 v.v.kind, .int .i64 v.v.p, .int .i64 v.v.q, .string v.v.str, .int .i64 v.v.ref, .int .i64 v.obj] 28]) ?_ (fun hj89 => ?_)
  ·
   rintro ⟨g25, g26, g27⟩
   try dsimp only
   refine h_stepS 8 ?_
   refine s_call [3] (of_s (L := (made l).2) (by (try simp only [lnm]); omega) x) ?_
   rintro _ _ ⟨rfl, rfl⟩
   refine s_nil (xs_held [4, 0, 5, 5, 5] ?_)
   exact h_use hj61 (g25, g26, g27) (fun _ h => h.re [1, 1, 1, 0, 0, 0, 0, 0, 0, 0] [])
  refine h_join (ι := Nat) 5 #[true, true, true, true, true, true, true, true, true, true, false, false, false, false, false] (fun g13 => [(9, pB g12 0), (10, .bool true), (11, pB g13 0), (33, .agg #[.int .i64 ((ofS ((made l).2) v).kind), .int .i64 ((ofS ((made l).2) v).p), .int .i64 ((ofS ((made l).2) v).q), .string ((ofS ((made l).2) v).str), .int .i64 ((ofS ((made l).2) v).ref)]), (36, .agg #[.int .i64 ((ofS ((made l).2) k).kind), .int .i64 ((ofS ((made l).2) k).p), .int .i64 ((ofS ((made l).2) k).q), .string ((ofS ((made l).2) k).str), .int .i64 ((ofS ((made l).2) k).ref)]), (39, .agg #[.int .i64 ((ofS ((made l).2) x).kind), .int .i64 ((ofS ((made l).2) x).p), .int .i64 ((ofS ((made l).2) x).q), .string ((ofS ((made l).2) x).str), .int .i64 ((ofS ((made l).2) x).ref)])]) (fun g13 => [blkA g13 #[.int .i64 0, .int .i64 0, .int .i64 0, .string ByteArray.empty, .int .i64 0] 26, own VlT lx10 ((made l).2), blkA g12 #[pB hb8 0, pB gb9 0, lx10] 35, hpA hb8 ((made l).1), rhA gb9 ((made l).1), blkA g3 #[.int .i64 x.v.kind, .int .i64 x.v.p, .int .i64 x.v.q, .string x.v.str, .int .i64 x.v.ref, .int .i64 x.obj] 28, blkA g2 #[.int .i64 k.v.kind, .int .i64 k.v.p, .int .i64 k.v.q, .string k.v.str, .int .i64 k.v.ref, .int .i64 k.obj] 28, blkA g1 #[.int .i64 v.v.kind, .int .i64 v.v.p, .int .i64 v.v.q, .string v.v.str, .int .i64 v.v.ref, .int .i64 v.obj] 28]) ?_ (fun hj90 => ?_)
  ·
   rintro g13
   try dsimp only
   refine h_stepS2 10 11 ?_ ?_
   ·
    refine s_alloc (.agg #[.int .i64 0, .int .i64 0, .int .i64 0, .string ByteArray.empty, .int .i64 0]) #[.int .i64 0, .int .i64 0, .int .i64 0, .string ByteArray.empty, .int .i64 0] (fun g91 => ?_)
    refine s_nil (xs_held [3, 2, 4, 4, 4] ?_)
    exact h_use hj83 (g13, g91) (fun _ h => h.re [0, 0, 0, 0, 0, 0, 0, 0, 0] [])
   ·
    refine s_alloc (.agg #[.int .i64 0, .int .i64 0, .int .i64 0, .string ByteArray.empty, .int .i64 0]) #[.int .i64 0, .int .i64 0, .int .i64 0, .string ByteArray.empty, .int .i64 0] (fun g92 => ?_)
    refine s_nil (xs_held [3, 2, 4, 4, 4] ?_)
    exact h_use hj85 (g13, g92) (fun _ h => h.re [0, 0, 0, 0, 0, 0, 0, 0, 0] [])
  refine h_join (ι := Nat) 5 #[true, true, true, true, true, true, true, true, true, false, true, false, false, false, false] (fun g18 => [(9, pB g12 0), (10, .bool true), (12, pB g18 0), (33, .agg #[.int .i64 ((ofS ((made l).2) v).kind), .int .i64 ((ofS ((made l).2) v).p), .int .i64 ((ofS ((made l).2) v).q), .string ((ofS ((made l).2) v).str), .int .i64 ((ofS ((made l).2) v).ref)]), (36, .agg #[.int .i64 ((ofS ((made l).2) k).kind), .int .i64 ((ofS ((made l).2) k).p), .int .i64 ((ofS ((made l).2) k).q), .string ((ofS ((made l).2) k).str), .int .i64 ((ofS ((made l).2) k).ref)]), (39, .agg #[.int .i64 ((ofS ((made l).2) x).kind), .int .i64 ((ofS ((made l).2) x).p), .int .i64 ((ofS ((made l).2) x).q), .string ((ofS ((made l).2) x).str), .int .i64 ((ofS ((made l).2) x).ref)])]) (fun g18 => [blkA g18 #[.int .i64 0, .int .i64 0, .int .i64 0, .string ByteArray.empty, .int .i64 0] 26, own VlT lx10 ((made l).2), blkA g12 #[pB hb8 0, pB gb9 0, lx10] 35, hpA hb8 ((made l).1), rhA gb9 ((made l).1), blkA g3 #[.int .i64 x.v.kind, .int .i64 x.v.p, .int .i64 x.v.q, .string x.v.str, .int .i64 x.v.ref, .int .i64 x.obj] 28, blkA g2 #[.int .i64 k.v.kind, .int .i64 k.v.p, .int .i64 k.v.q, .string k.v.str, .int .i64 k.v.ref, .int .i64 k.obj] 28, blkA g1 #[.int .i64 v.v.kind, .int .i64 v.v.p, .int .i64 v.v.q, .string v.v.str, .int .i64 v.v.ref, .int .i64 v.obj] 28]) ?_ (fun hj93 => ?_)
  ·
   rintro g18
   try dsimp only
   refine h_stepS2 9 11 ?_ ?_
   ·
    refine s_alloc (.agg #[.int .i64 0, .int .i64 0, .int .i64 0, .string ByteArray.empty, .int .i64 0]) #[.int .i64 0, .int .i64 0, .int .i64 0, .string ByteArray.empty, .int .i64 0] (fun g94 => ?_)
    refine s_nil (xs_held [3, 2, 4, 4, 4] ?_)
    exact h_use hj83 (g94, g18) (fun _ h => h.re [1, 0, 0, 0, 0, 0, 0, 0, 0] [])
   ·
    refine s_alloc (.agg #[.int .i64 0, .int .i64 0, .int .i64 0, .string ByteArray.empty, .int .i64 0]) #[.int .i64 0, .int .i64 0, .int .i64 0, .string ByteArray.empty, .int .i64 0] (fun g95 => ?_)
    refine s_nil (xs_held [3, 2, 4, 4, 4] ?_)
    exact h_use hj87 (g18, g95) (fun _ h => h.re [0, 0, 0, 0, 0, 0, 0, 0, 0] [])
  refine h_join (ι := Nat) 5 #[true, true, true, true, true, true, true, true, true, false, false, true, false, false, false] (fun g22 => [(9, pB g12 0), (10, .bool true), (13, pB g22 0), (33, .agg #[.int .i64 ((ofS ((made l).2) v).kind), .int .i64 ((ofS ((made l).2) v).p), .int .i64 ((ofS ((made l).2) v).q), .string ((ofS ((made l).2) v).str), .int .i64 ((ofS ((made l).2) v).ref)]), (36, .agg #[.int .i64 ((ofS ((made l).2) k).kind), .int .i64 ((ofS ((made l).2) k).p), .int .i64 ((ofS ((made l).2) k).q), .string ((ofS ((made l).2) k).str), .int .i64 ((ofS ((made l).2) k).ref)]), (39, .agg #[.int .i64 ((ofS ((made l).2) x).kind), .int .i64 ((ofS ((made l).2) x).p), .int .i64 ((ofS ((made l).2) x).q), .string ((ofS ((made l).2) x).str), .int .i64 ((ofS ((made l).2) x).ref)])]) (fun g22 => [blkA g22 #[.int .i64 0, .int .i64 0, .int .i64 0, .string ByteArray.empty, .int .i64 0] 26, own VlT lx10 ((made l).2), blkA g12 #[pB hb8 0, pB gb9 0, lx10] 35, hpA hb8 ((made l).1), rhA gb9 ((made l).1), blkA g3 #[.int .i64 x.v.kind, .int .i64 x.v.p, .int .i64 x.v.q, .string x.v.str, .int .i64 x.v.ref, .int .i64 x.obj] 28, blkA g2 #[.int .i64 k.v.kind, .int .i64 k.v.p, .int .i64 k.v.q, .string k.v.str, .int .i64 k.v.ref, .int .i64 k.obj] 28, blkA g1 #[.int .i64 v.v.kind, .int .i64 v.v.p, .int .i64 v.v.q, .string v.v.str, .int .i64 v.v.ref, .int .i64 v.obj] 28]) ?_ (fun hj96 => ?_)
  ·
   rintro g22
   try dsimp only
   refine h_stepS2 9 10 ?_ ?_
   ·
    refine s_alloc (.agg #[.int .i64 0, .int .i64 0, .int .i64 0, .string ByteArray.empty, .int .i64 0]) #[.int .i64 0, .int .i64 0, .int .i64 0, .string ByteArray.empty, .int .i64 0] (fun g97 => ?_)
    refine s_nil (xs_held [3, 2, 4, 4, 4] ?_)
    exact h_use hj85 (g97, g22) (fun _ h => h.re [1, 0, 0, 0, 0, 0, 0, 0, 0] [])
   ·
    refine s_alloc (.agg #[.int .i64 0, .int .i64 0, .int .i64 0, .string ByteArray.empty, .int .i64 0]) #[.int .i64 0, .int .i64 0, .int .i64 0, .string ByteArray.empty, .int .i64 0] (fun g98 => ?_)
    refine s_nil (xs_held [3, 2, 4, 4, 4] ?_)
    exact h_use hj87 (g98, g22) (fun _ h => h.re [1, 0, 0, 0, 0, 0, 0, 0, 0] [])
  refine h_join (ι := Nat × Nat) 5 #[true, true, true, true, true, true, true, true, false, true, true, false, false, false, false] (fun (g25, g26) => [(9, pB g12 0), (10, .bool true), (11, pB g25 0), (12, pB g26 0), (33, .agg #[.int .i64 ((ofS ((made l).2) v).kind), .int .i64 ((ofS ((made l).2) v).p), .int .i64 ((ofS ((made l).2) v).q), .string ((ofS ((made l).2) v).str), .int .i64 ((ofS ((made l).2) v).ref)]), (36, .agg #[.int .i64 ((ofS ((made l).2) k).kind), .int .i64 ((ofS ((made l).2) k).p), .int .i64 ((ofS ((made l).2) k).q), .string ((ofS ((made l).2) k).str), .int .i64 ((ofS ((made l).2) k).ref)]), (37, .agg #[pB hb8 0, pB gb9 0, lx10]), (38, .agg #[.int .i64 x.v.kind, .int .i64 x.v.p, .int .i64 x.v.q, .string x.v.str, .int .i64 x.v.ref, .int .i64 x.obj])]) (fun (g25, g26) => [blkA g26 #[.int .i64 0, .int .i64 0, .int .i64 0, .string ByteArray.empty, .int .i64 0] 26, blkA g25 #[.int .i64 0, .int .i64 0, .int .i64 0, .string ByteArray.empty, .int .i64 0] 26, own VlT lx10 ((made l).2), blkA g12 #[pB hb8 0, pB gb9 0, lx10] 35, hpA hb8 ((made l).1), rhA gb9 ((made l).1), blkA g3 #[.int .i64 x.v.kind, .int .i64 x.v.p, .int .i64 x.v.q, .string x.v.str, .int .i64 x.v.ref, .int .i64 x.obj] 28, blkA g2 #[.int .i64 k.v.kind, .int .i64 k.v.p, .int .i64 k.v.q, .string k.v.str, .int .i64 k.v.ref, .int .i64 k.obj] 28, blkA g1 #[.int .i64 v.v.kind, .int .i64 v.v.p, .int .i64 v.v.q, .string v.v.str, .int .i64 v.v.ref, .int .i64 v.obj] 28]) ?_ (fun hj99 => ?_)
  ·
   rintro ⟨g25, g26⟩
   try dsimp only
   refine h_stepS2 8 11 ?_ ?_
   ·
    refine s_call [2] (of_s (L := (made l).2) (by (try simp only [lnm]); omega) x) ?_
    rintro _ _ ⟨rfl, rfl⟩
    refine s_nil (xs_held [3, 0, 4, 4, 4] ?_)
    exact h_use hj83 (g25, g26) (fun _ h => h.re [1, 1, 0, 0, 0, 0, 0, 0, 0] [])
   ·
    refine s_alloc (.agg #[.int .i64 0, .int .i64 0, .int .i64 0, .string ByteArray.empty, .int .i64 0]) #[.int .i64 0, .int .i64 0, .int .i64 0, .string ByteArray.empty, .int .i64 0] (fun g100 => ?_)
    refine s_nil (xs_held [4, 3, 5, 5, 5] ?_)
    exact h_use hj89 (g25, g26, g100) (fun _ h => h.re [0, 0, 0, 0, 0, 0, 0, 0, 0, 0] [])
  refine h_join (ι := Nat × Nat) 5 #[true, true, true, true, true, true, true, true, false, true, false, true, false, false, false] (fun (g25, g28) => [(9, pB g12 0), (10, .bool true), (11, pB g25 0), (13, pB g28 0), (33, .agg #[.int .i64 ((ofS ((made l).2) v).kind), .int .i64 ((ofS ((made l).2) v).p), .int .i64 ((ofS ((made l).2) v).q), .string ((ofS ((made l).2) v).str), .int .i64 ((ofS ((made l).2) v).ref)]), (36, .agg #[.int .i64 ((ofS ((made l).2) k).kind), .int .i64 ((ofS ((made l).2) k).p), .int .i64 ((ofS ((made l).2) k).q), .string ((ofS ((made l).2) k).str), .int .i64 ((ofS ((made l).2) k).ref)]), (37, .agg #[pB hb8 0, pB gb9 0, lx10]), (38, .agg #[.int .i64 x.v.kind, .int .i64 x.v.p, .int .i64 x.v.q, .string x.v.str, .int .i64 x.v.ref, .int .i64 x.obj])]) (fun (g25, g28) => [blkA g28 #[.int .i64 0, .int .i64 0, .int .i64 0, .string ByteArray.empty, .int .i64 0] 26, blkA g25 #[.int .i64 0, .int .i64 0, .int .i64 0, .string ByteArray.empty, .int .i64 0] 26, own VlT lx10 ((made l).2), blkA g12 #[pB hb8 0, pB gb9 0, lx10] 35, hpA hb8 ((made l).1), rhA gb9 ((made l).1), blkA g3 #[.int .i64 x.v.kind, .int .i64 x.v.p, .int .i64 x.v.q, .string x.v.str, .int .i64 x.v.ref, .int .i64 x.obj] 28, blkA g2 #[.int .i64 k.v.kind, .int .i64 k.v.p, .int .i64 k.v.q, .string k.v.str, .int .i64 k.v.ref, .int .i64 k.obj] 28, blkA g1 #[.int .i64 v.v.kind, .int .i64 v.v.p, .int .i64 v.v.q, .string v.v.str, .int .i64 v.v.ref, .int .i64 v.obj] 28]) ?_ (fun hj101 => ?_)
  ·
   rintro ⟨g25, g28⟩
   try dsimp only
   refine h_stepS2 8 10 ?_ ?_
   ·
    refine s_call [2] (of_s (L := (made l).2) (by (try simp only [lnm]); omega) x) ?_
    rintro _ _ ⟨rfl, rfl⟩
    refine s_nil (xs_held [3, 0, 4, 4, 4] ?_)
    exact h_use hj85 (g25, g28) (fun _ h => h.re [1, 1, 0, 0, 0, 0, 0, 0, 0] [])
   ·
    refine s_alloc (.agg #[.int .i64 0, .int .i64 0, .int .i64 0, .string ByteArray.empty, .int .i64 0]) #[.int .i64 0, .int .i64 0, .int .i64 0, .string ByteArray.empty, .int .i64 0] (fun g102 => ?_)
    refine s_nil (xs_held [4, 3, 5, 5, 5] ?_)
    exact h_use hj89 (g25, g102, g28) (fun _ h => h.re [1, 0, 0, 0, 0, 0, 0, 0, 0, 0] [])
  refine h_join (ι := Nat × Nat) 5 #[true, true, true, true, true, true, true, true, false, false, true, true, false, false, false] (fun (g30, g32) => [(9, pB g12 0), (10, .bool true), (12, pB g30 0), (13, pB g32 0), (33, .agg #[.int .i64 ((ofS ((made l).2) v).kind), .int .i64 ((ofS ((made l).2) v).p), .int .i64 ((ofS ((made l).2) v).q), .string ((ofS ((made l).2) v).str), .int .i64 ((ofS ((made l).2) v).ref)]), (36, .agg #[.int .i64 ((ofS ((made l).2) k).kind), .int .i64 ((ofS ((made l).2) k).p), .int .i64 ((ofS ((made l).2) k).q), .string ((ofS ((made l).2) k).str), .int .i64 ((ofS ((made l).2) k).ref)]), (37, .agg #[pB hb8 0, pB gb9 0, lx10]), (38, .agg #[.int .i64 x.v.kind, .int .i64 x.v.p, .int .i64 x.v.q, .string x.v.str, .int .i64 x.v.ref, .int .i64 x.obj])]) (fun (g30, g32) => [blkA g32 #[.int .i64 0, .int .i64 0, .int .i64 0, .string ByteArray.empty, .int .i64 0] 26, blkA g30 #[.int .i64 0, .int .i64 0, .int .i64 0, .string ByteArray.empty, .int .i64 0] 26, own VlT lx10 ((made l).2), blkA g12 #[pB hb8 0, pB gb9 0, lx10] 35, hpA hb8 ((made l).1), rhA gb9 ((made l).1), blkA g3 #[.int .i64 x.v.kind, .int .i64 x.v.p, .int .i64 x.v.q, .string x.v.str, .int .i64 x.v.ref, .int .i64 x.obj] 28, blkA g2 #[.int .i64 k.v.kind, .int .i64 k.v.p, .int .i64 k.v.q, .string k.v.str, .int .i64 k.v.ref, .int .i64 k.obj] 28, blkA g1 #[.int .i64 v.v.kind, .int .i64 v.v.p, .int .i64 v.v.q, .string v.v.str, .int .i64 v.v.ref, .int .i64 v.obj] 28]) ?_ (fun hj103 => ?_)
  ·
   rintro ⟨g30, g32⟩
   try dsimp only
   refine h_stepS2 8 9 ?_ ?_
   ·
    refine s_call [2] (of_s (L := (made l).2) (by (try simp only [lnm]); omega) x) ?_
    rintro _ _ ⟨rfl, rfl⟩
    refine s_nil (xs_held [3, 0, 4, 4, 4] ?_)
    exact h_use hj87 (g30, g32) (fun _ h => h.re [1, 1, 0, 0, 0, 0, 0, 0, 0] [])
   ·
    refine s_alloc (.agg #[.int .i64 0, .int .i64 0, .int .i64 0, .string ByteArray.empty, .int .i64 0]) #[.int .i64 0, .int .i64 0, .int .i64 0, .string ByteArray.empty, .int .i64 0] (fun g104 => ?_)
    refine s_nil (xs_held [4, 3, 5, 5, 5] ?_)
    exact h_use hj89 (g104, g30, g32) (fun _ h => h.re [1, 1, 0, 0, 0, 0, 0, 0, 0, 0] [])
  refine h_join (ι := Nat × Nat × Nat) 5 #[true, true, true, true, true, false, true, true, false, true, true, true, false, false, false] (fun (g37, g38, g39) => [(9, pB g12 0), (10, .bool true), (11, pB g37 0), (12, pB g38 0), (13, pB g39 0), (33, .agg #[.int .i64 ((ofS ((made l).2) v).kind), .int .i64 ((ofS ((made l).2) v).p), .int .i64 ((ofS ((made l).2) v).q), .string ((ofS ((made l).2) v).str), .int .i64 ((ofS ((made l).2) v).ref)]), (34, .agg #[pB hb8 0, pB gb9 0, lx10]), (35, .agg #[.int .i64 k.v.kind, .int .i64 k.v.p, .int .i64 k.v.q, .string k.v.str, .int .i64 k.v.ref, .int .i64 k.obj]), (37, .agg #[pB hb8 0, pB gb9 0, lx10]), (38, .agg #[.int .i64 x.v.kind, .int .i64 x.v.p, .int .i64 x.v.q, .string x.v.str, .int .i64 x.v.ref, .int .i64 x.obj])]) (fun (g37, g38, g39) => [blkA g39 #[.int .i64 0, .int .i64 0, .int .i64 0, .string ByteArray.empty, .int .i64 0] 26, blkA g38 #[.int .i64 0, .int .i64 0, .int .i64 0, .string ByteArray.empty, .int .i64 0] 26, blkA g37 #[.int .i64 0, .int .i64 0, .int .i64 0, .string ByteArray.empty, .int .i64 0] 26, own VlT lx10 ((made l).2), blkA g12 #[pB hb8 0, pB gb9 0, lx10] 35, hpA hb8 ((made l).1), rhA gb9 ((made l).1), blkA g3 #[.int .i64 x.v.kind, .int .i64 x.v.p, .int .i64 x.v.q, .string x.v.str, .int .i64 x.v.ref, .int .i64 x.obj] 28, blkA g2 #[.int .i64 k.v.kind, .int .i64 k.v.p, .int .i64 k.v.q, .string k.v.str, .int .i64 k.v.ref, .int .i64 k.obj] 28, blkA g1 #[.int .i64 v.v.kind, .int .i64 v.v.p, .int .i64 v.v.q, .string v.v.str, .int .i64 v.v.ref, .int .i64 v.obj] 28]) ?_ (fun hj105 => ?_)
  ·
   rintro ⟨g37, g38, g39⟩
   try dsimp only
   refine h_stepS 5 ?_
   refine s_call [3] (of_s (L := (made l).2) (by (try simp only [lnm]); omega) k) ?_
   rintro _ _ ⟨rfl, rfl⟩
   refine s_nil (xs_held [4, 0, 5, 5, 5] ?_)
   exact h_use hj89 (g37, g38, g39) (fun _ h => h.re [1, 1, 1, 0, 0, 0, 0, 0, 0, 0] [])
  refine h_join (ι := Nat) 6 #[true, true, true, true, true, true, true, true, false, true, false, false, false, false, false] (fun g25 => [(9, pB g12 0), (10, .bool true), (11, pB g25 0), (33, .agg #[.int .i64 ((ofS ((made l).2) v).kind), .int .i64 ((ofS ((made l).2) v).p), .int .i64 ((ofS ((made l).2) v).q), .string ((ofS ((made l).2) v).str), .int .i64 ((ofS ((made l).2) v).ref)]), (36, .agg #[.int .i64 ((ofS ((made l).2) k).kind), .int .i64 ((ofS ((made l).2) k).p), .int .i64 ((ofS ((made l).2) k).q), .string ((ofS ((made l).2) k).str), .int .i64 ((ofS ((made l).2) k).ref)]), (37, .agg #[pB hb8 0, pB gb9 0, lx10]), (38, .agg #[.int .i64 x.v.kind, .int .i64 x.v.p, .int .i64 x.v.q, .string x.v.str, .int .i64 x.v.ref, .int .i64 x.obj])]) (fun g25 => [blkA g25 #[.int .i64 0, .int .i64 0, .int .i64 0, .string ByteArray.empty, .int .i64 0] 26, own VlT lx10 ((made l).2), blkA g12 #[pB hb8 0, pB gb9 0, lx10] 35, hpA hb8 ((made l).1), rhA gb9 ((made l).1), blkA g3 #[.int .i64 x.v.kind, .int .i64 x.v.p, .int .i64 x.v.q, .string x.v.str, .int .i64 x.v.ref, .int .i64 x.obj] 28, blkA g2 #[.int .i64 k.v.kind, .int .i64 k.v.p, .int .i64 k.v.q, .string k.v.str, .int .i64 k.v.ref, .int .i64 k.obj] 28, blkA g1 #[.int .i64 v.v.kind, .int .i64 v.v.p, .int .i64 v.v.q, .string v.v.str, .int .i64 v.v.ref, .int .i64 v.obj] 28]) ?_ (fun hj106 => ?_)
  ·
   rintro g25
   try dsimp only
   refine h_stepS3 8 10 11 ?_ ?_ ?_
   ·
    refine s_call [1] (of_s (L := (made l).2) (by (try simp only [lnm]); omega) x) ?_
    rintro _ _ ⟨rfl, rfl⟩
    refine s_nil (xs_held [2, 0, 3, 3, 3] ?_)
    exact h_use hj90 g25 (fun _ h => h.re [1, 0, 0, 0, 0, 0, 0, 0] [])
   ·
    refine s_alloc (.agg #[.int .i64 0, .int .i64 0, .int .i64 0, .string ByteArray.empty, .int .i64 0]) #[.int .i64 0, .int .i64 0, .int .i64 0, .string ByteArray.empty, .int .i64 0] (fun g107 => ?_)
    refine s_nil (xs_held [3, 2, 4, 4, 4] ?_)
    exact h_use hj99 (g25, g107) (fun _ h => h.re [0, 0, 0, 0, 0, 0, 0, 0, 0] [])
   ·
    refine s_alloc (.agg #[.int .i64 0, .int .i64 0, .int .i64 0, .string ByteArray.empty, .int .i64 0]) #[.int .i64 0, .int .i64 0, .int .i64 0, .string ByteArray.empty, .int .i64 0] (fun g108 => ?_)
    refine s_nil (xs_held [3, 2, 4, 4, 4] ?_)
    exact h_use hj101 (g25, g108) (fun _ h => h.re [0, 0, 0, 0, 0, 0, 0, 0, 0] [])
  refine h_join (ι := Nat) 6 #[true, true, true, true, true, true, true, true, false, false, true, false, false, false, false] (fun g30 => [(9, pB g12 0), (10, .bool true), (12, pB g30 0), (33, .agg #[.int .i64 ((ofS ((made l).2) v).kind), .int .i64 ((ofS ((made l).2) v).p), .int .i64 ((ofS ((made l).2) v).q), .string ((ofS ((made l).2) v).str), .int .i64 ((ofS ((made l).2) v).ref)]), (36, .agg #[.int .i64 ((ofS ((made l).2) k).kind), .int .i64 ((ofS ((made l).2) k).p), .int .i64 ((ofS ((made l).2) k).q), .string ((ofS ((made l).2) k).str), .int .i64 ((ofS ((made l).2) k).ref)]), (37, .agg #[pB hb8 0, pB gb9 0, lx10]), (38, .agg #[.int .i64 x.v.kind, .int .i64 x.v.p, .int .i64 x.v.q, .string x.v.str, .int .i64 x.v.ref, .int .i64 x.obj])]) (fun g30 => [blkA g30 #[.int .i64 0, .int .i64 0, .int .i64 0, .string ByteArray.empty, .int .i64 0] 26, own VlT lx10 ((made l).2), blkA g12 #[pB hb8 0, pB gb9 0, lx10] 35, hpA hb8 ((made l).1), rhA gb9 ((made l).1), blkA g3 #[.int .i64 x.v.kind, .int .i64 x.v.p, .int .i64 x.v.q, .string x.v.str, .int .i64 x.v.ref, .int .i64 x.obj] 28, blkA g2 #[.int .i64 k.v.kind, .int .i64 k.v.p, .int .i64 k.v.q, .string k.v.str, .int .i64 k.v.ref, .int .i64 k.obj] 28, blkA g1 #[.int .i64 v.v.kind, .int .i64 v.v.p, .int .i64 v.v.q, .string v.v.str, .int .i64 v.v.ref, .int .i64 v.obj] 28]) ?_ (fun hj109 => ?_)
  ·
   rintro g30
   try dsimp only
   refine h_stepS3 8 9 11 ?_ ?_ ?_
   ·
    refine s_call [1] (of_s (L := (made l).2) (by (try simp only [lnm]); omega) x) ?_
    rintro _ _ ⟨rfl, rfl⟩
    refine s_nil (xs_held [2, 0, 3, 3, 3] ?_)
    exact h_use hj93 g30 (fun _ h => h.re [1, 0, 0, 0, 0, 0, 0, 0] [])
   ·
    refine s_alloc (.agg #[.int .i64 0, .int .i64 0, .int .i64 0, .string ByteArray.empty, .int .i64 0]) #[.int .i64 0, .int .i64 0, .int .i64 0, .string ByteArray.empty, .int .i64 0] (fun g110 => ?_)
    refine s_nil (xs_held [3, 2, 4, 4, 4] ?_)
    exact h_use hj99 (g110, g30) (fun _ h => h.re [1, 0, 0, 0, 0, 0, 0, 0, 0] [])
   ·
    refine s_alloc (.agg #[.int .i64 0, .int .i64 0, .int .i64 0, .string ByteArray.empty, .int .i64 0]) #[.int .i64 0, .int .i64 0, .int .i64 0, .string ByteArray.empty, .int .i64 0] (fun g111 => ?_)
    refine s_nil (xs_held [3, 2, 4, 4, 4] ?_)
    exact h_use hj103 (g30, g111) (fun _ h => h.re [0, 0, 0, 0, 0, 0, 0, 0, 0] [])
  refine h_join (ι := Nat) 6 #[true, true, true, true, true, true, true, true, false, false, false, true, false, false, false] (fun g34 => [(9, pB g12 0), (10, .bool true), (13, pB g34 0), (33, .agg #[.int .i64 ((ofS ((made l).2) v).kind), .int .i64 ((ofS ((made l).2) v).p), .int .i64 ((ofS ((made l).2) v).q), .string ((ofS ((made l).2) v).str), .int .i64 ((ofS ((made l).2) v).ref)]), (36, .agg #[.int .i64 ((ofS ((made l).2) k).kind), .int .i64 ((ofS ((made l).2) k).p), .int .i64 ((ofS ((made l).2) k).q), .string ((ofS ((made l).2) k).str), .int .i64 ((ofS ((made l).2) k).ref)]), (37, .agg #[pB hb8 0, pB gb9 0, lx10]), (38, .agg #[.int .i64 x.v.kind, .int .i64 x.v.p, .int .i64 x.v.q, .string x.v.str, .int .i64 x.v.ref, .int .i64 x.obj])]) (fun g34 => [blkA g34 #[.int .i64 0, .int .i64 0, .int .i64 0, .string ByteArray.empty, .int .i64 0] 26, own VlT lx10 ((made l).2), blkA g12 #[pB hb8 0, pB gb9 0, lx10] 35, hpA hb8 ((made l).1), rhA gb9 ((made l).1), blkA g3 #[.int .i64 x.v.kind, .int .i64 x.v.p, .int .i64 x.v.q, .string x.v.str, .int .i64 x.v.ref, .int .i64 x.obj] 28, blkA g2 #[.int .i64 k.v.kind, .int .i64 k.v.p, .int .i64 k.v.q, .string k.v.str, .int .i64 k.v.ref, .int .i64 k.obj] 28, blkA g1 #[.int .i64 v.v.kind, .int .i64 v.v.p, .int .i64 v.v.q, .string v.v.str, .int .i64 v.v.ref, .int .i64 v.obj] 28]) ?_ (fun hj112 => ?_)
  ·
   rintro g34
   try dsimp only
   refine h_stepS3 8 9 10 ?_ ?_ ?_
   ·
    refine s_call [1] (of_s (L := (made l).2) (by (try simp only [lnm]); omega) x) ?_
    rintro _ _ ⟨rfl, rfl⟩
    refine s_nil (xs_held [2, 0, 3, 3, 3] ?_)
    exact h_use hj96 g34 (fun _ h => h.re [1, 0, 0, 0, 0, 0, 0, 0] [])
   ·
    refine s_alloc (.agg #[.int .i64 0, .int .i64 0, .int .i64 0, .string ByteArray.empty, .int .i64 0]) #[.int .i64 0, .int .i64 0, .int .i64 0, .string ByteArray.empty, .int .i64 0] (fun g113 => ?_)
    refine s_nil (xs_held [3, 2, 4, 4, 4] ?_)
    exact h_use hj101 (g113, g34) (fun _ h => h.re [1, 0, 0, 0, 0, 0, 0, 0, 0] [])
   ·
    refine s_alloc (.agg #[.int .i64 0, .int .i64 0, .int .i64 0, .string ByteArray.empty, .int .i64 0]) #[.int .i64 0, .int .i64 0, .int .i64 0, .string ByteArray.empty, .int .i64 0] (fun g114 => ?_)
    refine s_nil (xs_held [3, 2, 4, 4, 4] ?_)
    exact h_use hj103 (g114, g34) (fun _ h => h.re [1, 0, 0, 0, 0, 0, 0, 0, 0] [])
  refine h_join (ι := Nat × Nat) 6 #[true, true, true, true, true, false, true, true, false, true, true, false, false, false, false] (fun (g37, g38) => [(9, pB g12 0), (10, .bool true), (11, pB g37 0), (12, pB g38 0), (33, .agg #[.int .i64 ((ofS ((made l).2) v).kind), .int .i64 ((ofS ((made l).2) v).p), .int .i64 ((ofS ((made l).2) v).q), .string ((ofS ((made l).2) v).str), .int .i64 ((ofS ((made l).2) v).ref)]), (34, .agg #[pB hb8 0, pB gb9 0, lx10]), (35, .agg #[.int .i64 k.v.kind, .int .i64 k.v.p, .int .i64 k.v.q, .string k.v.str, .int .i64 k.v.ref, .int .i64 k.obj]), (37, .agg #[pB hb8 0, pB gb9 0, lx10]), (38, .agg #[.int .i64 x.v.kind, .int .i64 x.v.p, .int .i64 x.v.q, .string x.v.str, .int .i64 x.v.ref, .int .i64 x.obj])]) (fun (g37, g38) => [blkA g38 #[.int .i64 0, .int .i64 0, .int .i64 0, .string ByteArray.empty, .int .i64 0] 26, blkA g37 #[.int .i64 0, .int .i64 0, .int .i64 0, .string ByteArray.empty, .int .i64 0] 26, own VlT lx10 ((made l).2), blkA g12 #[pB hb8 0, pB gb9 0, lx10] 35, hpA hb8 ((made l).1), rhA gb9 ((made l).1), blkA g3 #[.int .i64 x.v.kind, .int .i64 x.v.p, .int .i64 x.v.q, .string x.v.str, .int .i64 x.v.ref, .int .i64 x.obj] 28, blkA g2 #[.int .i64 k.v.kind, .int .i64 k.v.p, .int .i64 k.v.q, .string k.v.str, .int .i64 k.v.ref, .int .i64 k.obj] 28, blkA g1 #[.int .i64 v.v.kind, .int .i64 v.v.p, .int .i64 v.v.q, .string v.v.str, .int .i64 v.v.ref, .int .i64 v.obj] 28]) ?_ (fun hj115 => ?_)
  ·
   rintro ⟨g37, g38⟩
   try dsimp only
   refine h_stepS2 5 11 ?_ ?_
   ·
    refine s_call [2] (of_s (L := (made l).2) (by (try simp only [lnm]); omega) k) ?_
    rintro _ _ ⟨rfl, rfl⟩
    refine s_nil (xs_held [3, 0, 4, 4, 4] ?_)
    exact h_use hj99 (g37, g38) (fun _ h => h.re [1, 1, 0, 0, 0, 0, 0, 0, 0] [])
   ·
    refine s_alloc (.agg #[.int .i64 0, .int .i64 0, .int .i64 0, .string ByteArray.empty, .int .i64 0]) #[.int .i64 0, .int .i64 0, .int .i64 0, .string ByteArray.empty, .int .i64 0] (fun g116 => ?_)
    refine s_nil (xs_held [4, 3, 5, 5, 5] ?_)
    exact h_use hj105 (g37, g38, g116) (fun _ h => h.re [0, 0, 0, 0, 0, 0, 0, 0, 0, 0] [])
  refine h_join (ι := Nat × Nat) 6 #[true, true, true, true, true, false, true, true, false, true, false, true, false, false, false] (fun (g37, g40) => [(9, pB g12 0), (10, .bool true), (11, pB g37 0), (13, pB g40 0), (33, .agg #[.int .i64 ((ofS ((made l).2) v).kind), .int .i64 ((ofS ((made l).2) v).p), .int .i64 ((ofS ((made l).2) v).q), .string ((ofS ((made l).2) v).str), .int .i64 ((ofS ((made l).2) v).ref)]), (34, .agg #[pB hb8 0, pB gb9 0, lx10]), (35, .agg #[.int .i64 k.v.kind, .int .i64 k.v.p, .int .i64 k.v.q, .string k.v.str, .int .i64 k.v.ref, .int .i64 k.obj]), (37, .agg #[pB hb8 0, pB gb9 0, lx10]), (38, .agg #[.int .i64 x.v.kind, .int .i64 x.v.p, .int .i64 x.v.q, .string x.v.str, .int .i64 x.v.ref, .int .i64 x.obj])]) (fun (g37, g40) => [blkA g40 #[.int .i64 0, .int .i64 0, .int .i64 0, .string ByteArray.empty, .int .i64 0] 26, blkA g37 #[.int .i64 0, .int .i64 0, .int .i64 0, .string ByteArray.empty, .int .i64 0] 26, own VlT lx10 ((made l).2), blkA g12 #[pB hb8 0, pB gb9 0, lx10] 35, hpA hb8 ((made l).1), rhA gb9 ((made l).1), blkA g3 #[.int .i64 x.v.kind, .int .i64 x.v.p, .int .i64 x.v.q, .string x.v.str, .int .i64 x.v.ref, .int .i64 x.obj] 28, blkA g2 #[.int .i64 k.v.kind, .int .i64 k.v.p, .int .i64 k.v.q, .string k.v.str, .int .i64 k.v.ref, .int .i64 k.obj] 28, blkA g1 #[.int .i64 v.v.kind, .int .i64 v.v.p, .int .i64 v.v.q, .string v.v.str, .int .i64 v.v.ref, .int .i64 v.obj] 28]) ?_ (fun hj117 => ?_)
  ·
   rintro ⟨g37, g40⟩
   try dsimp only
   refine h_stepS2 5 10 ?_ ?_
   ·
    refine s_call [2] (of_s (L := (made l).2) (by (try simp only [lnm]); omega) k) ?_
    rintro _ _ ⟨rfl, rfl⟩
    refine s_nil (xs_held [3, 0, 4, 4, 4] ?_)
    exact h_use hj101 (g37, g40) (fun _ h => h.re [1, 1, 0, 0, 0, 0, 0, 0, 0] [])
   ·
    refine s_alloc (.agg #[.int .i64 0, .int .i64 0, .int .i64 0, .string ByteArray.empty, .int .i64 0]) #[.int .i64 0, .int .i64 0, .int .i64 0, .string ByteArray.empty, .int .i64 0] (fun g118 => ?_)
    refine s_nil (xs_held [4, 3, 5, 5, 5] ?_)
    exact h_use hj105 (g37, g118, g40) (fun _ h => h.re [1, 0, 0, 0, 0, 0, 0, 0, 0, 0] [])
  refine h_join (ι := Nat × Nat) 6 #[true, true, true, true, true, false, true, true, false, false, true, true, false, false, false] (fun (g42, g44) => [(9, pB g12 0), (10, .bool true), (12, pB g42 0), (13, pB g44 0), (33, .agg #[.int .i64 ((ofS ((made l).2) v).kind), .int .i64 ((ofS ((made l).2) v).p), .int .i64 ((ofS ((made l).2) v).q), .string ((ofS ((made l).2) v).str), .int .i64 ((ofS ((made l).2) v).ref)]), (34, .agg #[pB hb8 0, pB gb9 0, lx10]), (35, .agg #[.int .i64 k.v.kind, .int .i64 k.v.p, .int .i64 k.v.q, .string k.v.str, .int .i64 k.v.ref, .int .i64 k.obj]), (37, .agg #[pB hb8 0, pB gb9 0, lx10]), (38, .agg #[.int .i64 x.v.kind, .int .i64 x.v.p, .int .i64 x.v.q, .string x.v.str, .int .i64 x.v.ref, .int .i64 x.obj])]) (fun (g42, g44) => [blkA g44 #[.int .i64 0, .int .i64 0, .int .i64 0, .string ByteArray.empty, .int .i64 0] 26, blkA g42 #[.int .i64 0, .int .i64 0, .int .i64 0, .string ByteArray.empty, .int .i64 0] 26, own VlT lx10 ((made l).2), blkA g12 #[pB hb8 0, pB gb9 0, lx10] 35, hpA hb8 ((made l).1), rhA gb9 ((made l).1), blkA g3 #[.int .i64 x.v.kind, .int .i64 x.v.p, .int .i64 x.v.q, .string x.v.str, .int .i64 x.v.ref, .int .i64 x.obj] 28, blkA g2 #[.int .i64 k.v.kind, .int .i64 k.v.p, .int .i64 k.v.q, .string k.v.str, .int .i64 k.v.ref, .int .i64 k.obj] 28, blkA g1 #[.int .i64 v.v.kind, .int .i64 v.v.p, .int .i64 v.v.q, .string v.v.str, .int .i64 v.v.ref, .int .i64 v.obj] 28]) ?_ (fun hj119 => ?_)
  ·
   rintro ⟨g42, g44⟩
   try dsimp only
   refine h_stepS2 5 9 ?_ ?_
   ·
    refine s_call [2] (of_s (L := (made l).2) (by (try simp only [lnm]); omega) k) ?_
    rintro _ _ ⟨rfl, rfl⟩
    refine s_nil (xs_held [3, 0, 4, 4, 4] ?_)
    exact h_use hj103 (g42, g44) (fun _ h => h.re [1, 1, 0, 0, 0, 0, 0, 0, 0] [])
   ·
    refine s_alloc (.agg #[.int .i64 0, .int .i64 0, .int .i64 0, .string ByteArray.empty, .int .i64 0]) #[.int .i64 0, .int .i64 0, .int .i64 0, .string ByteArray.empty, .int .i64 0] (fun g120 => ?_)
    refine s_nil (xs_held [4, 3, 5, 5, 5] ?_)
    exact h_use hj105 (g120, g42, g44) (fun _ h => h.re [1, 1, 0, 0, 0, 0, 0, 0, 0, 0] [])
  refine h_join (ι := Nat × Nat × Nat) 6 #[true, true, false, true, true, false, true, true, false, true, true, true, false, false, false] (fun (g49, g50, g51) => [(9, pB g12 0), (10, .bool true), (11, pB g49 0), (12, pB g50 0), (13, pB g51 0), (31, .agg #[pB hb8 0, pB gb9 0, lx10]), (32, .agg #[.int .i64 v.v.kind, .int .i64 v.v.p, .int .i64 v.v.q, .string v.v.str, .int .i64 v.v.ref, .int .i64 v.obj]), (34, .agg #[pB hb8 0, pB gb9 0, lx10]), (35, .agg #[.int .i64 k.v.kind, .int .i64 k.v.p, .int .i64 k.v.q, .string k.v.str, .int .i64 k.v.ref, .int .i64 k.obj]), (37, .agg #[pB hb8 0, pB gb9 0, lx10]), (38, .agg #[.int .i64 x.v.kind, .int .i64 x.v.p, .int .i64 x.v.q, .string x.v.str, .int .i64 x.v.ref, .int .i64 x.obj])]) (fun (g49, g50, g51) => [blkA g51 #[.int .i64 0, .int .i64 0, .int .i64 0, .string ByteArray.empty, .int .i64 0] 26, blkA g50 #[.int .i64 0, .int .i64 0, .int .i64 0, .string ByteArray.empty, .int .i64 0] 26, blkA g49 #[.int .i64 0, .int .i64 0, .int .i64 0, .string ByteArray.empty, .int .i64 0] 26, blkA g12 #[pB hb8 0, pB gb9 0, lx10] 35, hpA hb8 ((made l).1), rhA gb9 ((made l).1), own VlT lx10 ((made l).2), blkA g3 #[.int .i64 x.v.kind, .int .i64 x.v.p, .int .i64 x.v.q, .string x.v.str, .int .i64 x.v.ref, .int .i64 x.obj] 28, blkA g2 #[.int .i64 k.v.kind, .int .i64 k.v.p, .int .i64 k.v.q, .string k.v.str, .int .i64 k.v.ref, .int .i64 k.obj] 28, blkA g1 #[.int .i64 v.v.kind, .int .i64 v.v.p, .int .i64 v.v.q, .string v.v.str, .int .i64 v.v.ref, .int .i64 v.obj] 28]) ?_ (fun hj121 => ?_)
  ·
   rintro ⟨g49, g50, g51⟩
   try dsimp only
   refine h_stepS 2 ?_
   refine s_call [6] (of_s (L := (made l).2) (by (try simp only [lnm]); omega) v) ?_
   rintro _ _ ⟨rfl, rfl⟩
   refine s_nil (xs_held [4, 0, 5, 5, 5] ?_)
   exact h_use hj105 (g49, g50, g51) (fun _ h => h.re [1, 1, 1, 0, 0, 0, 0, 0, 0, 0] [])
  refine h_join (ι := Nat) 7 #[true, true, true, true, true, false, true, true, false, true, false, false, false, false, false] (fun g37 => [(9, pB g12 0), (10, .bool true), (11, pB g37 0), (33, .agg #[.int .i64 ((ofS ((made l).2) v).kind), .int .i64 ((ofS ((made l).2) v).p), .int .i64 ((ofS ((made l).2) v).q), .string ((ofS ((made l).2) v).str), .int .i64 ((ofS ((made l).2) v).ref)]), (34, .agg #[pB hb8 0, pB gb9 0, lx10]), (35, .agg #[.int .i64 k.v.kind, .int .i64 k.v.p, .int .i64 k.v.q, .string k.v.str, .int .i64 k.v.ref, .int .i64 k.obj]), (37, .agg #[pB hb8 0, pB gb9 0, lx10]), (38, .agg #[.int .i64 x.v.kind, .int .i64 x.v.p, .int .i64 x.v.q, .string x.v.str, .int .i64 x.v.ref, .int .i64 x.obj])]) (fun g37 => [blkA g37 #[.int .i64 0, .int .i64 0, .int .i64 0, .string ByteArray.empty, .int .i64 0] 26, own VlT lx10 ((made l).2), blkA g12 #[pB hb8 0, pB gb9 0, lx10] 35, hpA hb8 ((made l).1), rhA gb9 ((made l).1), blkA g3 #[.int .i64 x.v.kind, .int .i64 x.v.p, .int .i64 x.v.q, .string x.v.str, .int .i64 x.v.ref, .int .i64 x.obj] 28, blkA g2 #[.int .i64 k.v.kind, .int .i64 k.v.p, .int .i64 k.v.q, .string k.v.str, .int .i64 k.v.ref, .int .i64 k.obj] 28, blkA g1 #[.int .i64 v.v.kind, .int .i64 v.v.p, .int .i64 v.v.q, .string v.v.str, .int .i64 v.v.ref, .int .i64 v.obj] 28]) ?_ (fun hj122 => ?_)
  ·
   rintro g37
   try dsimp only
   refine h_stepS3 5 10 11 ?_ ?_ ?_
   ·
    refine s_call [1] (of_s (L := (made l).2) (by (try simp only [lnm]); omega) k) ?_
    rintro _ _ ⟨rfl, rfl⟩
    refine s_nil (xs_held [2, 0, 3, 3, 3] ?_)
    exact h_use hj106 g37 (fun _ h => h.re [1, 0, 0, 0, 0, 0, 0, 0] [])
   ·
    refine s_alloc (.agg #[.int .i64 0, .int .i64 0, .int .i64 0, .string ByteArray.empty, .int .i64 0]) #[.int .i64 0, .int .i64 0, .int .i64 0, .string ByteArray.empty, .int .i64 0] (fun g123 => ?_)
    refine s_nil (xs_held [3, 2, 4, 4, 4] ?_)
    exact h_use hj115 (g37, g123) (fun _ h => h.re [0, 0, 0, 0, 0, 0, 0, 0, 0] [])
   ·
    refine s_alloc (.agg #[.int .i64 0, .int .i64 0, .int .i64 0, .string ByteArray.empty, .int .i64 0]) #[.int .i64 0, .int .i64 0, .int .i64 0, .string ByteArray.empty, .int .i64 0] (fun g124 => ?_)
    refine s_nil (xs_held [3, 2, 4, 4, 4] ?_)
    exact h_use hj117 (g37, g124) (fun _ h => h.re [0, 0, 0, 0, 0, 0, 0, 0, 0] [])
  refine h_join (ι := Nat) 7 #[true, true, true, true, true, false, true, true, false, false, true, false, false, false, false] (fun g42 => [(9, pB g12 0), (10, .bool true), (12, pB g42 0), (33, .agg #[.int .i64 ((ofS ((made l).2) v).kind), .int .i64 ((ofS ((made l).2) v).p), .int .i64 ((ofS ((made l).2) v).q), .string ((ofS ((made l).2) v).str), .int .i64 ((ofS ((made l).2) v).ref)]), (34, .agg #[pB hb8 0, pB gb9 0, lx10]), (35, .agg #[.int .i64 k.v.kind, .int .i64 k.v.p, .int .i64 k.v.q, .string k.v.str, .int .i64 k.v.ref, .int .i64 k.obj]), (37, .agg #[pB hb8 0, pB gb9 0, lx10]), (38, .agg #[.int .i64 x.v.kind, .int .i64 x.v.p, .int .i64 x.v.q, .string x.v.str, .int .i64 x.v.ref, .int .i64 x.obj])]) (fun g42 => [blkA g42 #[.int .i64 0, .int .i64 0, .int .i64 0, .string ByteArray.empty, .int .i64 0] 26, own VlT lx10 ((made l).2), blkA g12 #[pB hb8 0, pB gb9 0, lx10] 35, hpA hb8 ((made l).1), rhA gb9 ((made l).1), blkA g3 #[.int .i64 x.v.kind, .int .i64 x.v.p, .int .i64 x.v.q, .string x.v.str, .int .i64 x.v.ref, .int .i64 x.obj] 28, blkA g2 #[.int .i64 k.v.kind, .int .i64 k.v.p, .int .i64 k.v.q, .string k.v.str, .int .i64 k.v.ref, .int .i64 k.obj] 28, blkA g1 #[.int .i64 v.v.kind, .int .i64 v.v.p, .int .i64 v.v.q, .string v.v.str, .int .i64 v.v.ref, .int .i64 v.obj] 28]) ?_ (fun hj125 => ?_)
  ·
   rintro g42
   try dsimp only
   refine h_stepS3 5 9 11 ?_ ?_ ?_
   ·
    refine s_call [1] (of_s (L := (made l).2) (by (try simp only [lnm]); omega) k) ?_
    rintro _ _ ⟨rfl, rfl⟩
    refine s_nil (xs_held [2, 0, 3, 3, 3] ?_)
    exact h_use hj109 g42 (fun _ h => h.re [1, 0, 0, 0, 0, 0, 0, 0] [])
   ·
    refine s_alloc (.agg #[.int .i64 0, .int .i64 0, .int .i64 0, .string ByteArray.empty, .int .i64 0]) #[.int .i64 0, .int .i64 0, .int .i64 0, .string ByteArray.empty, .int .i64 0] (fun g126 => ?_)
    refine s_nil (xs_held [3, 2, 4, 4, 4] ?_)
    exact h_use hj115 (g126, g42) (fun _ h => h.re [1, 0, 0, 0, 0, 0, 0, 0, 0] [])
   ·
    refine s_alloc (.agg #[.int .i64 0, .int .i64 0, .int .i64 0, .string ByteArray.empty, .int .i64 0]) #[.int .i64 0, .int .i64 0, .int .i64 0, .string ByteArray.empty, .int .i64 0] (fun g127 => ?_)
    refine s_nil (xs_held [3, 2, 4, 4, 4] ?_)
    exact h_use hj119 (g42, g127) (fun _ h => h.re [0, 0, 0, 0, 0, 0, 0, 0, 0] [])
  refine h_join (ι := Nat) 7 #[true, true, true, true, true, false, true, true, false, false, false, true, false, false, false] (fun g46 => [(9, pB g12 0), (10, .bool true), (13, pB g46 0), (33, .agg #[.int .i64 ((ofS ((made l).2) v).kind), .int .i64 ((ofS ((made l).2) v).p), .int .i64 ((ofS ((made l).2) v).q), .string ((ofS ((made l).2) v).str), .int .i64 ((ofS ((made l).2) v).ref)]), (34, .agg #[pB hb8 0, pB gb9 0, lx10]), (35, .agg #[.int .i64 k.v.kind, .int .i64 k.v.p, .int .i64 k.v.q, .string k.v.str, .int .i64 k.v.ref, .int .i64 k.obj]), (37, .agg #[pB hb8 0, pB gb9 0, lx10]), (38, .agg #[.int .i64 x.v.kind, .int .i64 x.v.p, .int .i64 x.v.q, .string x.v.str, .int .i64 x.v.ref, .int .i64 x.obj])]) (fun g46 => [blkA g46 #[.int .i64 0, .int .i64 0, .int .i64 0, .string ByteArray.empty, .int .i64 0] 26, own VlT lx10 ((made l).2), blkA g12 #[pB hb8 0, pB gb9 0, lx10] 35, hpA hb8 ((made l).1), rhA gb9 ((made l).1), blkA g3 #[.int .i64 x.v.kind, .int .i64 x.v.p, .int .i64 x.v.q, .string x.v.str, .int .i64 x.v.ref, .int .i64 x.obj] 28, blkA g2 #[.int .i64 k.v.kind, .int .i64 k.v.p, .int .i64 k.v.q, .string k.v.str, .int .i64 k.v.ref, .int .i64 k.obj] 28, blkA g1 #[.int .i64 v.v.kind, .int .i64 v.v.p, .int .i64 v.v.q, .string v.v.str, .int .i64 v.v.ref, .int .i64 v.obj] 28]) ?_ (fun hj128 => ?_)
  ·
   rintro g46
   try dsimp only
   refine h_stepS3 5 9 10 ?_ ?_ ?_
   ·
    refine s_call [1] (of_s (L := (made l).2) (by (try simp only [lnm]); omega) k) ?_
    rintro _ _ ⟨rfl, rfl⟩
    refine s_nil (xs_held [2, 0, 3, 3, 3] ?_)
    exact h_use hj112 g46 (fun _ h => h.re [1, 0, 0, 0, 0, 0, 0, 0] [])
   ·
    refine s_alloc (.agg #[.int .i64 0, .int .i64 0, .int .i64 0, .string ByteArray.empty, .int .i64 0]) #[.int .i64 0, .int .i64 0, .int .i64 0, .string ByteArray.empty, .int .i64 0] (fun g129 => ?_)
    refine s_nil (xs_held [3, 2, 4, 4, 4] ?_)
    exact h_use hj117 (g129, g46) (fun _ h => h.re [1, 0, 0, 0, 0, 0, 0, 0, 0] [])
   ·
    refine s_alloc (.agg #[.int .i64 0, .int .i64 0, .int .i64 0, .string ByteArray.empty, .int .i64 0]) #[.int .i64 0, .int .i64 0, .int .i64 0, .string ByteArray.empty, .int .i64 0] (fun g130 => ?_)
    refine s_nil (xs_held [3, 2, 4, 4, 4] ?_)
    exact h_use hj119 (g130, g46) (fun _ h => h.re [1, 0, 0, 0, 0, 0, 0, 0, 0] [])
  refine h_join (ι := Nat × Nat) 7 #[true, true, false, true, true, false, true, true, false, true, true, false, false, false, false] (fun (g49, g50) => [(9, pB g12 0), (10, .bool true), (11, pB g49 0), (12, pB g50 0), (31, .agg #[pB hb8 0, pB gb9 0, lx10]), (32, .agg #[.int .i64 v.v.kind, .int .i64 v.v.p, .int .i64 v.v.q, .string v.v.str, .int .i64 v.v.ref, .int .i64 v.obj]), (34, .agg #[pB hb8 0, pB gb9 0, lx10]), (35, .agg #[.int .i64 k.v.kind, .int .i64 k.v.p, .int .i64 k.v.q, .string k.v.str, .int .i64 k.v.ref, .int .i64 k.obj]), (37, .agg #[pB hb8 0, pB gb9 0, lx10]), (38, .agg #[.int .i64 x.v.kind, .int .i64 x.v.p, .int .i64 x.v.q, .string x.v.str, .int .i64 x.v.ref, .int .i64 x.obj])]) (fun (g49, g50) => [blkA g50 #[.int .i64 0, .int .i64 0, .int .i64 0, .string ByteArray.empty, .int .i64 0] 26, blkA g49 #[.int .i64 0, .int .i64 0, .int .i64 0, .string ByteArray.empty, .int .i64 0] 26, blkA g12 #[pB hb8 0, pB gb9 0, lx10] 35, hpA hb8 ((made l).1), rhA gb9 ((made l).1), own VlT lx10 ((made l).2), blkA g3 #[.int .i64 x.v.kind, .int .i64 x.v.p, .int .i64 x.v.q, .string x.v.str, .int .i64 x.v.ref, .int .i64 x.obj] 28, blkA g2 #[.int .i64 k.v.kind, .int .i64 k.v.p, .int .i64 k.v.q, .string k.v.str, .int .i64 k.v.ref, .int .i64 k.obj] 28, blkA g1 #[.int .i64 v.v.kind, .int .i64 v.v.p, .int .i64 v.v.q, .string v.v.str, .int .i64 v.v.ref, .int .i64 v.obj] 28]) ?_ (fun hj131 => ?_)
  ·
   rintro ⟨g49, g50⟩
   try dsimp only
   refine h_stepS2 2 11 ?_ ?_
   ·
    refine s_call [5] (of_s (L := (made l).2) (by (try simp only [lnm]); omega) v) ?_
    rintro _ _ ⟨rfl, rfl⟩
    refine s_nil (xs_held [3, 0, 4, 4, 4] ?_)
    exact h_use hj115 (g49, g50) (fun _ h => h.re [1, 1, 0, 0, 0, 0, 0, 0, 0] [])
   ·
    refine s_alloc (.agg #[.int .i64 0, .int .i64 0, .int .i64 0, .string ByteArray.empty, .int .i64 0]) #[.int .i64 0, .int .i64 0, .int .i64 0, .string ByteArray.empty, .int .i64 0] (fun g132 => ?_)
    refine s_nil (xs_held [3, 5, 5, 5, 5] ?_)
    exact h_use hj121 (g49, g50, g132) (fun _ h => h.re [0, 0, 0, 0, 0, 0, 0, 0, 0, 0] [])
  refine h_join (ι := Nat × Nat) 7 #[true, true, false, true, true, false, true, true, false, true, false, true, false, false, false] (fun (g49, g52) => [(9, pB g12 0), (10, .bool true), (11, pB g49 0), (13, pB g52 0), (31, .agg #[pB hb8 0, pB gb9 0, lx10]), (32, .agg #[.int .i64 v.v.kind, .int .i64 v.v.p, .int .i64 v.v.q, .string v.v.str, .int .i64 v.v.ref, .int .i64 v.obj]), (34, .agg #[pB hb8 0, pB gb9 0, lx10]), (35, .agg #[.int .i64 k.v.kind, .int .i64 k.v.p, .int .i64 k.v.q, .string k.v.str, .int .i64 k.v.ref, .int .i64 k.obj]), (37, .agg #[pB hb8 0, pB gb9 0, lx10]), (38, .agg #[.int .i64 x.v.kind, .int .i64 x.v.p, .int .i64 x.v.q, .string x.v.str, .int .i64 x.v.ref, .int .i64 x.obj])]) (fun (g49, g52) => [blkA g52 #[.int .i64 0, .int .i64 0, .int .i64 0, .string ByteArray.empty, .int .i64 0] 26, blkA g49 #[.int .i64 0, .int .i64 0, .int .i64 0, .string ByteArray.empty, .int .i64 0] 26, blkA g12 #[pB hb8 0, pB gb9 0, lx10] 35, hpA hb8 ((made l).1), rhA gb9 ((made l).1), own VlT lx10 ((made l).2), blkA g3 #[.int .i64 x.v.kind, .int .i64 x.v.p, .int .i64 x.v.q, .string x.v.str, .int .i64 x.v.ref, .int .i64 x.obj] 28, blkA g2 #[.int .i64 k.v.kind, .int .i64 k.v.p, .int .i64 k.v.q, .string k.v.str, .int .i64 k.v.ref, .int .i64 k.obj] 28, blkA g1 #[.int .i64 v.v.kind, .int .i64 v.v.p, .int .i64 v.v.q, .string v.v.str, .int .i64 v.v.ref, .int .i64 v.obj] 28]) ?_ (fun hj133 => ?_)
  ·
   rintro ⟨g49, g52⟩
   try dsimp only
   refine h_stepS2 2 10 ?_ ?_
   ·
    refine s_call [5] (of_s (L := (made l).2) (by (try simp only [lnm]); omega) v) ?_
    rintro _ _ ⟨rfl, rfl⟩
    refine s_nil (xs_held [3, 0, 4, 4, 4] ?_)
    exact h_use hj117 (g49, g52) (fun _ h => h.re [1, 1, 0, 0, 0, 0, 0, 0, 0] [])
   ·
    refine s_alloc (.agg #[.int .i64 0, .int .i64 0, .int .i64 0, .string ByteArray.empty, .int .i64 0]) #[.int .i64 0, .int .i64 0, .int .i64 0, .string ByteArray.empty, .int .i64 0] (fun g134 => ?_)
    refine s_nil (xs_held [3, 5, 5, 5, 5] ?_)
    exact h_use hj121 (g49, g134, g52) (fun _ h => h.re [1, 0, 0, 0, 0, 0, 0, 0, 0, 0] [])
  refine h_join (ι := Nat × Nat) 7 #[true, true, false, true, true, false, true, true, false, false, true, true, false, false, false] (fun (g54, g56) => [(9, pB g12 0), (10, .bool true), (12, pB g54 0), (13, pB g56 0), (31, .agg #[pB hb8 0, pB gb9 0, lx10]), (32, .agg #[.int .i64 v.v.kind, .int .i64 v.v.p, .int .i64 v.v.q, .string v.v.str, .int .i64 v.v.ref, .int .i64 v.obj]), (34, .agg #[pB hb8 0, pB gb9 0, lx10]), (35, .agg #[.int .i64 k.v.kind, .int .i64 k.v.p, .int .i64 k.v.q, .string k.v.str, .int .i64 k.v.ref, .int .i64 k.obj]), (37, .agg #[pB hb8 0, pB gb9 0, lx10]), (38, .agg #[.int .i64 x.v.kind, .int .i64 x.v.p, .int .i64 x.v.q, .string x.v.str, .int .i64 x.v.ref, .int .i64 x.obj])]) (fun (g54, g56) => [blkA g56 #[.int .i64 0, .int .i64 0, .int .i64 0, .string ByteArray.empty, .int .i64 0] 26, blkA g54 #[.int .i64 0, .int .i64 0, .int .i64 0, .string ByteArray.empty, .int .i64 0] 26, blkA g12 #[pB hb8 0, pB gb9 0, lx10] 35, hpA hb8 ((made l).1), rhA gb9 ((made l).1), own VlT lx10 ((made l).2), blkA g3 #[.int .i64 x.v.kind, .int .i64 x.v.p, .int .i64 x.v.q, .string x.v.str, .int .i64 x.v.ref, .int .i64 x.obj] 28, blkA g2 #[.int .i64 k.v.kind, .int .i64 k.v.p, .int .i64 k.v.q, .string k.v.str, .int .i64 k.v.ref, .int .i64 k.obj] 28, blkA g1 #[.int .i64 v.v.kind, .int .i64 v.v.p, .int .i64 v.v.q, .string v.v.str, .int .i64 v.v.ref, .int .i64 v.obj] 28]) ?_ (fun hj135 => ?_)
  ·
   rintro ⟨g54, g56⟩
   try dsimp only
   refine h_stepS2 2 9 ?_ ?_
   ·
    refine s_call [5] (of_s (L := (made l).2) (by (try simp only [lnm]); omega) v) ?_
    rintro _ _ ⟨rfl, rfl⟩
    refine s_nil (xs_held [3, 0, 4, 4, 4] ?_)
    exact h_use hj119 (g54, g56) (fun _ h => h.re [1, 1, 0, 0, 0, 0, 0, 0, 0] [])
   ·
    refine s_alloc (.agg #[.int .i64 0, .int .i64 0, .int .i64 0, .string ByteArray.empty, .int .i64 0]) #[.int .i64 0, .int .i64 0, .int .i64 0, .string ByteArray.empty, .int .i64 0] (fun g136 => ?_)
    refine s_nil (xs_held [3, 5, 5, 5, 5] ?_)
    exact h_use hj121 (g136, g54, g56) (fun _ h => h.re [1, 1, 0, 0, 0, 0, 0, 0, 0, 0] [])
  refine h_stepS4 2 9 10 11 ?_ ?_ ?_ ?_
  ·
   refine s_call [3] (of_s (L := (made l).2) (by (try simp only [lnm]); omega) v) ?_
   rintro _ _ ⟨rfl, rfl⟩
   refine s_nil (xs_held [1, 0, 2, 2, 2] ?_)
   refine h_stepS4 5 9 10 11 ?_ ?_ ?_ ?_
   ·
    refine s_call [0] (of_s (L := (made l).2) (by (try simp only [lnm]); omega) k) ?_
    rintro _ _ ⟨rfl, rfl⟩
    refine s_nil (xs_held [1, 0, 2, 2, 2] ?_)
    refine h_stepS4 8 9 10 11 ?_ ?_ ?_ ?_
    ·
     refine s_call [0] (of_s (L := (made l).2) (by (try simp only [lnm]); omega) x) ?_
     rintro _ _ ⟨rfl, rfl⟩
     refine s_nil (xs_held [1, 0, 2, 2, 2] ?_)
     refine h_stepS3 9 10 11 ?_ ?_ ?_
     ·
      refine s_alloc (.agg #[.int .i64 0, .int .i64 0, .int .i64 0, .string ByteArray.empty, .int .i64 0]) #[.int .i64 0, .int .i64 0, .int .i64 0, .string ByteArray.empty, .int .i64 0] (fun g137 => ?_)
      refine s_nil (xs_held [2, 1, 3, 3, 3] ?_)
      exact h_use hj90 g137 (fun _ h => h.re [0, 0, 0, 0, 0, 0, 0, 0] [])
     ·
      refine s_alloc (.agg #[.int .i64 0, .int .i64 0, .int .i64 0, .string ByteArray.empty, .int .i64 0]) #[.int .i64 0, .int .i64 0, .int .i64 0, .string ByteArray.empty, .int .i64 0] (fun g138 => ?_)
      refine s_nil (xs_held [2, 1, 3, 3, 3] ?_)
      exact h_use hj93 g138 (fun _ h => h.re [0, 0, 0, 0, 0, 0, 0, 0] [])
     ·
      refine s_alloc (.agg #[.int .i64 0, .int .i64 0, .int .i64 0, .string ByteArray.empty, .int .i64 0]) #[.int .i64 0, .int .i64 0, .int .i64 0, .string ByteArray.empty, .int .i64 0] (fun g139 => ?_)
      refine s_nil (xs_held [2, 1, 3, 3, 3] ?_)
      exact h_use hj96 g139 (fun _ h => h.re [0, 0, 0, 0, 0, 0, 0, 0] [])
    ·
     refine s_alloc (.agg #[.int .i64 0, .int .i64 0, .int .i64 0, .string ByteArray.empty, .int .i64 0]) #[.int .i64 0, .int .i64 0, .int .i64 0, .string ByteArray.empty, .int .i64 0] (fun g140 => ?_)
     refine s_nil (xs_held [2, 1, 3, 3, 3] ?_)
     exact h_use hj106 g140 (fun _ h => h.re [0, 0, 0, 0, 0, 0, 0, 0] [])
    ·
     refine s_alloc (.agg #[.int .i64 0, .int .i64 0, .int .i64 0, .string ByteArray.empty, .int .i64 0]) #[.int .i64 0, .int .i64 0, .int .i64 0, .string ByteArray.empty, .int .i64 0] (fun g141 => ?_)
     refine s_nil (xs_held [2, 1, 3, 3, 3] ?_)
     exact h_use hj109 g141 (fun _ h => h.re [0, 0, 0, 0, 0, 0, 0, 0] [])
    ·
     refine s_alloc (.agg #[.int .i64 0, .int .i64 0, .int .i64 0, .string ByteArray.empty, .int .i64 0]) #[.int .i64 0, .int .i64 0, .int .i64 0, .string ByteArray.empty, .int .i64 0] (fun g142 => ?_)
     refine s_nil (xs_held [2, 1, 3, 3, 3] ?_)
     exact h_use hj112 g142 (fun _ h => h.re [0, 0, 0, 0, 0, 0, 0, 0] [])
   ·
    refine s_alloc (.agg #[.int .i64 0, .int .i64 0, .int .i64 0, .string ByteArray.empty, .int .i64 0]) #[.int .i64 0, .int .i64 0, .int .i64 0, .string ByteArray.empty, .int .i64 0] (fun g143 => ?_)
    refine s_nil (xs_held [2, 1, 3, 3, 3] ?_)
    exact h_use hj122 g143 (fun _ h => h.re [0, 0, 0, 0, 0, 0, 0, 0] [])
   ·
    refine s_alloc (.agg #[.int .i64 0, .int .i64 0, .int .i64 0, .string ByteArray.empty, .int .i64 0]) #[.int .i64 0, .int .i64 0, .int .i64 0, .string ByteArray.empty, .int .i64 0] (fun g144 => ?_)
    refine s_nil (xs_held [2, 1, 3, 3, 3] ?_)
    exact h_use hj125 g144 (fun _ h => h.re [0, 0, 0, 0, 0, 0, 0, 0] [])
   ·
    refine s_alloc (.agg #[.int .i64 0, .int .i64 0, .int .i64 0, .string ByteArray.empty, .int .i64 0]) #[.int .i64 0, .int .i64 0, .int .i64 0, .string ByteArray.empty, .int .i64 0] (fun g145 => ?_)
    refine s_nil (xs_held [2, 1, 3, 3, 3] ?_)
    exact h_use hj128 g145 (fun _ h => h.re [0, 0, 0, 0, 0, 0, 0, 0] [])
  ·
   refine s_alloc (.agg #[.int .i64 0, .int .i64 0, .int .i64 0, .string ByteArray.empty, .int .i64 0]) #[.int .i64 0, .int .i64 0, .int .i64 0, .string ByteArray.empty, .int .i64 0] (fun g146 => ?_)
   refine s_nil (xs_held [1, 3, 3, 3, 3] ?_)
   refine h_stepS3 2 10 11 ?_ ?_ ?_
   ·
    refine s_call [4] (of_s (L := (made l).2) (by (try simp only [lnm]); omega) v) ?_
    rintro _ _ ⟨rfl, rfl⟩
    refine s_nil (xs_held [2, 0, 3, 3, 3] ?_)
    exact h_use hj122 g146 (fun _ h => h.re [1, 0, 0, 0, 0, 0, 0, 0] [])
   ·
    refine s_alloc (.agg #[.int .i64 0, .int .i64 0, .int .i64 0, .string ByteArray.empty, .int .i64 0]) #[.int .i64 0, .int .i64 0, .int .i64 0, .string ByteArray.empty, .int .i64 0] (fun g147 => ?_)
    refine s_nil (xs_held [2, 4, 4, 4, 4] ?_)
    exact h_use hj131 (g146, g147) (fun _ h => h.re [0, 0, 0, 0, 0, 0, 0, 0, 0] [])
   ·
    refine s_alloc (.agg #[.int .i64 0, .int .i64 0, .int .i64 0, .string ByteArray.empty, .int .i64 0]) #[.int .i64 0, .int .i64 0, .int .i64 0, .string ByteArray.empty, .int .i64 0] (fun g148 => ?_)
    refine s_nil (xs_held [2, 4, 4, 4, 4] ?_)
    exact h_use hj133 (g146, g148) (fun _ h => h.re [0, 0, 0, 0, 0, 0, 0, 0, 0] [])
  ·
   refine s_alloc (.agg #[.int .i64 0, .int .i64 0, .int .i64 0, .string ByteArray.empty, .int .i64 0]) #[.int .i64 0, .int .i64 0, .int .i64 0, .string ByteArray.empty, .int .i64 0] (fun g149 => ?_)
   refine s_nil (xs_held [1, 3, 3, 3, 3] ?_)
   refine h_stepS3 2 9 11 ?_ ?_ ?_
   ·
    refine s_call [4] (of_s (L := (made l).2) (by (try simp only [lnm]); omega) v) ?_
    rintro _ _ ⟨rfl, rfl⟩
    refine s_nil (xs_held [2, 0, 3, 3, 3] ?_)
    exact h_use hj125 g149 (fun _ h => h.re [1, 0, 0, 0, 0, 0, 0, 0] [])
   ·
    refine s_alloc (.agg #[.int .i64 0, .int .i64 0, .int .i64 0, .string ByteArray.empty, .int .i64 0]) #[.int .i64 0, .int .i64 0, .int .i64 0, .string ByteArray.empty, .int .i64 0] (fun g150 => ?_)
    refine s_nil (xs_held [2, 4, 4, 4, 4] ?_)
    exact h_use hj131 (g150, g149) (fun _ h => h.re [1, 0, 0, 0, 0, 0, 0, 0, 0] [])
   ·
    refine s_alloc (.agg #[.int .i64 0, .int .i64 0, .int .i64 0, .string ByteArray.empty, .int .i64 0]) #[.int .i64 0, .int .i64 0, .int .i64 0, .string ByteArray.empty, .int .i64 0] (fun g151 => ?_)
    refine s_nil (xs_held [2, 4, 4, 4, 4] ?_)
    exact h_use hj135 (g149, g151) (fun _ h => h.re [0, 0, 0, 0, 0, 0, 0, 0, 0] [])
  ·
   refine s_alloc (.agg #[.int .i64 0, .int .i64 0, .int .i64 0, .string ByteArray.empty, .int .i64 0]) #[.int .i64 0, .int .i64 0, .int .i64 0, .string ByteArray.empty, .int .i64 0] (fun g152 => ?_)
   refine s_nil (xs_held [1, 3, 3, 3, 3] ?_)
   refine h_stepS3 2 9 10 ?_ ?_ ?_
   ·
    refine s_call [4] (of_s (L := (made l).2) (by (try simp only [lnm]); omega) v) ?_
    rintro _ _ ⟨rfl, rfl⟩
    refine s_nil (xs_held [2, 0, 3, 3, 3] ?_)
    exact h_use hj128 g152 (fun _ h => h.re [1, 0, 0, 0, 0, 0, 0, 0] [])
   ·
    refine s_alloc (.agg #[.int .i64 0, .int .i64 0, .int .i64 0, .string ByteArray.empty, .int .i64 0]) #[.int .i64 0, .int .i64 0, .int .i64 0, .string ByteArray.empty, .int .i64 0] (fun g153 => ?_)
    refine s_nil (xs_held [2, 4, 4, 4, 4] ?_)
    exact h_use hj133 (g153, g152) (fun _ h => h.re [1, 0, 0, 0, 0, 0, 0, 0, 0] [])
   ·
    refine s_alloc (.agg #[.int .i64 0, .int .i64 0, .int .i64 0, .string ByteArray.empty, .int .i64 0]) #[.int .i64 0, .int .i64 0, .int .i64 0, .string ByteArray.empty, .int .i64 0] (fun g154 => ?_)
    refine s_nil (xs_held [2, 4, 4, 4, 4] ?_)
    exact h_use hj135 (g154, g152) (fun _ h => h.re [1, 0, 0, 0, 0, 0, 0, 0, 0] [])
end Go.Proofs.Ytplkkhpokodbmaa
