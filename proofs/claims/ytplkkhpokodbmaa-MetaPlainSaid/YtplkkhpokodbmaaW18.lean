/-
  Layer 15: MetaPlain. Each law says its conditions.
-/
import Derived.Test.YtplkkhpokodbmaaW15
import Derived.Test.YtplkkhpokodbmaaW12
import Derived.Test.YtplkkhpokodbmaaPL
set_option linter.unusedSimpArgs false
set_option linter.unusedVariables false
set_option maxRecDepth 100000
set_option maxHeartbeats 2000000
namespace Go.Proofs.Ytplkkhpokodbmaa
open Go.Hp Go.J Go.S
open Go.Mem (Ty KTy blk elemAt pre suf blk_pre blk_suf aget aset strK aggDesc)
open Go.Mem (adel apos aget_aset aget_adel)
section
variable {st : Hst} {k v : Vl}
theorem nT_hdl (hc : st.count < 65536) (ev : ByteArray) : hdl (nT st) (hmakeV st 4) ev = zVl := by unfold hdl; rw [nT_meta hc]; rfl
theorem pl_sta (hc : st.count < 65536) : sta (nT st) k v (hmakeV st 4) (hdl (nT st) (hmakeV st 4) ⟨#[95, 95, 110, 101, 119, 105, 110, 100, 101, 120]⟩) = (storN 4 (hsetE (nT st) (hmakeV st 4) k v), true) := by
  rw [sta, if_pos ⟨nT_kind hc, fun h => h.2 (by rw [nT_hdl hc]; rfl)⟩, nT_kind hc]
theorem pl_asg (hc : st.count < 65536) : asg (nT st) k v 32 (hmakeV st 4) = storN 4 (hsetE (nT st) (hmakeV st 4) k v) :=
  (chn_set (i := 0) (by omega) (by rw [pl_sta hc])).trans (by rw [pl_sta hc])
theorem pl_asgS (hc : st.count < 65536) : asgS (nT st) k v 32 (hmakeV st 4) = hset (nT st) (hmakeV st 4) k v := chnS_set (i := 0) (by omega) (by rw [pl_sta hc])
theorem pl_idx (hc : st.count < 65536) (he : hsetE (nT st) (hmakeV st 4) k v = 0) : idx (hset (nT st) (hmakeV st 4) k v) k 32 (hmakeV st 4) = giveN v := by
  have hh : hdl (hset (nT st) (hmakeV st 4) k v) (hmakeV st 4) ⟨#[95, 95, 105, 110, 100, 101, 120]⟩ = zVl := by unfold hdl; rw [nT_meta2 hc he]; rfl
  have hs : stl (hset (nT st) (hmakeV st 4) k v) k (hmakeV st 4) (hdl (hset (nT st) (hmakeV st 4) k v) (hmakeV st 4) ⟨#[95, 95, 105, 110, 100, 101, 120]⟩) = (giveN v, true) := by
    rw [stl, if_pos (nT_kind hc), nT_get hc he, hh]; simp [zVl]
  exact (chn_set (i := 0) (by omega) (by rw [hs])).trans (by rw [hs])
theorem stor_zero (kd : Int) : storN kd 0 = giveN zVl := by rw [storN, if_pos rfl]
theorem stor_kind {kd e : Int} (h : e ≠ 0) : (storN kd e).kind = 3 := by
  rw [storN, if_neg h]
  split
  · rfl
  split <;> rfl
end
theorem plain_w {Z : Zone} {lv : Value} {l : List Opc} (hl0 : Kn Z OpT lv l) (k x : Spc) : SF Try.prog 8 #[lv, k.w, x.w] Z [] fun r Bs => r = .bool true ∧ Bs = [] := by
 refine sf_enter Try.func8 108 [(0, lv), (1, .agg #[.int .i64 k.v.kind, .int .i64 k.v.p, .int .i64 k.v.q, .string k.v.str, .int .i64 k.v.ref, .int .i64 k.obj]), (2, .agg #[.int .i64 x.v.kind, .int .i64 x.v.p, .int .i64 x.v.q, .string x.v.str, .int .i64 x.v.ref, .int .i64 x.obj])] (fun w0 => ?_)
 refine k_sr ?_
 refine s_box #[.int .i64 k.v.kind, .int .i64 k.v.p, .int .i64 k.v.q, .string k.v.str, .int .i64 k.v.ref, .int .i64 k.obj] (fun g1 => ?_)
 refine s_box #[.int .i64 x.v.kind, .int .i64 x.v.p, .int .i64 x.v.q, .string x.v.str, .int .i64 x.v.ref, .int .i64 x.obj] (fun g2 => ?_)
 refine sp (.bool false) ?_
 refine s_nt ?_
 refine k_seq ?_
 refine k_sr ?_
 refine sp lv ?_
 refine s_lt (t_loadA 1 #[.int .i64 k.v.kind, .int .i64 k.v.p, .int .i64 k.v.q, .string k.v.str, .int .i64 k.v.ref, .int .i64 k.obj]) ?_
 refine s_lt (t_loadA 0 #[.int .i64 x.v.kind, .int .i64 x.v.p, .int .i64 x.v.q, .string x.v.str, .int .i64 x.v.ref, .int .i64 x.obj]) ?_
 refine s_buildSlice (e := 28) [(0, .agg #[.int .i64 k.v.kind, .int .i64 k.v.p, .int .i64 k.v.q, .string k.v.str, .int .i64 k.v.ref, .int .i64 k.obj]), (1, .agg #[.int .i64 x.v.kind, .int .i64 x.v.p, .int .i64 x.v.q, .string x.v.str, .int .i64 x.v.ref, .int .i64 x.obj])] #[.int .i64 k.v.kind, .int .i64 k.v.p, .int .i64 k.v.q, .string k.v.str, .int .i64 k.v.ref, .int .i64 k.obj, .int .i64 x.v.kind, .int .i64 x.v.p, .int .i64 x.v.q, .string x.v.str, .int .i64 x.v.ref, .int .i64 x.obj] (fun g3 => ?_) (hb := by kernel_rfl)
 refine s_mem (fun _ h => Holds.slice 0 h SpT_ok [k, x]) ?_
 refine s_call [0] (large_s (M := [k, x]) hl0 (by (try simp only [lnm]); omega)) ?_
 rintro _ _ ⟨lg4, rfl, hlg5, rfl⟩
 refine s_nt ?_
 refine k_cond lg4 (fun c6 => ?_) (fun c6 => ?_)
 ·
  refine k_sr ?_
  refine s_vcall (fun _ h => lives_s) ?_
  rintro _ rfl
  refine sp (.bool true) ?_
  refine s_nt ?_
  refine k_ret ?_
  refine xs_ret ?_
  exact xs_fin [.bool true] [] (SI.tmp 6 SI.nil) (fun _ h => h.re [] [0, 0]) ⟨rfl, rfl⟩
 ·
  refine k_st ?_
  refine k_sr ?_
  refine sp lv ?_
  refine s_call [] (made_s hl0) ?_
  rintro _ _ ⟨hb7, gb8, lx9, rfl, rfl⟩
  refine s_fact (fun H h => ((Acc.own (T := VlT) (L := (made l).2) 2 rfl) H h).form) (fun hf10 => ?_)
  obtain ⟨hinv, hsm, hll⟩ := made_good l
  refine sp (.tuple #[.agg #[pB hb7 0, pB gb8 0, lx9], .bool true]) ?_
  refine sp (.agg #[pB hb7 0, pB gb8 0, lx9]) ?_
  refine sp (.bool true) ?_
  refine s_alloc (.agg #[.pointer none, .pointer none, (.slice none 0 0)]) #[.pointer none, .pointer none, (.slice none 0 0)] (fun g11 => ?_)
  refine s_store (u := .agg #[pB hb7 0, pB gb8 0, lx9]) (m := 3) 0 #[pB hb7 0, pB gb8 0, lx9] ?_ (hm := by (obtain ⟨_, _, e⟩ := hf10; rw [e]; rfl)) (h1 := by (obtain ⟨_, _, e⟩ := hf10; rw [e]; rfl)) (ha' := by (obtain ⟨_, _, e⟩ := hf10; rw [e]; rfl))
  refine sp (.bool true) ?_
  refine s_nt ?_
  refine k_seq ?_
  refine k_sr ?_
  refine sp (.bool true) ?_
  refine sp (.bool false) ?_
  refine s_nt ?_
  refine k_false ?_
  refine k_st ?_
  have hc0 : (made l).1.count < 65536 := by have h1 := hsm.len; have h2 : (made l).1.count ≤ (made l).1.objs.length := List.countP_le_length; omega
  have hE0 : hmakeE (made l).1 = 0 := by unfold hmakeE; rw [if_neg (by omega)]
  refine k_sr ?_
  refine sp (pB g11 0) ?_
  refine s_lt (t_load 0 (pB hb7 0)) ?_
  refine s_call [1] (hnewtable_s (st := (made l).1) (by have := hsm.len; omega)) ?_
  rintro _ _ ⟨rfl, rfl⟩
  have hi12 := hmake_inv (o := (newO 4 0 ByteArray.empty [])) hinv (newO_inv _ _ _ (by decide))
  have hs13 := hmake_sm (o := (newO 4 0 ByteArray.empty [])) hsm rfl (by decide)
  refine sp (.tuple #[.agg #[.int .i64 ((hmakeV ((made l).1) 4).kind), .int .i64 ((hmakeV ((made l).1) 4).p), .int .i64 ((hmakeV ((made l).1) 4).q), .string ((hmakeV ((made l).1) 4).str), .int .i64 ((hmakeV ((made l).1) 4).ref)], .int .i64 (hmakeE ((made l).1))]) ?_
  refine sp (.agg #[.int .i64 ((hmakeV ((made l).1) 4).kind), .int .i64 ((hmakeV ((made l).1) 4).p), .int .i64 ((hmakeV ((made l).1) 4).q), .string ((hmakeV ((made l).1) 4).str), .int .i64 ((hmakeV ((made l).1) 4).ref)]) ?_
  refine sp (.int .i64 (hmakeE ((made l).1))) ?_
  refine s_alloc (.agg #[.int .i64 0, .int .i64 0, .int .i64 0, .string ByteArray.empty, .int .i64 0]) #[.int .i64 0, .int .i64 0, .int .i64 0, .string ByteArray.empty, .int .i64 0] (fun g14 => ?_)
  refine s_store 0 #[.int .i64 ((hmakeV ((made l).1) 4).kind), .int .i64 ((hmakeV ((made l).1) 4).p), .int .i64 ((hmakeV ((made l).1) 4).q), .string ((hmakeV ((made l).1) 4).str), .int .i64 ((hmakeV ((made l).1) 4).ref)] ?_
  refine sp (.int .i64 (hmakeE ((made l).1))) ?_
  refine s_nt ?_
  refine k_seq ?_
  refine k_sr ?_
  refine sp (.int .i64 (hmakeE ((made l).1))) ?_
  refine s_lt (Lt.to t_cmp (congrArg Value.bool (decide_eq_false (fun h => h hE0) : (decide ((hmakeE ((made l).1)) ≠ 0)) = false))) ?_
  refine s_nt ?_
  refine k_false ?_
  refine k_st ?_
  refine k_seq ?_
  refine k_held [blkA g14 #[.int .i64 ((hmakeV ((made l).1) 4).kind), .int .i64 ((hmakeV ((made l).1) 4).p), .int .i64 ((hmakeV ((made l).1) 4).q), .string ((hmakeV ((made l).1) 4).str), .int .i64 ((hmakeV ((made l).1) 4).ref)] 26, blkA g11 #[pB hb7 0, pB gb8 0, lx9] 35, own VlT lx9 ((made l).2), blkA g2 #[.int .i64 x.v.kind, .int .i64 x.v.p, .int .i64 x.v.q, .string x.v.str, .int .i64 x.v.ref, .int .i64 x.obj] 28, blkA g1 #[.int .i64 k.v.kind, .int .i64 k.v.p, .int .i64 k.v.q, .string k.v.str, .int .i64 k.v.ref, .int .i64 k.obj] 28] ?_
  refine h_l 0 rfl [0, 1, 2, 2, 2] (fun _ => (t_loadA 1 #[pB hb7 0, pB gb8 0, lx9])) ?_
  refine h_l 1 rfl [0, 1, 2, 2, 2] (fun _ => (t_loadA 4 #[.int .i64 k.v.kind, .int .i64 k.v.p, .int .i64 k.v.q, .string k.v.str, .int .i64 k.v.ref, .int .i64 k.obj])) ?_
  refine h_l 3 rfl [0, 1, 2, 2, 2] (fun _ => (t_loadA 1 #[pB hb7 0, pB gb8 0, lx9])) ?_
  refine h_l 4 rfl [0, 1, 2, 2, 2] (fun _ => (t_loadA 3 #[.int .i64 x.v.kind, .int .i64 x.v.p, .int .i64 x.v.q, .string x.v.str, .int .i64 x.v.ref, .int .i64 x.obj])) ?_
  refine h_join (ι := Nat × Nat) 2 #[true, true, true, true, true, true, true, true, false, false] (fun (g15, g16) => [(7, pB g11 0), (9, pB g14 0), (11, pB g15 0), (12, pB g16 0), (40, .agg #[.int .i64 ((ofS ((made l).2) k).kind), .int .i64 ((ofS ((made l).2) k).p), .int .i64 ((ofS ((made l).2) k).q), .string ((ofS ((made l).2) k).str), .int .i64 ((ofS ((made l).2) k).ref)]), (43, .agg #[.int .i64 ((ofS ((made l).2) x).kind), .int .i64 ((ofS ((made l).2) x).p), .int .i64 ((ofS ((made l).2) x).q), .string ((ofS ((made l).2) x).str), .int .i64 ((ofS ((made l).2) x).ref)])]) (fun (g15, g16) => [blkA g16 #[.int .i64 0, .int .i64 0, .int .i64 0, .string ByteArray.empty, .int .i64 0] 26, blkA g15 #[.int .i64 0, .int .i64 0, .int .i64 0, .string ByteArray.empty, .int .i64 0] 26, own VlT lx9 ((made l).2), blkA g14 #[.int .i64 ((hmakeV ((made l).1) 4).kind), .int .i64 ((hmakeV ((made l).1) 4).p), .int .i64 ((hmakeV ((made l).1) 4).q), .string ((hmakeV ((made l).1) 4).str), .int .i64 ((hmakeV ((made l).1) 4).ref)] 26, hpA hb7 (hmake ((made l).1) (newO 4 0 ByteArray.empty [])), blkA g11 #[pB hb7 0, pB gb8 0, lx9] 35, rhA gb8 ((made l).1), blkA g2 #[.int .i64 x.v.kind, .int .i64 x.v.p, .int .i64 x.v.q, .string x.v.str, .int .i64 x.v.ref, .int .i64 x.obj] 28, blkA g1 #[.int .i64 k.v.kind, .int .i64 k.v.p, .int .i64 k.v.q, .string k.v.str, .int .i64 k.v.ref, .int .i64 k.obj] 28]) ?_ (fun hj27 => ?_)
  ·
   rintro ⟨g15, g16⟩
   try dsimp only
   refine h_stepS 8 ?_
   refine s_store 1 #[.int .i64 ((ofS ((made l).2) k).kind), .int .i64 ((ofS ((made l).2) k).p), .int .i64 ((ofS ((made l).2) k).q), .string ((ofS ((made l).2) k).str), .int .i64 ((ofS ((made l).2) k).ref)] ?_
   refine s_nil (xs_held [3, 4, 2, 4, 4] ?_)
   refine h_stepS 9 ?_
   refine s_store 0 #[.int .i64 ((ofS ((made l).2) x).kind), .int .i64 ((ofS ((made l).2) x).p), .int .i64 ((ofS ((made l).2) x).q), .string ((ofS ((made l).2) x).str), .int .i64 ((ofS ((made l).2) x).ref)] ?_
   refine s_nil (xs_held [3, 4, 2, 4, 4] ?_)
   refine h_doneS ?_
   refine xs_then ?_
   refine k_sr ?_
   refine sp (pB g11 0) ?_
   refine s_lt (t_load 5 (pB hb7 0)) ?_
   refine s_lt (t_loadA 3 #[.int .i64 ((hmakeV ((made l).1) 4).kind), .int .i64 ((hmakeV ((made l).1) 4).p), .int .i64 ((hmakeV ((made l).1) 4).q), .string ((hmakeV ((made l).1) 4).str), .int .i64 ((hmakeV ((made l).1) 4).ref)]) ?_
   refine s_lt (t_loadA 1 #[.int .i64 ((ofS ((made l).2) k).kind), .int .i64 ((ofS ((made l).2) k).p), .int .i64 ((ofS ((made l).2) k).q), .string ((ofS ((made l).2) k).str), .int .i64 ((ofS ((made l).2) k).ref)]) ?_
   refine s_lt (t_loadA 0 #[.int .i64 ((ofS ((made l).2) x).kind), .int .i64 ((ofS ((made l).2) x).p), .int .i64 ((ofS ((made l).2) x).q), .string ((ofS ((made l).2) x).str), .int .i64 ((ofS ((made l).2) x).ref)]) ?_
   refine s_call [4] (assign_s (st := (hmake ((made l).1) (newO 4 0 ByteArray.empty []))) hs13 (by omega) (hmakeV ((made l).1) 4) (ofS ((made l).2) k) (ofS ((made l).2) x)) ?_
   rintro _ _ ⟨av28, rfl, rfl⟩
   refine s_fact (fun H h => ((Acc.own (T := VlT) (L := (asg (hmake ((made l).1) (newO 4 0 ByteArray.empty [])) (ofS ((made l).2) k) (ofS ((made l).2) x) 32 (hmakeV ((made l).1) 4)).args) 0 rfl) H h).form) (fun hf29 => ?_)
   have hg30 := asgS_good hi12 hs13 (ofS ((made l).2) k) (ofS ((made l).2) x) (hmakeV ((made l).1) 4) 32
   refine s_alloc (.agg #[.int .i64 0, .int .i64 0, .int .i64 0, .int .i64 0, .string ByteArray.empty, .int .i64 0, .int .i64 0, .int .i64 0, .int .i64 0, .string ByteArray.empty, .int .i64 0, (.slice none 0 0), .int .i64 0, .string ByteArray.empty]) #[.int .i64 0, .int .i64 0, .int .i64 0, .int .i64 0, .string ByteArray.empty, .int .i64 0, .int .i64 0, .int .i64 0, .int .i64 0, .string ByteArray.empty, .int .i64 0, (.slice none 0 0), .int .i64 0, .string ByteArray.empty] (fun g31 => ?_)
   refine s_store (u := .agg #[.int .i64 ((asg (hmake ((made l).1) (newO 4 0 ByteArray.empty [])) (ofS ((made l).2) k) (ofS ((made l).2) x) 32 (hmakeV ((made l).1) 4)).kind), .int .i64 (((asg (hmake ((made l).1) (newO 4 0 ByteArray.empty [])) (ofS ((made l).2) k) (ofS ((made l).2) x) 32 (hmakeV ((made l).1) 4)).val).kind), .int .i64 (((asg (hmake ((made l).1) (newO 4 0 ByteArray.empty [])) (ofS ((made l).2) k) (ofS ((made l).2) x) 32 (hmakeV ((made l).1) 4)).val).p), .int .i64 (((asg (hmake ((made l).1) (newO 4 0 ByteArray.empty [])) (ofS ((made l).2) k) (ofS ((made l).2) x) 32 (hmakeV ((made l).1) 4)).val).q), .string (((asg (hmake ((made l).1) (newO 4 0 ByteArray.empty [])) (ofS ((made l).2) k) (ofS ((made l).2) x) 32 (hmakeV ((made l).1) 4)).val).str), .int .i64 (((asg (hmake ((made l).1) (newO 4 0 ByteArray.empty [])) (ofS ((made l).2) k) (ofS ((made l).2) x) 32 (hmakeV ((made l).1) 4)).val).ref), .int .i64 (((asg (hmake ((made l).1) (newO 4 0 ByteArray.empty [])) (ofS ((made l).2) k) (ofS ((made l).2) x) 32 (hmakeV ((made l).1) 4)).fn).kind), .int .i64 (((asg (hmake ((made l).1) (newO 4 0 ByteArray.empty [])) (ofS ((made l).2) k) (ofS ((made l).2) x) 32 (hmakeV ((made l).1) 4)).fn).p), .int .i64 (((asg (hmake ((made l).1) (newO 4 0 ByteArray.empty [])) (ofS ((made l).2) k) (ofS ((made l).2) x) 32 (hmakeV ((made l).1) 4)).fn).q), .string (((asg (hmake ((made l).1) (newO 4 0 ByteArray.empty [])) (ofS ((made l).2) k) (ofS ((made l).2) x) 32 (hmakeV ((made l).1) 4)).fn).str), .int .i64 (((asg (hmake ((made l).1) (newO 4 0 ByteArray.empty [])) (ofS ((made l).2) k) (ofS ((made l).2) x) 32 (hmakeV ((made l).1) 4)).fn).ref), av28, .int .i64 ((asg (hmake ((made l).1) (newO 4 0 ByteArray.empty [])) (ofS ((made l).2) k) (ofS ((made l).2) x) 32 (hmakeV ((made l).1) 4)).after), .string ((asg (hmake ((made l).1) (newO 4 0 ByteArray.empty [])) (ofS ((made l).2) k) (ofS ((made l).2) x) 32 (hmakeV ((made l).1) 4)).str)]) (m := 14) 0 #[.int .i64 ((asg (hmake ((made l).1) (newO 4 0 ByteArray.empty [])) (ofS ((made l).2) k) (ofS ((made l).2) x) 32 (hmakeV ((made l).1) 4)).kind), .int .i64 (((asg (hmake ((made l).1) (newO 4 0 ByteArray.empty [])) (ofS ((made l).2) k) (ofS ((made l).2) x) 32 (hmakeV ((made l).1) 4)).val).kind), .int .i64 (((asg (hmake ((made l).1) (newO 4 0 ByteArray.empty [])) (ofS ((made l).2) k) (ofS ((made l).2) x) 32 (hmakeV ((made l).1) 4)).val).p), .int .i64 (((asg (hmake ((made l).1) (newO 4 0 ByteArray.empty [])) (ofS ((made l).2) k) (ofS ((made l).2) x) 32 (hmakeV ((made l).1) 4)).val).q), .string (((asg (hmake ((made l).1) (newO 4 0 ByteArray.empty [])) (ofS ((made l).2) k) (ofS ((made l).2) x) 32 (hmakeV ((made l).1) 4)).val).str), .int .i64 (((asg (hmake ((made l).1) (newO 4 0 ByteArray.empty [])) (ofS ((made l).2) k) (ofS ((made l).2) x) 32 (hmakeV ((made l).1) 4)).val).ref), .int .i64 (((asg (hmake ((made l).1) (newO 4 0 ByteArray.empty [])) (ofS ((made l).2) k) (ofS ((made l).2) x) 32 (hmakeV ((made l).1) 4)).fn).kind), .int .i64 (((asg (hmake ((made l).1) (newO 4 0 ByteArray.empty [])) (ofS ((made l).2) k) (ofS ((made l).2) x) 32 (hmakeV ((made l).1) 4)).fn).p), .int .i64 (((asg (hmake ((made l).1) (newO 4 0 ByteArray.empty [])) (ofS ((made l).2) k) (ofS ((made l).2) x) 32 (hmakeV ((made l).1) 4)).fn).q), .string (((asg (hmake ((made l).1) (newO 4 0 ByteArray.empty [])) (ofS ((made l).2) k) (ofS ((made l).2) x) 32 (hmakeV ((made l).1) 4)).fn).str), .int .i64 (((asg (hmake ((made l).1) (newO 4 0 ByteArray.empty [])) (ofS ((made l).2) k) (ofS ((made l).2) x) 32 (hmakeV ((made l).1) 4)).fn).ref), av28, .int .i64 ((asg (hmake ((made l).1) (newO 4 0 ByteArray.empty [])) (ofS ((made l).2) k) (ofS ((made l).2) x) 32 (hmakeV ((made l).1) 4)).after), .string ((asg (hmake ((made l).1) (newO 4 0 ByteArray.empty [])) (ofS ((made l).2) k) (ofS ((made l).2) x) 32 (hmakeV ((made l).1) 4)).str)] ?_ (hm := by (obtain ⟨_, _, e⟩ := hf29; rw [e]; rfl)) (h1 := by (obtain ⟨_, _, e⟩ := hf29; rw [e]; rfl)) (ha' := by (obtain ⟨_, _, e⟩ := hf29; rw [e]; rfl))
   refine s_nt ?_
   refine k_seq ?_
   have hA0 : (asg (hmake ((made l).1) (newO 4 0 ByteArray.empty [])) (ofS ((made l).2) k) (ofS ((made l).2) x) 32 (hmakeV ((made l).1) 4)) = storN 4 (hsetE (hmake ((made l).1) (newO 4 0 ByteArray.empty [])) (hmakeV ((made l).1) 4) (ofS ((made l).2) k) (ofS ((made l).2) x)) := pl_asg hc0
   have hB0 : (asgS (hmake ((made l).1) (newO 4 0 ByteArray.empty [])) (ofS ((made l).2) k) (ofS ((made l).2) x) 32 (hmakeV ((made l).1) 4)) = (hset (hmake ((made l).1) (newO 4 0 ByteArray.empty [])) (hmakeV ((made l).1) 4) (ofS ((made l).2) k) (ofS ((made l).2) x)) := pl_asgS hc0
   by_cases he : hsetE (hmake ((made l).1) (newO 4 0 ByteArray.empty [])) (hmakeV ((made l).1) 4) (ofS ((made l).2) k) (ofS ((made l).2) x) = 0
   ·
    rw [he, stor_zero] at hA0
    refine k_mem (Bs := [blkA g31 #[.int .i64 ((asg (hmake ((made l).1) (newO 4 0 ByteArray.empty [])) (ofS ((made l).2) k) (ofS ((made l).2) x) 32 (hmakeV ((made l).1) 4)).kind), .int .i64 (((asg (hmake ((made l).1) (newO 4 0 ByteArray.empty [])) (ofS ((made l).2) k) (ofS ((made l).2) x) 32 (hmakeV ((made l).1) 4)).val).kind), .int .i64 (((asg (hmake ((made l).1) (newO 4 0 ByteArray.empty [])) (ofS ((made l).2) k) (ofS ((made l).2) x) 32 (hmakeV ((made l).1) 4)).val).p), .int .i64 (((asg (hmake ((made l).1) (newO 4 0 ByteArray.empty [])) (ofS ((made l).2) k) (ofS ((made l).2) x) 32 (hmakeV ((made l).1) 4)).val).q), .string (((asg (hmake ((made l).1) (newO 4 0 ByteArray.empty [])) (ofS ((made l).2) k) (ofS ((made l).2) x) 32 (hmakeV ((made l).1) 4)).val).str), .int .i64 (((asg (hmake ((made l).1) (newO 4 0 ByteArray.empty [])) (ofS ((made l).2) k) (ofS ((made l).2) x) 32 (hmakeV ((made l).1) 4)).val).ref), .int .i64 (((asg (hmake ((made l).1) (newO 4 0 ByteArray.empty [])) (ofS ((made l).2) k) (ofS ((made l).2) x) 32 (hmakeV ((made l).1) 4)).fn).kind), .int .i64 (((asg (hmake ((made l).1) (newO 4 0 ByteArray.empty [])) (ofS ((made l).2) k) (ofS ((made l).2) x) 32 (hmakeV ((made l).1) 4)).fn).p), .int .i64 (((asg (hmake ((made l).1) (newO 4 0 ByteArray.empty [])) (ofS ((made l).2) k) (ofS ((made l).2) x) 32 (hmakeV ((made l).1) 4)).fn).q), .string (((asg (hmake ((made l).1) (newO 4 0 ByteArray.empty [])) (ofS ((made l).2) k) (ofS ((made l).2) x) 32 (hmakeV ((made l).1) 4)).fn).str), .int .i64 (((asg (hmake ((made l).1) (newO 4 0 ByteArray.empty [])) (ofS ((made l).2) k) (ofS ((made l).2) x) 32 (hmakeV ((made l).1) 4)).fn).ref), av28, .int .i64 ((asg (hmake ((made l).1) (newO 4 0 ByteArray.empty [])) (ofS ((made l).2) k) (ofS ((made l).2) x) 32 (hmakeV ((made l).1) 4)).after), .string ((asg (hmake ((made l).1) (newO 4 0 ByteArray.empty [])) (ofS ((made l).2) k) (ofS ((made l).2) x) 32 (hmakeV ((made l).1) 4)).str)] 51, own VlT av28 ((asg (hmake ((made l).1) (newO 4 0 ByteArray.empty [])) (ofS ((made l).2) k) (ofS ((made l).2) x) 32 (hmakeV ((made l).1) 4)).args), hpA hb7 (hset (hmake ((made l).1) (newO 4 0 ByteArray.empty [])) (hmakeV ((made l).1) 4) (ofS ((made l).2) k) (ofS ((made l).2) x)), blkA g16 #[.int .i64 ((ofS ((made l).2) x).kind), .int .i64 ((ofS ((made l).2) x).p), .int .i64 ((ofS ((made l).2) x).q), .string ((ofS ((made l).2) x).str), .int .i64 ((ofS ((made l).2) x).ref)] 26, blkA g15 #[.int .i64 ((ofS ((made l).2) k).kind), .int .i64 ((ofS ((made l).2) k).p), .int .i64 ((ofS ((made l).2) k).q), .string ((ofS ((made l).2) k).str), .int .i64 ((ofS ((made l).2) k).ref)] 26, own VlT lx9 ((made l).2), blkA g14 #[.int .i64 ((hmakeV ((made l).1) 4).kind), .int .i64 ((hmakeV ((made l).1) 4).p), .int .i64 ((hmakeV ((made l).1) 4).q), .string ((hmakeV ((made l).1) 4).str), .int .i64 ((hmakeV ((made l).1) 4).ref)] 26, blkA g11 #[pB hb7 0, pB gb8 0, lx9] 35, rhA gb8 ((made l).1), blkA g2 #[.int .i64 x.v.kind, .int .i64 x.v.p, .int .i64 x.v.q, .string x.v.str, .int .i64 x.v.ref, .int .i64 x.obj] 28, blkA g1 #[.int .i64 k.v.kind, .int .i64 k.v.p, .int .i64 k.v.q, .string k.v.str, .int .i64 k.v.ref, .int .i64 k.obj] 28]) (fun _ h => by rw [hB0] at h; exact h) ?_
    have hs2 := hset_sm hi12 hs13 (hmakeV ((made l).1) 4) (ofS ((made l).2) k) (ofS ((made l).2) x)
    have hI0 : (idx (hset (hmake ((made l).1) (newO 4 0 ByteArray.empty [])) (hmakeV ((made l).1) 4) (ofS ((made l).2) k) (ofS ((made l).2) x)) (ofS ((made l).2) k) 32 (hmakeV ((made l).1) 4)) = giveN (ofS ((made l).2) x) := pl_idx hc0 he
    refine k_sr ?_
    refine sp (pB g31 0) ?_
    refine s_lt (t_load 0 (.int .i64 ((asg (hmake ((made l).1) (newO 4 0 ByteArray.empty [])) (ofS ((made l).2) k) (ofS ((made l).2) x) 32 (hmakeV ((made l).1) 4)).kind))) ?_
    refine s_lt (Lt.to t_cmp (congrArg Value.bool (decide_eq_false (by rw [hA0]; decide) : (decide ((asg (hmake ((made l).1) (newO 4 0 ByteArray.empty [])) (ofS ((made l).2) k) (ofS ((made l).2) x) 32 (hmakeV ((made l).1) 4)).kind ≠ 1)) = false))) ?_
    refine s_nt ?_
    refine k_false ?_
    refine k_st ?_
    refine k_sr ?_
    refine sp (pB g11 0) ?_
    refine s_lt (t_load 7 (pB hb7 0)) ?_
    refine s_lt (t_loadA 6 #[.int .i64 ((hmakeV ((made l).1) 4).kind), .int .i64 ((hmakeV ((made l).1) 4).p), .int .i64 ((hmakeV ((made l).1) 4).q), .string ((hmakeV ((made l).1) 4).str), .int .i64 ((hmakeV ((made l).1) 4).ref)]) ?_
    refine s_lt (t_loadA 4 #[.int .i64 ((ofS ((made l).2) k).kind), .int .i64 ((ofS ((made l).2) k).p), .int .i64 ((ofS ((made l).2) k).q), .string ((ofS ((made l).2) k).str), .int .i64 ((ofS ((made l).2) k).ref)]) ?_
    refine s_call [2] (index_s (st := (hset (hmake ((made l).1) (newO 4 0 ByteArray.empty [])) (hmakeV ((made l).1) 4) (ofS ((made l).2) k) (ofS ((made l).2) x))) hs2 (by omega) (hmakeV ((made l).1) 4) (ofS ((made l).2) k)) ?_
    rintro _ _ ⟨av32, rfl, rfl⟩
    refine s_fact (fun H h => ((Acc.own (T := VlT) (L := (idx (hset (hmake ((made l).1) (newO 4 0 ByteArray.empty [])) (hmakeV ((made l).1) 4) (ofS ((made l).2) k) (ofS ((made l).2) x)) (ofS ((made l).2) k) 32 (hmakeV ((made l).1) 4)).args) 0 rfl) H h).form) (fun hf33 => ?_)
    refine s_alloc (.agg #[.int .i64 0, .int .i64 0, .int .i64 0, .int .i64 0, .string ByteArray.empty, .int .i64 0, .int .i64 0, .int .i64 0, .int .i64 0, .string ByteArray.empty, .int .i64 0, (.slice none 0 0), .int .i64 0, .string ByteArray.empty]) #[.int .i64 0, .int .i64 0, .int .i64 0, .int .i64 0, .string ByteArray.empty, .int .i64 0, .int .i64 0, .int .i64 0, .int .i64 0, .string ByteArray.empty, .int .i64 0, (.slice none 0 0), .int .i64 0, .string ByteArray.empty] (fun g34 => ?_)
    refine s_store (u := .agg #[.int .i64 ((idx (hset (hmake ((made l).1) (newO 4 0 ByteArray.empty [])) (hmakeV ((made l).1) 4) (ofS ((made l).2) k) (ofS ((made l).2) x)) (ofS ((made l).2) k) 32 (hmakeV ((made l).1) 4)).kind), .int .i64 (((idx (hset (hmake ((made l).1) (newO 4 0 ByteArray.empty [])) (hmakeV ((made l).1) 4) (ofS ((made l).2) k) (ofS ((made l).2) x)) (ofS ((made l).2) k) 32 (hmakeV ((made l).1) 4)).val).kind), .int .i64 (((idx (hset (hmake ((made l).1) (newO 4 0 ByteArray.empty [])) (hmakeV ((made l).1) 4) (ofS ((made l).2) k) (ofS ((made l).2) x)) (ofS ((made l).2) k) 32 (hmakeV ((made l).1) 4)).val).p), .int .i64 (((idx (hset (hmake ((made l).1) (newO 4 0 ByteArray.empty [])) (hmakeV ((made l).1) 4) (ofS ((made l).2) k) (ofS ((made l).2) x)) (ofS ((made l).2) k) 32 (hmakeV ((made l).1) 4)).val).q), .string (((idx (hset (hmake ((made l).1) (newO 4 0 ByteArray.empty [])) (hmakeV ((made l).1) 4) (ofS ((made l).2) k) (ofS ((made l).2) x)) (ofS ((made l).2) k) 32 (hmakeV ((made l).1) 4)).val).str), .int .i64 (((idx (hset (hmake ((made l).1) (newO 4 0 ByteArray.empty [])) (hmakeV ((made l).1) 4) (ofS ((made l).2) k) (ofS ((made l).2) x)) (ofS ((made l).2) k) 32 (hmakeV ((made l).1) 4)).val).ref), .int .i64 (((idx (hset (hmake ((made l).1) (newO 4 0 ByteArray.empty [])) (hmakeV ((made l).1) 4) (ofS ((made l).2) k) (ofS ((made l).2) x)) (ofS ((made l).2) k) 32 (hmakeV ((made l).1) 4)).fn).kind), .int .i64 (((idx (hset (hmake ((made l).1) (newO 4 0 ByteArray.empty [])) (hmakeV ((made l).1) 4) (ofS ((made l).2) k) (ofS ((made l).2) x)) (ofS ((made l).2) k) 32 (hmakeV ((made l).1) 4)).fn).p), .int .i64 (((idx (hset (hmake ((made l).1) (newO 4 0 ByteArray.empty [])) (hmakeV ((made l).1) 4) (ofS ((made l).2) k) (ofS ((made l).2) x)) (ofS ((made l).2) k) 32 (hmakeV ((made l).1) 4)).fn).q), .string (((idx (hset (hmake ((made l).1) (newO 4 0 ByteArray.empty [])) (hmakeV ((made l).1) 4) (ofS ((made l).2) k) (ofS ((made l).2) x)) (ofS ((made l).2) k) 32 (hmakeV ((made l).1) 4)).fn).str), .int .i64 (((idx (hset (hmake ((made l).1) (newO 4 0 ByteArray.empty [])) (hmakeV ((made l).1) 4) (ofS ((made l).2) k) (ofS ((made l).2) x)) (ofS ((made l).2) k) 32 (hmakeV ((made l).1) 4)).fn).ref), av32, .int .i64 ((idx (hset (hmake ((made l).1) (newO 4 0 ByteArray.empty [])) (hmakeV ((made l).1) 4) (ofS ((made l).2) k) (ofS ((made l).2) x)) (ofS ((made l).2) k) 32 (hmakeV ((made l).1) 4)).after), .string ((idx (hset (hmake ((made l).1) (newO 4 0 ByteArray.empty [])) (hmakeV ((made l).1) 4) (ofS ((made l).2) k) (ofS ((made l).2) x)) (ofS ((made l).2) k) 32 (hmakeV ((made l).1) 4)).str)]) (m := 14) 0 #[.int .i64 ((idx (hset (hmake ((made l).1) (newO 4 0 ByteArray.empty [])) (hmakeV ((made l).1) 4) (ofS ((made l).2) k) (ofS ((made l).2) x)) (ofS ((made l).2) k) 32 (hmakeV ((made l).1) 4)).kind), .int .i64 (((idx (hset (hmake ((made l).1) (newO 4 0 ByteArray.empty [])) (hmakeV ((made l).1) 4) (ofS ((made l).2) k) (ofS ((made l).2) x)) (ofS ((made l).2) k) 32 (hmakeV ((made l).1) 4)).val).kind), .int .i64 (((idx (hset (hmake ((made l).1) (newO 4 0 ByteArray.empty [])) (hmakeV ((made l).1) 4) (ofS ((made l).2) k) (ofS ((made l).2) x)) (ofS ((made l).2) k) 32 (hmakeV ((made l).1) 4)).val).p), .int .i64 (((idx (hset (hmake ((made l).1) (newO 4 0 ByteArray.empty [])) (hmakeV ((made l).1) 4) (ofS ((made l).2) k) (ofS ((made l).2) x)) (ofS ((made l).2) k) 32 (hmakeV ((made l).1) 4)).val).q), .string (((idx (hset (hmake ((made l).1) (newO 4 0 ByteArray.empty [])) (hmakeV ((made l).1) 4) (ofS ((made l).2) k) (ofS ((made l).2) x)) (ofS ((made l).2) k) 32 (hmakeV ((made l).1) 4)).val).str), .int .i64 (((idx (hset (hmake ((made l).1) (newO 4 0 ByteArray.empty [])) (hmakeV ((made l).1) 4) (ofS ((made l).2) k) (ofS ((made l).2) x)) (ofS ((made l).2) k) 32 (hmakeV ((made l).1) 4)).val).ref), .int .i64 (((idx (hset (hmake ((made l).1) (newO 4 0 ByteArray.empty [])) (hmakeV ((made l).1) 4) (ofS ((made l).2) k) (ofS ((made l).2) x)) (ofS ((made l).2) k) 32 (hmakeV ((made l).1) 4)).fn).kind), .int .i64 (((idx (hset (hmake ((made l).1) (newO 4 0 ByteArray.empty [])) (hmakeV ((made l).1) 4) (ofS ((made l).2) k) (ofS ((made l).2) x)) (ofS ((made l).2) k) 32 (hmakeV ((made l).1) 4)).fn).p), .int .i64 (((idx (hset (hmake ((made l).1) (newO 4 0 ByteArray.empty [])) (hmakeV ((made l).1) 4) (ofS ((made l).2) k) (ofS ((made l).2) x)) (ofS ((made l).2) k) 32 (hmakeV ((made l).1) 4)).fn).q), .string (((idx (hset (hmake ((made l).1) (newO 4 0 ByteArray.empty [])) (hmakeV ((made l).1) 4) (ofS ((made l).2) k) (ofS ((made l).2) x)) (ofS ((made l).2) k) 32 (hmakeV ((made l).1) 4)).fn).str), .int .i64 (((idx (hset (hmake ((made l).1) (newO 4 0 ByteArray.empty [])) (hmakeV ((made l).1) 4) (ofS ((made l).2) k) (ofS ((made l).2) x)) (ofS ((made l).2) k) 32 (hmakeV ((made l).1) 4)).fn).ref), av32, .int .i64 ((idx (hset (hmake ((made l).1) (newO 4 0 ByteArray.empty [])) (hmakeV ((made l).1) 4) (ofS ((made l).2) k) (ofS ((made l).2) x)) (ofS ((made l).2) k) 32 (hmakeV ((made l).1) 4)).after), .string ((idx (hset (hmake ((made l).1) (newO 4 0 ByteArray.empty [])) (hmakeV ((made l).1) 4) (ofS ((made l).2) k) (ofS ((made l).2) x)) (ofS ((made l).2) k) 32 (hmakeV ((made l).1) 4)).str)] ?_ (hm := by (obtain ⟨_, _, e⟩ := hf33; rw [e]; rfl)) (h1 := by (obtain ⟨_, _, e⟩ := hf33; rw [e]; rfl)) (ha' := by (obtain ⟨_, _, e⟩ := hf33; rw [e]; rfl))
    refine s_nr ?_
    refine sp (pB g11 0) ?_
    refine s_lt (t_load 9 (pB hb7 0)) ?_
    refine s_lt (t_loadA 8 #[.int .i64 ((hmakeV ((made l).1) 4).kind), .int .i64 ((hmakeV ((made l).1) 4).p), .int .i64 ((hmakeV ((made l).1) 4).q), .string ((hmakeV ((made l).1) 4).str), .int .i64 ((hmakeV ((made l).1) 4).ref)]) ?_
    refine s_lt (t_loadA 6 #[.int .i64 ((ofS ((made l).2) k).kind), .int .i64 ((ofS ((made l).2) k).p), .int .i64 ((ofS ((made l).2) k).q), .string ((ofS ((made l).2) k).str), .int .i64 ((ofS ((made l).2) k).ref)]) ?_
    refine s_call [2] (hget_s (st := (hset (hmake ((made l).1) (newO 4 0 ByteArray.empty [])) (hmakeV ((made l).1) 4) (ofS ((made l).2) k) (ofS ((made l).2) x))) hs2 (by omega) (hmakeV ((made l).1) 4) (ofS ((made l).2) k)) ?_
    rintro _ _ ⟨rfl, rfl⟩
    refine sp (.tuple #[.agg #[.int .i64 ((hgetV (hset (hmake ((made l).1) (newO 4 0 ByteArray.empty [])) (hmakeV ((made l).1) 4) (ofS ((made l).2) k) (ofS ((made l).2) x)) (hmakeV ((made l).1) 4) (ofS ((made l).2) k)).kind), .int .i64 ((hgetV (hset (hmake ((made l).1) (newO 4 0 ByteArray.empty [])) (hmakeV ((made l).1) 4) (ofS ((made l).2) k) (ofS ((made l).2) x)) (hmakeV ((made l).1) 4) (ofS ((made l).2) k)).p), .int .i64 ((hgetV (hset (hmake ((made l).1) (newO 4 0 ByteArray.empty [])) (hmakeV ((made l).1) 4) (ofS ((made l).2) k) (ofS ((made l).2) x)) (hmakeV ((made l).1) 4) (ofS ((made l).2) k)).q), .string ((hgetV (hset (hmake ((made l).1) (newO 4 0 ByteArray.empty [])) (hmakeV ((made l).1) 4) (ofS ((made l).2) k) (ofS ((made l).2) x)) (hmakeV ((made l).1) 4) (ofS ((made l).2) k)).str), .int .i64 ((hgetV (hset (hmake ((made l).1) (newO 4 0 ByteArray.empty [])) (hmakeV ((made l).1) 4) (ofS ((made l).2) k) (ofS ((made l).2) x)) (hmakeV ((made l).1) 4) (ofS ((made l).2) k)).ref)], .int .i64 (hgetE (hset (hmake ((made l).1) (newO 4 0 ByteArray.empty [])) (hmakeV ((made l).1) 4) (ofS ((made l).2) k) (ofS ((made l).2) x)) (hmakeV ((made l).1) 4))]) ?_
    refine sp (.agg #[.int .i64 ((hgetV (hset (hmake ((made l).1) (newO 4 0 ByteArray.empty [])) (hmakeV ((made l).1) 4) (ofS ((made l).2) k) (ofS ((made l).2) x)) (hmakeV ((made l).1) 4) (ofS ((made l).2) k)).kind), .int .i64 ((hgetV (hset (hmake ((made l).1) (newO 4 0 ByteArray.empty [])) (hmakeV ((made l).1) 4) (ofS ((made l).2) k) (ofS ((made l).2) x)) (hmakeV ((made l).1) 4) (ofS ((made l).2) k)).p), .int .i64 ((hgetV (hset (hmake ((made l).1) (newO 4 0 ByteArray.empty [])) (hmakeV ((made l).1) 4) (ofS ((made l).2) k) (ofS ((made l).2) x)) (hmakeV ((made l).1) 4) (ofS ((made l).2) k)).q), .string ((hgetV (hset (hmake ((made l).1) (newO 4 0 ByteArray.empty [])) (hmakeV ((made l).1) 4) (ofS ((made l).2) k) (ofS ((made l).2) x)) (hmakeV ((made l).1) 4) (ofS ((made l).2) k)).str), .int .i64 ((hgetV (hset (hmake ((made l).1) (newO 4 0 ByteArray.empty [])) (hmakeV ((made l).1) 4) (ofS ((made l).2) k) (ofS ((made l).2) x)) (hmakeV ((made l).1) 4) (ofS ((made l).2) k)).ref)]) ?_
    refine sp (.int .i64 (hgetE (hset (hmake ((made l).1) (newO 4 0 ByteArray.empty [])) (hmakeV ((made l).1) 4) (ofS ((made l).2) k) (ofS ((made l).2) x)) (hmakeV ((made l).1) 4))) ?_
    refine s_alloc (.agg #[.int .i64 0, .int .i64 0, .int .i64 0, .string ByteArray.empty, .int .i64 0]) #[.int .i64 0, .int .i64 0, .int .i64 0, .string ByteArray.empty, .int .i64 0] (fun g35 => ?_)
    refine s_store 0 #[.int .i64 ((hgetV (hset (hmake ((made l).1) (newO 4 0 ByteArray.empty [])) (hmakeV ((made l).1) 4) (ofS ((made l).2) k) (ofS ((made l).2) x)) (hmakeV ((made l).1) 4) (ofS ((made l).2) k)).kind), .int .i64 ((hgetV (hset (hmake ((made l).1) (newO 4 0 ByteArray.empty [])) (hmakeV ((made l).1) 4) (ofS ((made l).2) k) (ofS ((made l).2) x)) (hmakeV ((made l).1) 4) (ofS ((made l).2) k)).p), .int .i64 ((hgetV (hset (hmake ((made l).1) (newO 4 0 ByteArray.empty [])) (hmakeV ((made l).1) 4) (ofS ((made l).2) k) (ofS ((made l).2) x)) (hmakeV ((made l).1) 4) (ofS ((made l).2) k)).q), .string ((hgetV (hset (hmake ((made l).1) (newO 4 0 ByteArray.empty [])) (hmakeV ((made l).1) 4) (ofS ((made l).2) k) (ofS ((made l).2) x)) (hmakeV ((made l).1) 4) (ofS ((made l).2) k)).str), .int .i64 ((hgetV (hset (hmake ((made l).1) (newO 4 0 ByteArray.empty [])) (hmakeV ((made l).1) 4) (ofS ((made l).2) k) (ofS ((made l).2) x)) (hmakeV ((made l).1) 4) (ofS ((made l).2) k)).ref)] ?_
    refine sp (.int .i64 (hgetE (hset (hmake ((made l).1) (newO 4 0 ByteArray.empty [])) (hmakeV ((made l).1) 4) (ofS ((made l).2) k) (ofS ((made l).2) x)) (hmakeV ((made l).1) 4))) ?_
    refine s_nr ?_
    refine sp (pB g31 1) ?_
    refine s_lt (t_loadA 4 #[.int .i64 (((asg (hmake ((made l).1) (newO 4 0 ByteArray.empty [])) (ofS ((made l).2) k) (ofS ((made l).2) x) 32 (hmakeV ((made l).1) 4)).val).kind), .int .i64 (((asg (hmake ((made l).1) (newO 4 0 ByteArray.empty [])) (ofS ((made l).2) k) (ofS ((made l).2) x) 32 (hmakeV ((made l).1) 4)).val).p), .int .i64 (((asg (hmake ((made l).1) (newO 4 0 ByteArray.empty [])) (ofS ((made l).2) k) (ofS ((made l).2) x) 32 (hmakeV ((made l).1) 4)).val).q), .string (((asg (hmake ((made l).1) (newO 4 0 ByteArray.empty [])) (ofS ((made l).2) k) (ofS ((made l).2) x) 32 (hmakeV ((made l).1) 4)).val).str), .int .i64 (((asg (hmake ((made l).1) (newO 4 0 ByteArray.empty [])) (ofS ((made l).2) k) (ofS ((made l).2) x) 32 (hmakeV ((made l).1) 4)).val).ref)]) ?_
    refine s_lt (t_kern (.agg #[.int .i64 0, .int .i64 0, .int .i64 0, .string ByteArray.empty, .int .i64 0])) ?_
    refine s_lt (Lt.to (t_eqS (fun w => (eqVlT ((asg (hmake ((made l).1) (newO 4 0 ByteArray.empty [])) (ofS ((made l).2) k) (ofS ((made l).2) x) 32 (hmakeV ((made l).1) 4)).val) zVl w).1)) (congrArg Value.bool (decide_eq_true (by rw [hA0]; rfl) : (decide (((asg (hmake ((made l).1) (newO 4 0 ByteArray.empty [])) (ofS ((made l).2) k) (ofS ((made l).2) x) 32 (hmakeV ((made l).1) 4)).val) = zVl)) = true))) ?_
    refine sp (.bool true) ?_
    refine sp (pB g34 0) ?_
    refine s_lt (t_load 2 (.int .i64 ((idx (hset (hmake ((made l).1) (newO 4 0 ByteArray.empty [])) (hmakeV ((made l).1) 4) (ofS ((made l).2) k) (ofS ((made l).2) x)) (ofS ((made l).2) k) 32 (hmakeV ((made l).1) 4)).kind))) ?_
    refine s_lt (Lt.to t_cmp (congrArg Value.bool (decide_eq_true (by rw [hI0]; rfl) : (decide ((idx (hset (hmake ((made l).1) (newO 4 0 ByteArray.empty [])) (hmakeV ((made l).1) 4) (ofS ((made l).2) k) (ofS ((made l).2) x)) (ofS ((made l).2) k) 32 (hmakeV ((made l).1) 4)).kind = 1)) = true))) ?_
    refine sp (.bool true) ?_
    refine sp (.bool true) ?_
    refine sp (pB g34 1) ?_
    refine s_lt (t_loadA 2 #[.int .i64 (((idx (hset (hmake ((made l).1) (newO 4 0 ByteArray.empty [])) (hmakeV ((made l).1) 4) (ofS ((made l).2) k) (ofS ((made l).2) x)) (ofS ((made l).2) k) 32 (hmakeV ((made l).1) 4)).val).kind), .int .i64 (((idx (hset (hmake ((made l).1) (newO 4 0 ByteArray.empty [])) (hmakeV ((made l).1) 4) (ofS ((made l).2) k) (ofS ((made l).2) x)) (ofS ((made l).2) k) 32 (hmakeV ((made l).1) 4)).val).p), .int .i64 (((idx (hset (hmake ((made l).1) (newO 4 0 ByteArray.empty [])) (hmakeV ((made l).1) 4) (ofS ((made l).2) k) (ofS ((made l).2) x)) (ofS ((made l).2) k) 32 (hmakeV ((made l).1) 4)).val).q), .string (((idx (hset (hmake ((made l).1) (newO 4 0 ByteArray.empty [])) (hmakeV ((made l).1) 4) (ofS ((made l).2) k) (ofS ((made l).2) x)) (ofS ((made l).2) k) 32 (hmakeV ((made l).1) 4)).val).str), .int .i64 (((idx (hset (hmake ((made l).1) (newO 4 0 ByteArray.empty [])) (hmakeV ((made l).1) 4) (ofS ((made l).2) k) (ofS ((made l).2) x)) (ofS ((made l).2) k) 32 (hmakeV ((made l).1) 4)).val).ref)]) ?_
    refine s_lt (t_loadA 6 #[.int .i64 ((ofS ((made l).2) x).kind), .int .i64 ((ofS ((made l).2) x).p), .int .i64 ((ofS ((made l).2) x).q), .string ((ofS ((made l).2) x).str), .int .i64 ((ofS ((made l).2) x).ref)]) ?_
    refine s_lt (Lt.to (t_eqS (fun w => (eqVlT ((idx (hset (hmake ((made l).1) (newO 4 0 ByteArray.empty [])) (hmakeV ((made l).1) 4) (ofS ((made l).2) k) (ofS ((made l).2) x)) (ofS ((made l).2) k) 32 (hmakeV ((made l).1) 4)).val) (ofS ((made l).2) x) w).1)) (congrArg Value.bool (decide_eq_true (by rw [hI0]; rfl) : (decide (((idx (hset (hmake ((made l).1) (newO 4 0 ByteArray.empty [])) (hmakeV ((made l).1) 4) (ofS ((made l).2) k) (ofS ((made l).2) x)) (ofS ((made l).2) k) 32 (hmakeV ((made l).1) 4)).val) = (ofS ((made l).2) x))) = true))) ?_
    refine sp (.bool true) ?_
    refine sp (.bool true) ?_
    refine s_lt (t_loadA 0 #[.int .i64 ((hgetV (hset (hmake ((made l).1) (newO 4 0 ByteArray.empty [])) (hmakeV ((made l).1) 4) (ofS ((made l).2) k) (ofS ((made l).2) x)) (hmakeV ((made l).1) 4) (ofS ((made l).2) k)).kind), .int .i64 ((hgetV (hset (hmake ((made l).1) (newO 4 0 ByteArray.empty [])) (hmakeV ((made l).1) 4) (ofS ((made l).2) k) (ofS ((made l).2) x)) (hmakeV ((made l).1) 4) (ofS ((made l).2) k)).p), .int .i64 ((hgetV (hset (hmake ((made l).1) (newO 4 0 ByteArray.empty [])) (hmakeV ((made l).1) 4) (ofS ((made l).2) k) (ofS ((made l).2) x)) (hmakeV ((made l).1) 4) (ofS ((made l).2) k)).q), .string ((hgetV (hset (hmake ((made l).1) (newO 4 0 ByteArray.empty [])) (hmakeV ((made l).1) 4) (ofS ((made l).2) k) (ofS ((made l).2) x)) (hmakeV ((made l).1) 4) (ofS ((made l).2) k)).str), .int .i64 ((hgetV (hset (hmake ((made l).1) (newO 4 0 ByteArray.empty [])) (hmakeV ((made l).1) 4) (ofS ((made l).2) k) (ofS ((made l).2) x)) (hmakeV ((made l).1) 4) (ofS ((made l).2) k)).ref)]) ?_
    refine s_lt (t_loadA 6 #[.int .i64 ((ofS ((made l).2) x).kind), .int .i64 ((ofS ((made l).2) x).p), .int .i64 ((ofS ((made l).2) x).q), .string ((ofS ((made l).2) x).str), .int .i64 ((ofS ((made l).2) x).ref)]) ?_
    refine s_lt (Lt.to (t_eqS (fun w => (eqVlT (hgetV (hset (hmake ((made l).1) (newO 4 0 ByteArray.empty [])) (hmakeV ((made l).1) 4) (ofS ((made l).2) k) (ofS ((made l).2) x)) (hmakeV ((made l).1) 4) (ofS ((made l).2) k)) (ofS ((made l).2) x) w).1)) (congrArg Value.bool (decide_eq_true (nT_get hc0 he) : (decide ((hgetV (hset (hmake ((made l).1) (newO 4 0 ByteArray.empty [])) (hmakeV ((made l).1) 4) (ofS ((made l).2) k) (ofS ((made l).2) x)) (hmakeV ((made l).1) 4) (ofS ((made l).2) k)) = (ofS ((made l).2) x))) = true))) ?_
    refine sp (.bool true) ?_
    refine sp (.bool true) ?_
    refine sp (.int .i64 (hgetE (hset (hmake ((made l).1) (newO 4 0 ByteArray.empty [])) (hmakeV ((made l).1) 4) (ofS ((made l).2) k) (ofS ((made l).2) x)) (hmakeV ((made l).1) 4))) ?_
    refine s_lt (Lt.to t_cmp (congrArg Value.bool (decide_eq_true (nT_getE hc0 he) : (decide ((hgetE (hset (hmake ((made l).1) (newO 4 0 ByteArray.empty [])) (hmakeV ((made l).1) 4) (ofS ((made l).2) k) (ofS ((made l).2) x)) (hmakeV ((made l).1) 4)) = 0)) = true))) ?_
    refine sp (.bool true) ?_
    refine sp (.bool true) ?_
    refine s_vcall (fun _ h => lives_s) ?_
    rintro _ rfl
    refine sp (.bool true) ?_
    refine sp (.bool true) ?_
    refine s_nt ?_
    refine k_ret ?_
    exact xs_fin [.bool true] [] (SI.tmp 6 SI.nil) (fun _ h => h.re [] [0, 0, 0, 0, 0, 0, 0, 0, 0, 0, 0, 0, 0, 0]) ⟨rfl, rfl⟩
   ·
    rw [hset_err he] at hB0
    refine k_mem (Bs := [blkA g31 #[.int .i64 ((asg (hmake ((made l).1) (newO 4 0 ByteArray.empty [])) (ofS ((made l).2) k) (ofS ((made l).2) x) 32 (hmakeV ((made l).1) 4)).kind), .int .i64 (((asg (hmake ((made l).1) (newO 4 0 ByteArray.empty [])) (ofS ((made l).2) k) (ofS ((made l).2) x) 32 (hmakeV ((made l).1) 4)).val).kind), .int .i64 (((asg (hmake ((made l).1) (newO 4 0 ByteArray.empty [])) (ofS ((made l).2) k) (ofS ((made l).2) x) 32 (hmakeV ((made l).1) 4)).val).p), .int .i64 (((asg (hmake ((made l).1) (newO 4 0 ByteArray.empty [])) (ofS ((made l).2) k) (ofS ((made l).2) x) 32 (hmakeV ((made l).1) 4)).val).q), .string (((asg (hmake ((made l).1) (newO 4 0 ByteArray.empty [])) (ofS ((made l).2) k) (ofS ((made l).2) x) 32 (hmakeV ((made l).1) 4)).val).str), .int .i64 (((asg (hmake ((made l).1) (newO 4 0 ByteArray.empty [])) (ofS ((made l).2) k) (ofS ((made l).2) x) 32 (hmakeV ((made l).1) 4)).val).ref), .int .i64 (((asg (hmake ((made l).1) (newO 4 0 ByteArray.empty [])) (ofS ((made l).2) k) (ofS ((made l).2) x) 32 (hmakeV ((made l).1) 4)).fn).kind), .int .i64 (((asg (hmake ((made l).1) (newO 4 0 ByteArray.empty [])) (ofS ((made l).2) k) (ofS ((made l).2) x) 32 (hmakeV ((made l).1) 4)).fn).p), .int .i64 (((asg (hmake ((made l).1) (newO 4 0 ByteArray.empty [])) (ofS ((made l).2) k) (ofS ((made l).2) x) 32 (hmakeV ((made l).1) 4)).fn).q), .string (((asg (hmake ((made l).1) (newO 4 0 ByteArray.empty [])) (ofS ((made l).2) k) (ofS ((made l).2) x) 32 (hmakeV ((made l).1) 4)).fn).str), .int .i64 (((asg (hmake ((made l).1) (newO 4 0 ByteArray.empty [])) (ofS ((made l).2) k) (ofS ((made l).2) x) 32 (hmakeV ((made l).1) 4)).fn).ref), av28, .int .i64 ((asg (hmake ((made l).1) (newO 4 0 ByteArray.empty [])) (ofS ((made l).2) k) (ofS ((made l).2) x) 32 (hmakeV ((made l).1) 4)).after), .string ((asg (hmake ((made l).1) (newO 4 0 ByteArray.empty [])) (ofS ((made l).2) k) (ofS ((made l).2) x) 32 (hmakeV ((made l).1) 4)).str)] 51, own VlT av28 ((asg (hmake ((made l).1) (newO 4 0 ByteArray.empty [])) (ofS ((made l).2) k) (ofS ((made l).2) x) 32 (hmakeV ((made l).1) 4)).args), hpA hb7 (hmake ((made l).1) (newO 4 0 ByteArray.empty [])), blkA g16 #[.int .i64 ((ofS ((made l).2) x).kind), .int .i64 ((ofS ((made l).2) x).p), .int .i64 ((ofS ((made l).2) x).q), .string ((ofS ((made l).2) x).str), .int .i64 ((ofS ((made l).2) x).ref)] 26, blkA g15 #[.int .i64 ((ofS ((made l).2) k).kind), .int .i64 ((ofS ((made l).2) k).p), .int .i64 ((ofS ((made l).2) k).q), .string ((ofS ((made l).2) k).str), .int .i64 ((ofS ((made l).2) k).ref)] 26, own VlT lx9 ((made l).2), blkA g14 #[.int .i64 ((hmakeV ((made l).1) 4).kind), .int .i64 ((hmakeV ((made l).1) 4).p), .int .i64 ((hmakeV ((made l).1) 4).q), .string ((hmakeV ((made l).1) 4).str), .int .i64 ((hmakeV ((made l).1) 4).ref)] 26, blkA g11 #[pB hb7 0, pB gb8 0, lx9] 35, rhA gb8 ((made l).1), blkA g2 #[.int .i64 x.v.kind, .int .i64 x.v.p, .int .i64 x.v.q, .string x.v.str, .int .i64 x.v.ref, .int .i64 x.obj] 28, blkA g1 #[.int .i64 k.v.kind, .int .i64 k.v.p, .int .i64 k.v.q, .string k.v.str, .int .i64 k.v.ref, .int .i64 k.obj] 28]) (fun _ h => by rw [hB0] at h; exact h) ?_
    refine k_sr ?_
    refine sp (pB g31 0) ?_
    refine s_lt (t_load 0 (.int .i64 ((asg (hmake ((made l).1) (newO 4 0 ByteArray.empty [])) (ofS ((made l).2) k) (ofS ((made l).2) x) 32 (hmakeV ((made l).1) 4)).kind))) ?_
    refine s_lt (Lt.to t_cmp (congrArg Value.bool (decide_eq_true (by rw [hA0, stor_kind he]; decide) : (decide ((asg (hmake ((made l).1) (newO 4 0 ByteArray.empty [])) (ofS ((made l).2) k) (ofS ((made l).2) x) 32 (hmakeV ((made l).1) 4)).kind ≠ 1)) = true))) ?_
    refine s_nt ?_
    refine k_true ?_
    refine k_sr ?_
    refine sp (pB g31 0) ?_
    refine s_lt (t_load 0 (.int .i64 ((asg (hmake ((made l).1) (newO 4 0 ByteArray.empty [])) (ofS ((made l).2) k) (ofS ((made l).2) x) 32 (hmakeV ((made l).1) 4)).kind))) ?_
    refine s_lt (Lt.to t_cmp (congrArg Value.bool (decide_eq_true (by rw [hA0, stor_kind he]) : (decide ((asg (hmake ((made l).1) (newO 4 0 ByteArray.empty [])) (ofS ((made l).2) k) (ofS ((made l).2) x) 32 (hmakeV ((made l).1) 4)).kind = 3)) = true))) ?_
    refine sp (.bool true) ?_
    refine sp (pB g11 0) ?_
    refine s_lt (t_load 7 (pB hb7 0)) ?_
    refine s_lt (t_loadA 6 #[.int .i64 ((hmakeV ((made l).1) 4).kind), .int .i64 ((hmakeV ((made l).1) 4).p), .int .i64 ((hmakeV ((made l).1) 4).q), .string ((hmakeV ((made l).1) 4).str), .int .i64 ((hmakeV ((made l).1) 4).ref)]) ?_
    refine s_lt (t_loadA 4 #[.int .i64 ((ofS ((made l).2) k).kind), .int .i64 ((ofS ((made l).2) k).p), .int .i64 ((ofS ((made l).2) k).q), .string ((ofS ((made l).2) k).str), .int .i64 ((ofS ((made l).2) k).ref)]) ?_
    refine s_lt (t_loadA 3 #[.int .i64 ((ofS ((made l).2) x).kind), .int .i64 ((ofS ((made l).2) x).p), .int .i64 ((ofS ((made l).2) x).q), .string ((ofS ((made l).2) x).str), .int .i64 ((ofS ((made l).2) x).ref)]) ?_
    refine s_call [2] (hset_s (st := (hmake ((made l).1) (newO 4 0 ByteArray.empty []))) hs13 (by omega) (hmakeV ((made l).1) 4) (ofS ((made l).2) k) (ofS ((made l).2) x)) ?_
    rintro _ _ ⟨rfl, rfl⟩
    have hi36 := hset_inv hi12 (hmakeV ((made l).1) 4) (ofS ((made l).2) k) (ofS ((made l).2) x)
    have hs37 := hset_sm hi12 hs13 (hmakeV ((made l).1) 4) (ofS ((made l).2) k) (ofS ((made l).2) x)
    refine s_lt (Lt.to t_cmp (congrArg Value.bool (decide_eq_true he : (decide ((hsetE (hmake ((made l).1) (newO 4 0 ByteArray.empty [])) (hmakeV ((made l).1) 4) (ofS ((made l).2) k) (ofS ((made l).2) x)) ≠ 0)) = true))) ?_
    refine sp (.bool true) ?_
    refine sp (.bool true) ?_
    refine s_vcall (fun _ h => lives_s) ?_
    rintro _ rfl
    refine sp (.bool true) ?_
    refine sp (.bool true) ?_
    refine s_nt ?_
    refine k_ret ?_
    refine xs_ret ?_
    exact xs_fin [.bool true] [] (SI.tmp 6 SI.nil) (fun _ h => h.re [] [0, 0, 0, 0, 0, 0, 0, 0, 0, 0, 0]) ⟨rfl, rfl⟩
  refine h_join (ι := Nat) 3 #[true, true, true, true, true, true, true, false, false, false] (fun g15 => [(7, pB g11 0), (9, pB g14 0), (11, pB g15 0), (40, .agg #[.int .i64 ((ofS ((made l).2) k).kind), .int .i64 ((ofS ((made l).2) k).p), .int .i64 ((ofS ((made l).2) k).q), .string ((ofS ((made l).2) k).str), .int .i64 ((ofS ((made l).2) k).ref)]), (43, .agg #[.int .i64 ((ofS ((made l).2) x).kind), .int .i64 ((ofS ((made l).2) x).p), .int .i64 ((ofS ((made l).2) x).q), .string ((ofS ((made l).2) x).str), .int .i64 ((ofS ((made l).2) x).ref)])]) (fun g15 => [blkA g15 #[.int .i64 0, .int .i64 0, .int .i64 0, .string ByteArray.empty, .int .i64 0] 26, own VlT lx9 ((made l).2), blkA g14 #[.int .i64 ((hmakeV ((made l).1) 4).kind), .int .i64 ((hmakeV ((made l).1) 4).p), .int .i64 ((hmakeV ((made l).1) 4).q), .string ((hmakeV ((made l).1) 4).str), .int .i64 ((hmakeV ((made l).1) 4).ref)] 26, hpA hb7 (hmake ((made l).1) (newO 4 0 ByteArray.empty [])), blkA g11 #[pB hb7 0, pB gb8 0, lx9] 35, rhA gb8 ((made l).1), blkA g2 #[.int .i64 x.v.kind, .int .i64 x.v.p, .int .i64 x.v.q, .string x.v.str, .int .i64 x.v.ref, .int .i64 x.obj] 28, blkA g1 #[.int .i64 k.v.kind, .int .i64 k.v.p, .int .i64 k.v.q, .string k.v.str, .int .i64 k.v.ref, .int .i64 k.obj] 28]) ?_ (fun hj38 => ?_)
  ·
   rintro g15
   try dsimp only
   refine h_stepS 7 ?_
   refine s_alloc (.agg #[.int .i64 0, .int .i64 0, .int .i64 0, .string ByteArray.empty, .int .i64 0]) #[.int .i64 0, .int .i64 0, .int .i64 0, .string ByteArray.empty, .int .i64 0] (fun g39 => ?_)
   refine s_nil (xs_held [3, 4, 2, 4, 4] ?_)
   exact h_use hj27 (g15, g39) (fun _ h => h.re [0, 0, 0, 0, 0, 0, 0, 0, 0] [])
  refine h_join (ι := Nat) 3 #[true, true, true, true, true, true, false, true, false, false] (fun g17 => [(7, pB g11 0), (9, pB g14 0), (12, pB g17 0), (40, .agg #[.int .i64 ((ofS ((made l).2) k).kind), .int .i64 ((ofS ((made l).2) k).p), .int .i64 ((ofS ((made l).2) k).q), .string ((ofS ((made l).2) k).str), .int .i64 ((ofS ((made l).2) k).ref)]), (43, .agg #[.int .i64 ((ofS ((made l).2) x).kind), .int .i64 ((ofS ((made l).2) x).p), .int .i64 ((ofS ((made l).2) x).q), .string ((ofS ((made l).2) x).str), .int .i64 ((ofS ((made l).2) x).ref)])]) (fun g17 => [blkA g17 #[.int .i64 0, .int .i64 0, .int .i64 0, .string ByteArray.empty, .int .i64 0] 26, own VlT lx9 ((made l).2), blkA g14 #[.int .i64 ((hmakeV ((made l).1) 4).kind), .int .i64 ((hmakeV ((made l).1) 4).p), .int .i64 ((hmakeV ((made l).1) 4).q), .string ((hmakeV ((made l).1) 4).str), .int .i64 ((hmakeV ((made l).1) 4).ref)] 26, hpA hb7 (hmake ((made l).1) (newO 4 0 ByteArray.empty [])), blkA g11 #[pB hb7 0, pB gb8 0, lx9] 35, rhA gb8 ((made l).1), blkA g2 #[.int .i64 x.v.kind, .int .i64 x.v.p, .int .i64 x.v.q, .string x.v.str, .int .i64 x.v.ref, .int .i64 x.obj] 28, blkA g1 #[.int .i64 k.v.kind, .int .i64 k.v.p, .int .i64 k.v.q, .string k.v.str, .int .i64 k.v.ref, .int .i64 k.obj] 28]) ?_ (fun hj40 => ?_)
  ·
   rintro g17
   try dsimp only
   refine h_stepS 6 ?_
   refine s_alloc (.agg #[.int .i64 0, .int .i64 0, .int .i64 0, .string ByteArray.empty, .int .i64 0]) #[.int .i64 0, .int .i64 0, .int .i64 0, .string ByteArray.empty, .int .i64 0] (fun g41 => ?_)
   refine s_nil (xs_held [3, 4, 2, 4, 4] ?_)
   exact h_use hj27 (g41, g17) (fun _ h => h.re [1, 0, 0, 0, 0, 0, 0, 0, 0] [])
  refine h_join (ι := Nat × Nat) 3 #[true, true, true, true, true, false, true, true, false, false] (fun (g19, g20) => [(7, pB g11 0), (9, pB g14 0), (11, pB g19 0), (12, pB g20 0), (40, .agg #[.int .i64 ((ofS ((made l).2) k).kind), .int .i64 ((ofS ((made l).2) k).p), .int .i64 ((ofS ((made l).2) k).q), .string ((ofS ((made l).2) k).str), .int .i64 ((ofS ((made l).2) k).ref)]), (41, .agg #[pB hb7 0, pB gb8 0, lx9]), (42, .agg #[.int .i64 x.v.kind, .int .i64 x.v.p, .int .i64 x.v.q, .string x.v.str, .int .i64 x.v.ref, .int .i64 x.obj])]) (fun (g19, g20) => [blkA g20 #[.int .i64 0, .int .i64 0, .int .i64 0, .string ByteArray.empty, .int .i64 0] 26, blkA g19 #[.int .i64 0, .int .i64 0, .int .i64 0, .string ByteArray.empty, .int .i64 0] 26, own VlT lx9 ((made l).2), blkA g14 #[.int .i64 ((hmakeV ((made l).1) 4).kind), .int .i64 ((hmakeV ((made l).1) 4).p), .int .i64 ((hmakeV ((made l).1) 4).q), .string ((hmakeV ((made l).1) 4).str), .int .i64 ((hmakeV ((made l).1) 4).ref)] 26, hpA hb7 (hmake ((made l).1) (newO 4 0 ByteArray.empty [])), blkA g11 #[pB hb7 0, pB gb8 0, lx9] 35, rhA gb8 ((made l).1), blkA g2 #[.int .i64 x.v.kind, .int .i64 x.v.p, .int .i64 x.v.q, .string x.v.str, .int .i64 x.v.ref, .int .i64 x.obj] 28, blkA g1 #[.int .i64 k.v.kind, .int .i64 k.v.p, .int .i64 k.v.q, .string k.v.str, .int .i64 k.v.ref, .int .i64 k.obj] 28]) ?_ (fun hj42 => ?_)
  ·
   rintro ⟨g19, g20⟩
   try dsimp only
   refine h_stepS 5 ?_
   refine s_call [2] (of_s (L := (made l).2) (by (try simp only [lnm]); omega) x) ?_
   rintro _ _ ⟨rfl, rfl⟩
   refine s_nil (xs_held [3, 4, 0, 4, 4] ?_)
   exact h_use hj27 (g19, g20) (fun _ h => h.re [1, 1, 0, 0, 0, 0, 0, 0, 0] [])
  refine h_join (ι := Nat) 4 #[true, true, true, true, true, false, true, false, false, false] (fun g19 => [(7, pB g11 0), (9, pB g14 0), (11, pB g19 0), (40, .agg #[.int .i64 ((ofS ((made l).2) k).kind), .int .i64 ((ofS ((made l).2) k).p), .int .i64 ((ofS ((made l).2) k).q), .string ((ofS ((made l).2) k).str), .int .i64 ((ofS ((made l).2) k).ref)]), (41, .agg #[pB hb7 0, pB gb8 0, lx9]), (42, .agg #[.int .i64 x.v.kind, .int .i64 x.v.p, .int .i64 x.v.q, .string x.v.str, .int .i64 x.v.ref, .int .i64 x.obj])]) (fun g19 => [blkA g19 #[.int .i64 0, .int .i64 0, .int .i64 0, .string ByteArray.empty, .int .i64 0] 26, own VlT lx9 ((made l).2), blkA g14 #[.int .i64 ((hmakeV ((made l).1) 4).kind), .int .i64 ((hmakeV ((made l).1) 4).p), .int .i64 ((hmakeV ((made l).1) 4).q), .string ((hmakeV ((made l).1) 4).str), .int .i64 ((hmakeV ((made l).1) 4).ref)] 26, hpA hb7 (hmake ((made l).1) (newO 4 0 ByteArray.empty [])), blkA g11 #[pB hb7 0, pB gb8 0, lx9] 35, rhA gb8 ((made l).1), blkA g2 #[.int .i64 x.v.kind, .int .i64 x.v.p, .int .i64 x.v.q, .string x.v.str, .int .i64 x.v.ref, .int .i64 x.obj] 28, blkA g1 #[.int .i64 k.v.kind, .int .i64 k.v.p, .int .i64 k.v.q, .string k.v.str, .int .i64 k.v.ref, .int .i64 k.obj] 28]) ?_ (fun hj43 => ?_)
  ·
   rintro g19
   try dsimp only
   refine h_stepS2 5 7 ?_ ?_
   ·
    refine s_call [1] (of_s (L := (made l).2) (by (try simp only [lnm]); omega) x) ?_
    rintro _ _ ⟨rfl, rfl⟩
    refine s_nil (xs_held [2, 3, 0, 3, 3] ?_)
    exact h_use hj38 g19 (fun _ h => h.re [1, 0, 0, 0, 0, 0, 0, 0] [])
   ·
    refine s_alloc (.agg #[.int .i64 0, .int .i64 0, .int .i64 0, .string ByteArray.empty, .int .i64 0]) #[.int .i64 0, .int .i64 0, .int .i64 0, .string ByteArray.empty, .int .i64 0] (fun g44 => ?_)
    refine s_nil (xs_held [3, 4, 2, 4, 4] ?_)
    exact h_use hj42 (g19, g44) (fun _ h => h.re [0, 0, 0, 0, 0, 0, 0, 0, 0] [])
  refine h_join (ι := Nat) 4 #[true, true, true, true, true, false, false, true, false, false] (fun g21 => [(7, pB g11 0), (9, pB g14 0), (12, pB g21 0), (40, .agg #[.int .i64 ((ofS ((made l).2) k).kind), .int .i64 ((ofS ((made l).2) k).p), .int .i64 ((ofS ((made l).2) k).q), .string ((ofS ((made l).2) k).str), .int .i64 ((ofS ((made l).2) k).ref)]), (41, .agg #[pB hb7 0, pB gb8 0, lx9]), (42, .agg #[.int .i64 x.v.kind, .int .i64 x.v.p, .int .i64 x.v.q, .string x.v.str, .int .i64 x.v.ref, .int .i64 x.obj])]) (fun g21 => [blkA g21 #[.int .i64 0, .int .i64 0, .int .i64 0, .string ByteArray.empty, .int .i64 0] 26, own VlT lx9 ((made l).2), blkA g14 #[.int .i64 ((hmakeV ((made l).1) 4).kind), .int .i64 ((hmakeV ((made l).1) 4).p), .int .i64 ((hmakeV ((made l).1) 4).q), .string ((hmakeV ((made l).1) 4).str), .int .i64 ((hmakeV ((made l).1) 4).ref)] 26, hpA hb7 (hmake ((made l).1) (newO 4 0 ByteArray.empty [])), blkA g11 #[pB hb7 0, pB gb8 0, lx9] 35, rhA gb8 ((made l).1), blkA g2 #[.int .i64 x.v.kind, .int .i64 x.v.p, .int .i64 x.v.q, .string x.v.str, .int .i64 x.v.ref, .int .i64 x.obj] 28, blkA g1 #[.int .i64 k.v.kind, .int .i64 k.v.p, .int .i64 k.v.q, .string k.v.str, .int .i64 k.v.ref, .int .i64 k.obj] 28]) ?_ (fun hj45 => ?_)
  ·
   rintro g21
   try dsimp only
   refine h_stepS2 5 6 ?_ ?_
   ·
    refine s_call [1] (of_s (L := (made l).2) (by (try simp only [lnm]); omega) x) ?_
    rintro _ _ ⟨rfl, rfl⟩
    refine s_nil (xs_held [2, 3, 0, 3, 3] ?_)
    exact h_use hj40 g21 (fun _ h => h.re [1, 0, 0, 0, 0, 0, 0, 0] [])
   ·
    refine s_alloc (.agg #[.int .i64 0, .int .i64 0, .int .i64 0, .string ByteArray.empty, .int .i64 0]) #[.int .i64 0, .int .i64 0, .int .i64 0, .string ByteArray.empty, .int .i64 0] (fun g46 => ?_)
    refine s_nil (xs_held [3, 4, 2, 4, 4] ?_)
    exact h_use hj42 (g46, g21) (fun _ h => h.re [1, 0, 0, 0, 0, 0, 0, 0, 0] [])
  refine h_join (ι := Nat × Nat) 4 #[true, true, false, true, true, false, true, true, false, false] (fun (g23, g24) => [(7, pB g11 0), (9, pB g14 0), (11, pB g23 0), (12, pB g24 0), (38, .agg #[pB hb7 0, pB gb8 0, lx9]), (39, .agg #[.int .i64 k.v.kind, .int .i64 k.v.p, .int .i64 k.v.q, .string k.v.str, .int .i64 k.v.ref, .int .i64 k.obj]), (41, .agg #[pB hb7 0, pB gb8 0, lx9]), (42, .agg #[.int .i64 x.v.kind, .int .i64 x.v.p, .int .i64 x.v.q, .string x.v.str, .int .i64 x.v.ref, .int .i64 x.obj])]) (fun (g23, g24) => [blkA g24 #[.int .i64 0, .int .i64 0, .int .i64 0, .string ByteArray.empty, .int .i64 0] 26, blkA g23 #[.int .i64 0, .int .i64 0, .int .i64 0, .string ByteArray.empty, .int .i64 0] 26, blkA g14 #[.int .i64 ((hmakeV ((made l).1) 4).kind), .int .i64 ((hmakeV ((made l).1) 4).p), .int .i64 ((hmakeV ((made l).1) 4).q), .string ((hmakeV ((made l).1) 4).str), .int .i64 ((hmakeV ((made l).1) 4).ref)] 26, hpA hb7 (hmake ((made l).1) (newO 4 0 ByteArray.empty [])), blkA g11 #[pB hb7 0, pB gb8 0, lx9] 35, rhA gb8 ((made l).1), own VlT lx9 ((made l).2), blkA g2 #[.int .i64 x.v.kind, .int .i64 x.v.p, .int .i64 x.v.q, .string x.v.str, .int .i64 x.v.ref, .int .i64 x.obj] 28, blkA g1 #[.int .i64 k.v.kind, .int .i64 k.v.p, .int .i64 k.v.q, .string k.v.str, .int .i64 k.v.ref, .int .i64 k.obj] 28]) ?_ (fun hj47 => ?_)
  ·
   rintro ⟨g23, g24⟩
   try dsimp only
   refine h_stepS 2 ?_
   refine s_call [6] (of_s (L := (made l).2) (by (try simp only [lnm]); omega) k) ?_
   rintro _ _ ⟨rfl, rfl⟩
   refine s_nil (xs_held [3, 4, 0, 4, 4] ?_)
   exact h_use hj42 (g23, g24) (fun _ h => h.re [1, 1, 0, 0, 0, 0, 0, 0, 0] [])
  refine h_stepS3 2 6 7 ?_ ?_ ?_
  ·
   refine s_call [4] (of_s (L := (made l).2) (by (try simp only [lnm]); omega) k) ?_
   rintro _ _ ⟨rfl, rfl⟩
   refine s_nil (xs_held [1, 2, 0, 2, 2] ?_)
   refine h_stepS3 5 6 7 ?_ ?_ ?_
   ·
    refine s_call [0] (of_s (L := (made l).2) (by (try simp only [lnm]); omega) x) ?_
    rintro _ _ ⟨rfl, rfl⟩
    refine s_nil (xs_held [1, 2, 0, 2, 2] ?_)
    refine h_stepS2 6 7 ?_ ?_
    ·
     refine s_alloc (.agg #[.int .i64 0, .int .i64 0, .int .i64 0, .string ByteArray.empty, .int .i64 0]) #[.int .i64 0, .int .i64 0, .int .i64 0, .string ByteArray.empty, .int .i64 0] (fun g48 => ?_)
     refine s_nil (xs_held [2, 3, 1, 3, 3] ?_)
     exact h_use hj38 g48 (fun _ h => h.re [0, 0, 0, 0, 0, 0, 0, 0] [])
    ·
     refine s_alloc (.agg #[.int .i64 0, .int .i64 0, .int .i64 0, .string ByteArray.empty, .int .i64 0]) #[.int .i64 0, .int .i64 0, .int .i64 0, .string ByteArray.empty, .int .i64 0] (fun g49 => ?_)
     refine s_nil (xs_held [2, 3, 1, 3, 3] ?_)
     exact h_use hj40 g49 (fun _ h => h.re [0, 0, 0, 0, 0, 0, 0, 0] [])
   ·
    refine s_alloc (.agg #[.int .i64 0, .int .i64 0, .int .i64 0, .string ByteArray.empty, .int .i64 0]) #[.int .i64 0, .int .i64 0, .int .i64 0, .string ByteArray.empty, .int .i64 0] (fun g50 => ?_)
    refine s_nil (xs_held [2, 3, 1, 3, 3] ?_)
    exact h_use hj43 g50 (fun _ h => h.re [0, 0, 0, 0, 0, 0, 0, 0] [])
   ·
    refine s_alloc (.agg #[.int .i64 0, .int .i64 0, .int .i64 0, .string ByteArray.empty, .int .i64 0]) #[.int .i64 0, .int .i64 0, .int .i64 0, .string ByteArray.empty, .int .i64 0] (fun g51 => ?_)
    refine s_nil (xs_held [2, 3, 1, 3, 3] ?_)
    exact h_use hj45 g51 (fun _ h => h.re [0, 0, 0, 0, 0, 0, 0, 0] [])
  ·
   refine s_alloc (.agg #[.int .i64 0, .int .i64 0, .int .i64 0, .string ByteArray.empty, .int .i64 0]) #[.int .i64 0, .int .i64 0, .int .i64 0, .string ByteArray.empty, .int .i64 0] (fun g52 => ?_)
   refine s_nil (xs_held [1, 2, 3, 3, 3] ?_)
   refine h_stepS2 2 7 ?_ ?_
   ·
    refine s_call [5] (of_s (L := (made l).2) (by (try simp only [lnm]); omega) k) ?_
    rintro _ _ ⟨rfl, rfl⟩
    refine s_nil (xs_held [2, 3, 0, 3, 3] ?_)
    exact h_use hj43 g52 (fun _ h => h.re [1, 0, 0, 0, 0, 0, 0, 0] [])
   ·
    refine s_alloc (.agg #[.int .i64 0, .int .i64 0, .int .i64 0, .string ByteArray.empty, .int .i64 0]) #[.int .i64 0, .int .i64 0, .int .i64 0, .string ByteArray.empty, .int .i64 0] (fun g53 => ?_)
    refine s_nil (xs_held [2, 3, 4, 4, 4] ?_)
    exact h_use hj47 (g52, g53) (fun _ h => h.re [0, 0, 0, 0, 0, 0, 0, 0, 0] [])
  ·
   refine s_alloc (.agg #[.int .i64 0, .int .i64 0, .int .i64 0, .string ByteArray.empty, .int .i64 0]) #[.int .i64 0, .int .i64 0, .int .i64 0, .string ByteArray.empty, .int .i64 0] (fun g54 => ?_)
   refine s_nil (xs_held [1, 2, 3, 3, 3] ?_)
   refine h_stepS2 2 6 ?_ ?_
   ·
    refine s_call [5] (of_s (L := (made l).2) (by (try simp only [lnm]); omega) k) ?_
    rintro _ _ ⟨rfl, rfl⟩
    refine s_nil (xs_held [2, 3, 0, 3, 3] ?_)
    exact h_use hj45 g54 (fun _ h => h.re [1, 0, 0, 0, 0, 0, 0, 0] [])
   ·
    refine s_alloc (.agg #[.int .i64 0, .int .i64 0, .int .i64 0, .string ByteArray.empty, .int .i64 0]) #[.int .i64 0, .int .i64 0, .int .i64 0, .string ByteArray.empty, .int .i64 0] (fun g55 => ?_)
    refine s_nil (xs_held [2, 3, 4, 4, 4] ?_)
    exact h_use hj47 (g55, g54) (fun _ h => h.re [1, 0, 0, 0, 0, 0, 0, 0, 0] [])
end Go.Proofs.Ytplkkhpokodbmaa
