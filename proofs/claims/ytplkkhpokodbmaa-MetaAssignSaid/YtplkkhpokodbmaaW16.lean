/-
  Layer 15: what assignments need, by the document. Each law says its conditions.
-/
import Derived.Test.YtplkkhpokodbmaaW15
set_option linter.unusedSimpArgs false
set_option linter.unusedVariables false
set_option maxRecDepth 100000
set_option maxHeartbeats 2000000
namespace Go.Proofs.Ytplkkhpokodbmaa
open Go.Hp Go.J Go.S
open Go.Mem (Ty KTy blk elemAt pre suf blk_pre blk_suf aget aset strK aggDesc)
open Go.Mem (adel apos aget_aset aget_adel)
section
variable {st : Hst} {k x q f : Vl}
theorem sta_yes (h4 : q.kind = 4) (h : (decide ((hgetV st q k).kind ≠ 0) || decide (f.kind = 0)) = true) : sta st k x q f = (storN q.kind (hsetE st q k x), true) := by
  rw [sta, if_pos]
  refine ⟨h4, fun h2 => ?_⟩
  rw [decide_eq_false (fun h3 => h3 h2.1), decide_eq_false h2.2] at h
  cases h
theorem sta_no4 (h4 : ¬ q.kind = 4) : sta st k x q f = (zNd, false) := by rw [sta, if_neg (fun h => h4 h.1)]
theorem sta_no (h : (decide ((hgetV st q k).kind ≠ 0) || decide (f.kind = 0)) = false) : sta st k x q f = (zNd, false) := by
  rw [sta, if_neg]
  rintro ⟨_, h2⟩
  rw [Bool.or_eq_false_iff] at h
  exact h2 ⟨Decidable.not_not.1 (of_decide_eq_false h.1), of_decide_eq_false h.2⟩
end
theorem rstored_s {Z : Zone} {F : List Asr} {b : Nat} {st : Hst} {n : Nat} (hsm : HSm n st) (hn : n ≤ 300) (v k x : Vl) : SF Try.prog 67 #[.pointer (some ⟨b, 0, none⟩), v.v, k.v, x.v] Z (rhA b st :: F) fun r Bs => r = (storN v.kind (hsetE st v k x)).w (.slice none 0 0) ∧ Bs = rhA b (hset st v k x) :: F := by
 refine sf_enter Try.func67 27 [(0, pB b 0), (1, .agg #[.int .i64 v.kind, .int .i64 v.p, .int .i64 v.q, .string v.str, .int .i64 v.ref]), (2, .agg #[.int .i64 k.kind, .int .i64 k.p, .int .i64 k.q, .string k.str, .int .i64 k.ref]), (3, .agg #[.int .i64 x.kind, .int .i64 x.p, .int .i64 x.q, .string x.str, .int .i64 x.ref])] (fun w0 => ?_)
 have hlen0 := hsm.len
 refine k_fact (fun H h => rh_inv (h.re [0] [])) (fun hi0 => ?_)
 refine k_sr ?_
 refine s_box #[.int .i64 v.kind, .int .i64 v.p, .int .i64 v.q, .string v.str, .int .i64 v.ref] (fun g1 => ?_)
 refine s_box #[.int .i64 k.kind, .int .i64 k.p, .int .i64 k.q, .string k.str, .int .i64 k.ref] (fun g2 => ?_)
 refine s_box #[.int .i64 x.kind, .int .i64 x.p, .int .i64 x.q, .string x.str, .int .i64 x.ref] (fun g3 => ?_)
 refine s_alloc (.agg #[.int .i64 0, .int .i64 0, .int .i64 0, .int .i64 0, .string ByteArray.empty, .int .i64 0, .int .i64 0, .int .i64 0, .int .i64 0, .string ByteArray.empty, .int .i64 0, (.slice none 0 0), .int .i64 0, .string ByteArray.empty]) #[.int .i64 0, .int .i64 0, .int .i64 0, .int .i64 0, .string ByteArray.empty, .int .i64 0, .int .i64 0, .int .i64 0, .int .i64 0, .string ByteArray.empty, .int .i64 0, (.slice none 0 0), .int .i64 0, .string ByteArray.empty] (fun g4 => ?_)
 refine s_nt ?_
 refine k_seq ?_
 refine k_sr ?_
 refine sp (pB b 0) ?_
 refine s_lt (t_loadA 3 #[.int .i64 v.kind, .int .i64 v.p, .int .i64 v.q, .string v.str, .int .i64 v.ref]) ?_
 refine s_lt (t_loadA 2 #[.int .i64 k.kind, .int .i64 k.p, .int .i64 k.q, .string k.str, .int .i64 k.ref]) ?_
 refine s_lt (t_loadA 1 #[.int .i64 x.kind, .int .i64 x.p, .int .i64 x.q, .string x.str, .int .i64 x.ref]) ?_
 refine s_call [4] (rhset_s (st := st) hsm (by omega) v k x) ?_
 rintro _ _ ⟨rfl, rfl⟩
 refine s_nt ?_
 refine k_block ?_
 refine k_sr ?_
 refine s_lt t_cmp ?_
 refine sp (.bool (decide ((hsetE st v k x) = 0))) ?_
 refine s_nt ?_
 refine k_cond (decide ((hsetE st v k x) = 0)) (fun c5 => ?_) (fun c5 => ?_)
 ·
  have p6 := of_decide_eq_true c5
  refine k_sr ?_
  refine s_lt (t_kern (.agg #[.int .i64 0, .int .i64 0, .int .i64 0, .string ByteArray.empty, .int .i64 0])) ?_
  refine s_vcall (fun _ h => give_s zVl) ?_
  rintro _ rfl
  refine s_store 1 #[.int .i64 1, .int .i64 0, .int .i64 0, .int .i64 0, .string ByteArray.empty, .int .i64 0, .int .i64 0, .int .i64 0, .int .i64 0, .string ByteArray.empty, .int .i64 0, (.slice none 0 0), .int .i64 0, .string ByteArray.empty] ?_
  refine s_nt ?_
  refine k_ret ?_
  refine xs_retBlock ?_
  refine xs_ret ?_
  have hs : storN v.kind (hsetE st v k x) = giveN zVl := by rw [storN, if_pos (of_decide_eq_true c5)]
  exact xs_fin [.agg #[.int .i64 1, .int .i64 0, .int .i64 0, .int .i64 0, .string ByteArray.empty, .int .i64 0, .int .i64 0, .int .i64 0, .int .i64 0, .string ByteArray.empty, .int .i64 0, (.slice none 0 0), .int .i64 0, .string ByteArray.empty]] (rhA b (hset st v k x) :: F) (SI.agg 8 51 1 SI.nil) (fun _ h => h.re [0] [1, 1, 1, 1]) ⟨by rw [hs]; rfl, rfl⟩
 ·
  have p7 := of_decide_eq_false c5
  refine k_sr ?_
  refine s_lt t_cmp ?_
  refine sp (.bool (decide ((hsetE st v k x) = 13))) ?_
  refine s_nt ?_
  refine k_cond (decide ((hsetE st v k x) = 13)) (fun c8 => ?_) (fun c8 => ?_)
  ·
   have p9 := of_decide_eq_true c8
   refine k_sr ?_
   refine s_vcall (fun _ h => fail_s ⟨#[105, 110, 100, 101, 120, 32, 105, 115, 32, 110, 105, 108]⟩) ?_
   rintro _ rfl
   refine s_store 1 #[.int .i64 3, .int .i64 0, .int .i64 0, .int .i64 0, .string ByteArray.empty, .int .i64 0, .int .i64 0, .int .i64 0, .int .i64 0, .string ByteArray.empty, .int .i64 0, (.slice none 0 0), .int .i64 0, .string ⟨#[105, 110, 100, 101, 120, 32, 105, 115, 32, 110, 105, 108]⟩] ?_
   refine s_nt ?_
   refine k_ret ?_
   refine xs_retBlock ?_
   refine xs_ret ?_
   have hs : storN v.kind (hsetE st v k x) = failN ⟨#[105, 110, 100, 101, 120, 32, 105, 115, 32, 110, 105, 108]⟩ := by rw [storN, if_neg (of_decide_eq_false c5), if_pos (of_decide_eq_true c8)]
   exact xs_fin [.agg #[.int .i64 3, .int .i64 0, .int .i64 0, .int .i64 0, .string ByteArray.empty, .int .i64 0, .int .i64 0, .int .i64 0, .int .i64 0, .string ByteArray.empty, .int .i64 0, (.slice none 0 0), .int .i64 0, .string ⟨#[105, 110, 100, 101, 120, 32, 105, 115, 32, 110, 105, 108]⟩]] (rhA b (hset st v k x) :: F) (SI.agg 8 51 1 SI.nil) (fun _ h => h.re [0] [1, 1, 1, 1]) ⟨by rw [hs]; rfl, rfl⟩
  ·
   have p10 := of_decide_eq_false c8
   refine k_sr ?_
   refine s_lt t_cmp ?_
   refine sp (.bool (decide ((hsetE st v k x) = 14))) ?_
   refine s_nt ?_
   refine k_cond (decide ((hsetE st v k x) = 14)) (fun c11 => ?_) (fun c11 => ?_)
   ·
    have p12 := of_decide_eq_true c11
    refine k_sr ?_
    refine s_vcall (fun _ h => fail_s ⟨#[115, 116, 114, 105, 110, 103, 32, 116, 111, 111, 32, 108, 111, 110, 103]⟩) ?_
    rintro _ rfl
    refine s_store 1 #[.int .i64 3, .int .i64 0, .int .i64 0, .int .i64 0, .string ByteArray.empty, .int .i64 0, .int .i64 0, .int .i64 0, .int .i64 0, .string ByteArray.empty, .int .i64 0, (.slice none 0 0), .int .i64 0, .string ⟨#[115, 116, 114, 105, 110, 103, 32, 116, 111, 111, 32, 108, 111, 110, 103]⟩] ?_
    refine s_nt ?_
    refine k_ret ?_
    refine xs_retBlock ?_
    refine xs_ret ?_
    have hs : storN v.kind (hsetE st v k x) = failN ⟨#[115, 116, 114, 105, 110, 103, 32, 116, 111, 111, 32, 108, 111, 110, 103]⟩ := by rw [storN, if_neg (of_decide_eq_false c5), if_neg (of_decide_eq_false c8), if_pos (of_decide_eq_true c11)]
    exact xs_fin [.agg #[.int .i64 3, .int .i64 0, .int .i64 0, .int .i64 0, .string ByteArray.empty, .int .i64 0, .int .i64 0, .int .i64 0, .int .i64 0, .string ByteArray.empty, .int .i64 0, (.slice none 0 0), .int .i64 0, .string ⟨#[115, 116, 114, 105, 110, 103, 32, 116, 111, 111, 32, 108, 111, 110, 103]⟩]] (rhA b (hset st v k x) :: F) (SI.agg 8 51 1 SI.nil) (fun _ h => h.re [0] [1, 1, 1, 1]) ⟨by rw [hs]; rfl, rfl⟩
   ·
    have p13 := of_decide_eq_false c11
    refine k_skip ?_
    refine xs_block ?_
    refine xs_then ?_
    refine k_sr ?_
    refine s_lt (t_loadA 4 #[.int .i64 v.kind, .int .i64 v.p, .int .i64 v.q, .string v.str, .int .i64 v.ref]) ?_
    refine s_vcall (fun _ h => rindex_s v) ?_
    rintro _ rfl
    refine s_vcall (fun _ h => fail_s (attB v.kind)) ?_
    rintro _ rfl
    refine s_store 1 #[.int .i64 3, .int .i64 0, .int .i64 0, .int .i64 0, .string ByteArray.empty, .int .i64 0, .int .i64 0, .int .i64 0, .int .i64 0, .string ByteArray.empty, .int .i64 0, (.slice none 0 0), .int .i64 0, .string (attB v.kind)] ?_
    refine s_nt ?_
    refine k_ret ?_
    have hs : storN v.kind (hsetE st v k x) = failN (attB v.kind) := by rw [storN, if_neg (of_decide_eq_false c5), if_neg (of_decide_eq_false c8), if_neg (of_decide_eq_false c11)]
    exact xs_fin [.agg #[.int .i64 3, .int .i64 0, .int .i64 0, .int .i64 0, .string ByteArray.empty, .int .i64 0, .int .i64 0, .int .i64 0, .int .i64 0, .string ByteArray.empty, .int .i64 0, (.slice none 0 0), .int .i64 0, .string (attB v.kind)]] (rhA b (hset st v k x) :: F) (SI.agg 8 51 1 SI.nil) (fun _ h => h.re [0] [1, 1, 1, 1]) ⟨by rw [hs]; rfl, rfl⟩
theorem rassign_s {Z : Zone} {F : List Asr} {b : Nat} {st : Hst} {n : Nat} (hsm : HSm n st) (hn : n ≤ 300) (v k x : Vl) : SF Try.prog 23 #[.pointer (some ⟨b, 0, none⟩), v.v, k.v, x.v] Z (rhA b st :: F) fun r Bs => ∃ av, r = (asg st k x 32 v).w av ∧ Bs = own VlT av (asg st k x 32 v).args :: rhA b (asgS st k x 32 v) :: F := by
 refine sf_enter Try.func23 59 [(0, pB b 0), (1, .agg #[.int .i64 v.kind, .int .i64 v.p, .int .i64 v.q, .string v.str, .int .i64 v.ref]), (2, .agg #[.int .i64 k.kind, .int .i64 k.p, .int .i64 k.q, .string k.str, .int .i64 k.ref]), (3, .agg #[.int .i64 x.kind, .int .i64 x.p, .int .i64 x.q, .string x.str, .int .i64 x.ref])] (fun w0 => ?_)
 have hlen0 := hsm.len
 refine k_fact (fun H h => rh_inv (h.re [0] [])) (fun hi0 => ?_)
 refine k_sr ?_
 refine s_box #[.int .i64 v.kind, .int .i64 v.p, .int .i64 v.q, .string v.str, .int .i64 v.ref] (fun g1 => ?_)
 refine s_box #[.int .i64 k.kind, .int .i64 k.p, .int .i64 k.q, .string k.str, .int .i64 k.ref] (fun g2 => ?_)
 refine s_box #[.int .i64 x.kind, .int .i64 x.p, .int .i64 x.q, .string x.str, .int .i64 x.ref] (fun g3 => ?_)
 refine s_alloc (.agg #[.int .i64 0, .int .i64 0, .int .i64 0, .int .i64 0, .string ByteArray.empty, .int .i64 0, .int .i64 0, .int .i64 0, .int .i64 0, .string ByteArray.empty, .int .i64 0, (.slice none 0 0), .int .i64 0, .string ByteArray.empty]) #[.int .i64 0, .int .i64 0, .int .i64 0, .int .i64 0, .string ByteArray.empty, .int .i64 0, .int .i64 0, .int .i64 0, .int .i64 0, .string ByteArray.empty, .int .i64 0, (.slice none 0 0), .int .i64 0, .string ByteArray.empty] (fun g4 => ?_)
 refine s_nt ?_
 refine k_seq ?_
 refine k_sr ?_
 refine sp (.int .i64 0) ?_
 refine s_nt ?_
 refine k_block ?_
 refine k_loop (ι := Vl × Nat) (fun (q, i) => i ≤ 32 ∧ asg st k x (32 - i) q = asg st k x 32 v ∧ asgS st k x (32 - i) q = asgS st k x 32 v) (fun (q, i) => [(0, pB b 0), (5, pB g1 0), (6, pB g2 0), (7, pB g3 0), (8, pB g4 0), (9, .int .i64 (i : Int))]) (fun (q, i) => blkA g4 #[.int .i64 0, .int .i64 0, .int .i64 0, .int .i64 0, .string ByteArray.empty, .int .i64 0, .int .i64 0, .int .i64 0, .int .i64 0, .string ByteArray.empty, .int .i64 0, (.slice none 0 0), .int .i64 0, .string ByteArray.empty] 51 :: blkA g3 #[.int .i64 x.kind, .int .i64 x.p, .int .i64 x.q, .string x.str, .int .i64 x.ref] 26 :: blkA g2 #[.int .i64 k.kind, .int .i64 k.p, .int .i64 k.q, .string k.str, .int .i64 k.ref] 26 :: blkA g1 #[.int .i64 q.kind, .int .i64 q.p, .int .i64 q.q, .string q.str, .int .i64 q.ref] 26 :: rhA b st :: F) (fun (q, i) => 32 - i) (v, 0) ⟨by omega, rfl, rfl⟩ (sub_of rfl ⟨⟨rfl, rfl⟩, ⟨⟨rfl, rfl⟩, ⟨⟨rfl, rfl⟩, ⟨⟨rfl, rfl⟩, ⟨⟨rfl, rfl⟩, ⟨⟨rfl, rfl⟩, trivial⟩⟩⟩⟩⟩⟩) (fun _ h => h.re [0, 0, 0, 0, 0] []) ?_
 rintro ⟨q, i⟩ hi5
 replace hi5 : i ≤ 32 ∧ asg st k x (32 - i) q = asg st k x 32 v ∧ asgS st k x (32 - i) q = asgS st k x 32 v := hi5
 show SK _ _ _ _ _ [(0, .pointer (some ⟨b, 0, none⟩)), (5, .pointer (some ⟨g1, 0, none⟩)), (6, .pointer (some ⟨g2, 0, none⟩)), (7, .pointer (some ⟨g3, 0, none⟩)), (8, .pointer (some ⟨g4, 0, none⟩)), (9, .int .i64 (i : Int))] _ (blkA g4 #[.int .i64 0, .int .i64 0, .int .i64 0, .int .i64 0, .string ByteArray.empty, .int .i64 0, .int .i64 0, .int .i64 0, .int .i64 0, .string ByteArray.empty, .int .i64 0, (.slice none 0 0), .int .i64 0, .string ByteArray.empty] 51 :: blkA g3 #[.int .i64 x.kind, .int .i64 x.p, .int .i64 x.q, .string x.str, .int .i64 x.ref] 26 :: blkA g2 #[.int .i64 k.kind, .int .i64 k.p, .int .i64 k.q, .string k.str, .int .i64 k.ref] 26 :: blkA g1 #[.int .i64 q.kind, .int .i64 q.p, .int .i64 q.q, .string q.str, .int .i64 q.ref] 26 :: rhA b st :: F)
 refine k_seq ?_
 refine k_sr ?_
 refine sp (.int .i64 (i : Int)) ?_
 refine s_lt t_cmp ?_
 refine s_nt ?_
 refine k_cond (decide ((i : Int) < 32)) (fun c6 => ?_) (fun c6 => ?_)
 ·
  have p7 := of_decide_eq_true c6
  refine k_st ?_
  refine k_seq ?_
  refine k_block ?_
  refine k_sr ?_
  refine sp (pB b 0) ?_
  refine s_lt (t_loadA 3 #[.int .i64 q.kind, .int .i64 q.p, .int .i64 q.q, .string q.str, .int .i64 q.ref]) ?_
  refine s_call [4] (rhdl_s (st := st) hsm (by omega) q ⟨#[95, 95, 110, 101, 119, 105, 110, 100, 101, 120]⟩) ?_
  rintro _ _ ⟨rfl, rfl⟩
  refine s_alloc (.agg #[.int .i64 0, .int .i64 0, .int .i64 0, .string ByteArray.empty, .int .i64 0]) #[.int .i64 0, .int .i64 0, .int .i64 0, .string ByteArray.empty, .int .i64 0] (fun g8 => ?_)
  refine s_store 0 #[.int .i64 ((hdl st q ⟨#[95, 95, 110, 101, 119, 105, 110, 100, 101, 120]⟩).kind), .int .i64 ((hdl st q ⟨#[95, 95, 110, 101, 119, 105, 110, 100, 101, 120]⟩).p), .int .i64 ((hdl st q ⟨#[95, 95, 110, 101, 119, 105, 110, 100, 101, 120]⟩).q), .string ((hdl st q ⟨#[95, 95, 110, 101, 119, 105, 110, 100, 101, 120]⟩).str), .int .i64 ((hdl st q ⟨#[95, 95, 110, 101, 119, 105, 110, 100, 101, 120]⟩).ref)] ?_
  refine s_nt ?_
  refine k_seq ?_
  refine k_sr ?_
  refine sp (pB g1 0) ?_
  refine s_lt (t_load 5 (.int .i64 q.kind)) ?_
  refine s_lt t_cmp ?_
  refine s_nt ?_
  refine k_cond (decide (q.kind = 4)) (fun c9 => ?_) (fun c9 => ?_)
  ·
   have p10 := of_decide_eq_true c9
   refine k_sr ?_
   refine sp (pB b 0) ?_
   refine s_lt (t_loadA 5 #[.int .i64 q.kind, .int .i64 q.p, .int .i64 q.q, .string q.str, .int .i64 q.ref]) ?_
   refine s_lt (t_loadA 4 #[.int .i64 k.kind, .int .i64 k.p, .int .i64 k.q, .string k.str, .int .i64 k.ref]) ?_
   refine s_call [1] (rhget_s (st := st) hsm (by omega) q k) ?_
   rintro _ _ ⟨rfl, rfl⟩
   refine sp (.tuple #[.agg #[.int .i64 ((hgetV st q k).kind), .int .i64 ((hgetV st q k).p), .int .i64 ((hgetV st q k).q), .string ((hgetV st q k).str), .int .i64 ((hgetV st q k).ref)], .int .i64 (hgetE st q)]) ?_
   refine sp (.agg #[.int .i64 ((hgetV st q k).kind), .int .i64 ((hgetV st q k).p), .int .i64 ((hgetV st q k).q), .string ((hgetV st q k).str), .int .i64 ((hgetV st q k).ref)]) ?_
   refine sp (.int .i64 (hgetE st q)) ?_
   refine s_alloc (.agg #[.int .i64 0, .int .i64 0, .int .i64 0, .string ByteArray.empty, .int .i64 0]) #[.int .i64 0, .int .i64 0, .int .i64 0, .string ByteArray.empty, .int .i64 0] (fun g11 => ?_)
   refine s_store 0 #[.int .i64 ((hgetV st q k).kind), .int .i64 ((hgetV st q k).p), .int .i64 ((hgetV st q k).q), .string ((hgetV st q k).str), .int .i64 ((hgetV st q k).ref)] ?_
   refine sp (.int .i64 (hgetE st q)) ?_
   refine s_nt ?_
   refine k_cut (ι := Unit) (fun _ => True) (fun _ => [(0, pB b 0), (5, pB g1 0), (6, pB g2 0), (7, pB g3 0), (8, pB g4 0), (9, .int .i64 (i : Int)), (10, pB g8 0), (37, .bool ((decide ((hgetV st q k).kind ≠ 0)) || (decide ((hdl st q ⟨#[95, 95, 110, 101, 119, 105, 110, 100, 101, 120]⟩).kind = 0))))]) (fun _ => blkA g11 #[.int .i64 ((hgetV st q k).kind), .int .i64 ((hgetV st q k).p), .int .i64 ((hgetV st q k).q), .string ((hgetV st q k).str), .int .i64 ((hgetV st q k).ref)] 26 :: rhA b st :: blkA g8 #[.int .i64 ((hdl st q ⟨#[95, 95, 110, 101, 119, 105, 110, 100, 101, 120]⟩).kind), .int .i64 ((hdl st q ⟨#[95, 95, 110, 101, 119, 105, 110, 100, 101, 120]⟩).p), .int .i64 ((hdl st q ⟨#[95, 95, 110, 101, 119, 105, 110, 100, 101, 120]⟩).q), .string ((hdl st q ⟨#[95, 95, 110, 101, 119, 105, 110, 100, 101, 120]⟩).str), .int .i64 ((hdl st q ⟨#[95, 95, 110, 101, 119, 105, 110, 100, 101, 120]⟩).ref)] 26 :: blkA g4 #[.int .i64 0, .int .i64 0, .int .i64 0, .int .i64 0, .string ByteArray.empty, .int .i64 0, .int .i64 0, .int .i64 0, .int .i64 0, .string ByteArray.empty, .int .i64 0, (.slice none 0 0), .int .i64 0, .string ByteArray.empty] 51 :: blkA g3 #[.int .i64 x.kind, .int .i64 x.p, .int .i64 x.q, .string x.str, .int .i64 x.ref] 26 :: blkA g2 #[.int .i64 k.kind, .int .i64 k.p, .int .i64 k.q, .string k.str, .int .i64 k.ref] 26 :: blkA g1 #[.int .i64 q.kind, .int .i64 q.p, .int .i64 q.q, .string q.str, .int .i64 q.ref] 26 :: F) ?_ (fun _ _ => ?_)
   ·
    refine k_reg ?_
    refine sp (pB g11 0) ?_
    refine s_lt (t_load 0 (.int .i64 ((hgetV st q k).kind))) ?_
    refine s_lt t_cmp ?_
    refine sp (.bool (decide ((hgetV st q k).kind ≠ 0))) ?_
    refine s_fork 33 (decide ((hgetV st q k).kind ≠ 0)) (fun c12 => ?_) (fun c12 => ?_)
    ·
     have p13 := of_decide_eq_true c12
     refine s_skip ?_
     refine s_skip ?_
     refine s_skip ?_
     refine sp (.bool true) ?_
     refine s_nil ?_
     exact xs_cut () trivial (sub_of rfl ⟨⟨rfl, rfl⟩, ⟨⟨rfl, rfl⟩, ⟨⟨rfl, rfl⟩, ⟨⟨rfl, rfl⟩, ⟨⟨rfl, rfl⟩, ⟨⟨rfl, rfl⟩, ⟨⟨rfl, rfl⟩, ⟨⟨rfl, show Value.bool true = Value.bool ((decide ((hgetV st q k).kind ≠ 0)) || (decide ((hdl st q ⟨#[95, 95, 110, 101, 119, 105, 110, 100, 101, 120]⟩).kind = 0))) by first | (simp only [c12, bls]; done) | simp [c12]⟩, trivial⟩⟩⟩⟩⟩⟩⟩⟩) (fun _ h => h.re [0, 0, 0, 0, 0, 0, 0] [])
    ·
     have p14 := Decidable.not_not.1 (of_decide_eq_false c12)
     refine sp (pB g8 0) ?_
     refine s_lt (t_load 2 (.int .i64 ((hdl st q ⟨#[95, 95, 110, 101, 119, 105, 110, 100, 101, 120]⟩).kind))) ?_
     refine s_lt t_cmp ?_
     refine sp (.bool (decide ((hdl st q ⟨#[95, 95, 110, 101, 119, 105, 110, 100, 101, 120]⟩).kind = 0))) ?_
     refine s_nil ?_
     exact xs_cut () trivial (sub_of rfl ⟨⟨rfl, rfl⟩, ⟨⟨rfl, rfl⟩, ⟨⟨rfl, rfl⟩, ⟨⟨rfl, rfl⟩, ⟨⟨rfl, rfl⟩, ⟨⟨rfl, rfl⟩, ⟨⟨rfl, rfl⟩, ⟨⟨rfl, show Value.bool (decide ((hdl st q ⟨#[95, 95, 110, 101, 119, 105, 110, 100, 101, 120]⟩).kind = 0)) = Value.bool ((decide ((hgetV st q k).kind ≠ 0)) || (decide ((hdl st q ⟨#[95, 95, 110, 101, 119, 105, 110, 100, 101, 120]⟩).kind = 0))) by first | (simp only [c12, bls]; done) | simp [c12]⟩, trivial⟩⟩⟩⟩⟩⟩⟩⟩) (fun _ h => h.re [0, 0, 0, 0, 0, 0, 0] [])
   ·
    refine k_cond ((decide ((hgetV st q k).kind ≠ 0)) || (decide ((hdl st q ⟨#[95, 95, 110, 101, 119, 105, 110, 100, 101, 120]⟩).kind = 0))) (fun c15 => ?_) (fun c15 => ?_)
    ·
     have p16 := c15
     simp only [Bool.and_eq_true, Bool.or_eq_true, Bool.and_eq_false_iff, Bool.or_eq_false_iff, Bool.not_eq_true', Bool.not_eq_false', decide_eq_true_eq, decide_eq_false_iff_not] at p16
     refine k_sr ?_
     refine sp (pB b 0) ?_
     refine s_lt (t_loadA 6 #[.int .i64 q.kind, .int .i64 q.p, .int .i64 q.q, .string q.str, .int .i64 q.ref]) ?_
     refine s_lt (t_loadA 5 #[.int .i64 k.kind, .int .i64 k.p, .int .i64 k.q, .string k.str, .int .i64 k.ref]) ?_
     refine s_lt (t_loadA 4 #[.int .i64 x.kind, .int .i64 x.p, .int .i64 x.q, .string x.str, .int .i64 x.ref]) ?_
     refine s_call [1] (rstored_s (st := st) hsm (by omega) q k x) ?_
     rintro _ _ ⟨rfl, rfl⟩
     refine s_store 3 #[.int .i64 ((storN q.kind (hsetE st q k x)).kind), .int .i64 (((storN q.kind (hsetE st q k x)).val).kind), .int .i64 (((storN q.kind (hsetE st q k x)).val).p), .int .i64 (((storN q.kind (hsetE st q k x)).val).q), .string (((storN q.kind (hsetE st q k x)).val).str), .int .i64 (((storN q.kind (hsetE st q k x)).val).ref), .int .i64 (((storN q.kind (hsetE st q k x)).fn).kind), .int .i64 (((storN q.kind (hsetE st q k x)).fn).p), .int .i64 (((storN q.kind (hsetE st q k x)).fn).q), .string (((storN q.kind (hsetE st q k x)).fn).str), .int .i64 (((storN q.kind (hsetE st q k x)).fn).ref), (.slice none 0 0), .int .i64 ((storN q.kind (hsetE st q k x)).after), .string ((storN q.kind (hsetE st q k x)).str)] ?_
     refine s_nt ?_
     refine k_ret ?_
     refine xs_ret ?_
     refine xs_retBlock ?_
     refine xs_ret ?_
     refine xs_ret ?_
     refine xs_retBlock ?_
     refine xs_ret ?_
     have hs : sta st k x q (hdl st q ⟨#[95, 95, 110, 101, 119, 105, 110, 100, 101, 120]⟩) = (storN q.kind (hsetE st q k x), true) := sta_yes (by omega) (c15)
     have hs2 : (sta st k x q (hdl st q ⟨#[95, 95, 110, 101, 119, 105, 110, 100, 101, 120]⟩)).2 = true := by rw [hs]
     have hc : asg st k x 32 v = storN q.kind (hsetE st q k x) := hi5.2.1.symm.trans ((chn_set (by omega) hs2).trans (by rw [hs]))
     have he : asgS st k x 32 v = (hset st q k x) := hi5.2.2.symm.trans (chnS_set (by omega) hs2)
     refine xs_mem (fun _ h => Holds.nilS (T := VlT) h) ?_
     exact xs_fin [.agg #[.int .i64 ((storN q.kind (hsetE st q k x)).kind), .int .i64 (((storN q.kind (hsetE st q k x)).val).kind), .int .i64 (((storN q.kind (hsetE st q k x)).val).p), .int .i64 (((storN q.kind (hsetE st q k x)).val).q), .string (((storN q.kind (hsetE st q k x)).val).str), .int .i64 (((storN q.kind (hsetE st q k x)).val).ref), .int .i64 (((storN q.kind (hsetE st q k x)).fn).kind), .int .i64 (((storN q.kind (hsetE st q k x)).fn).p), .int .i64 (((storN q.kind (hsetE st q k x)).fn).q), .string (((storN q.kind (hsetE st q k x)).fn).str), .int .i64 (((storN q.kind (hsetE st q k x)).fn).ref), (.slice none 0 0), .int .i64 ((storN q.kind (hsetE st q k x)).after), .string ((storN q.kind (hsetE st q k x)).str)]] (own VlT (.slice none 0 0) [] :: rhA b (asgS st k x 32 v) :: F) (SI.agg 8 51 4 SI.nil) (fun _ h => by rw [he]; exact h.re [0, 0] [2, 2, 2, 2, 2, 2]) ⟨(.slice none 0 0), by rw [hc]; rfl, by rw [hc]; exact congrArg (fun l => own VlT (.slice none 0 0) l :: rhA b (asgS st k x 32 v) :: F) (by have := sta_args (st := st) (k := k) (x := x) (v := q) (f := (hdl st q ⟨#[95, 95, 110, 101, 119, 105, 110, 100, 101, 120]⟩)); rw [hs] at this; exact this.symm)⟩
    ·
     obtain ⟨c17, c18⟩ := or_f c15
     have p19 := Decidable.not_not.1 (of_decide_eq_false c17)
     have p20 := of_decide_eq_false c18
     refine k_st ?_
     refine k_seq ?_
     refine k_sr ?_
     refine sp (pB g8 0) ?_
     refine s_lt (t_load 2 (.int .i64 ((hdl st q ⟨#[95, 95, 110, 101, 119, 105, 110, 100, 101, 120]⟩).kind))) ?_
     refine s_lt (Lt.to t_cmp (congrArg Value.bool (c18 : (decide ((hdl st q ⟨#[95, 95, 110, 101, 119, 105, 110, 100, 101, 120]⟩).kind = 0)) = false))) ?_
     refine s_nt ?_
     refine k_false ?_
     refine k_st ?_
     refine k_seq ?_
     refine k_sr ?_
     refine s_lt (t_loadA 2 #[.int .i64 ((hdl st q ⟨#[95, 95, 110, 101, 119, 105, 110, 100, 101, 120]⟩).kind), .int .i64 ((hdl st q ⟨#[95, 95, 110, 101, 119, 105, 110, 100, 101, 120]⟩).p), .int .i64 ((hdl st q ⟨#[95, 95, 110, 101, 119, 105, 110, 100, 101, 120]⟩).q), .string ((hdl st q ⟨#[95, 95, 110, 101, 119, 105, 110, 100, 101, 120]⟩).str), .int .i64 ((hdl st q ⟨#[95, 95, 110, 101, 119, 105, 110, 100, 101, 120]⟩).ref)]) ?_
     refine s_vcall (fun _ h => rfun_s (hdl st q ⟨#[95, 95, 110, 101, 119, 105, 110, 100, 101, 120]⟩)) ?_
     rintro _ rfl
     refine s_nt ?_
     refine k_cond (fnB (hdl st q ⟨#[95, 95, 110, 101, 119, 105, 110, 100, 101, 120]⟩)) (fun c21 => ?_) (fun c21 => ?_)
     ·
      refine k_sr ?_
      refine s_lt (t_loadA 2 #[.int .i64 ((hdl st q ⟨#[95, 95, 110, 101, 119, 105, 110, 100, 101, 120]⟩).kind), .int .i64 ((hdl st q ⟨#[95, 95, 110, 101, 119, 105, 110, 100, 101, 120]⟩).p), .int .i64 ((hdl st q ⟨#[95, 95, 110, 101, 119, 105, 110, 100, 101, 120]⟩).q), .string ((hdl st q ⟨#[95, 95, 110, 101, 119, 105, 110, 100, 101, 120]⟩).str), .int .i64 ((hdl st q ⟨#[95, 95, 110, 101, 119, 105, 110, 100, 101, 120]⟩).ref)]) ?_
      refine s_lt (t_loadA 6 #[.int .i64 q.kind, .int .i64 q.p, .int .i64 q.q, .string q.str, .int .i64 q.ref]) ?_
      refine s_lt (t_loadA 5 #[.int .i64 k.kind, .int .i64 k.p, .int .i64 k.q, .string k.str, .int .i64 k.ref]) ?_
      refine s_lt (t_loadA 4 #[.int .i64 x.kind, .int .i64 x.p, .int .i64 x.q, .string x.str, .int .i64 x.ref]) ?_
      refine s_buildSlice (e := 26) [(0, .agg #[.int .i64 q.kind, .int .i64 q.p, .int .i64 q.q, .string q.str, .int .i64 q.ref]), (1, .agg #[.int .i64 k.kind, .int .i64 k.p, .int .i64 k.q, .string k.str, .int .i64 k.ref]), (2, .agg #[.int .i64 x.kind, .int .i64 x.p, .int .i64 x.q, .string x.str, .int .i64 x.ref])] #[.int .i64 q.kind, .int .i64 q.p, .int .i64 q.q, .string q.str, .int .i64 q.ref, .int .i64 k.kind, .int .i64 k.p, .int .i64 k.q, .string k.str, .int .i64 k.ref, .int .i64 x.kind, .int .i64 x.p, .int .i64 x.q, .string x.str, .int .i64 x.ref] (fun g22 => ?_) (hb := by kernel_rfl)
      refine s_vcall (fun _ h => rcall_s (hdl st q ⟨#[95, 95, 110, 101, 119, 105, 110, 100, 101, 120]⟩) 4 (some ⟨g22, 0, none⟩) 3 3 []) ?_
      rintro _ rfl
      refine s_store 4 #[.int .i64 2, .int .i64 0, .int .i64 0, .int .i64 0, .string ByteArray.empty, .int .i64 0, .int .i64 ((hdl st q ⟨#[95, 95, 110, 101, 119, 105, 110, 100, 101, 120]⟩).kind), .int .i64 ((hdl st q ⟨#[95, 95, 110, 101, 119, 105, 110, 100, 101, 120]⟩).p), .int .i64 ((hdl st q ⟨#[95, 95, 110, 101, 119, 105, 110, 100, 101, 120]⟩).q), .string ((hdl st q ⟨#[95, 95, 110, 101, 119, 105, 110, 100, 101, 120]⟩).str), .int .i64 ((hdl st q ⟨#[95, 95, 110, 101, 119, 105, 110, 100, 101, 120]⟩).ref), (.slice (some ⟨g22, 0, none⟩) 3 3), .int .i64 4, .string ByteArray.empty] ?_
      refine s_nt ?_
      refine k_ret ?_
      refine xs_ret ?_
      refine xs_retBlock ?_
      refine xs_ret ?_
      refine xs_ret ?_
      refine xs_retBlock ?_
      refine xs_ret ?_
      have hs : sta st k x q (hdl st q ⟨#[95, 95, 110, 101, 119, 105, 110, 100, 101, 120]⟩) = (zNd, false) := sta_no (c15)
      have hs2 : (sta st k x q (hdl st q ⟨#[95, 95, 110, 101, 119, 105, 110, 100, 101, 120]⟩)).2 = false := by rw [hs]
      have hc : asg st k x 32 v = callN (hdl st q ⟨#[95, 95, 110, 101, 119, 105, 110, 100, 101, 120]⟩) 4 [q, k, x] := hi5.2.1.symm.trans ((chn_call (by omega) hs2 (of_decide_eq_false c18) c21))
      have he : asgS st k x 32 v = st := hi5.2.2.symm.trans (chnS_call (by omega) hs2 (of_decide_eq_false c18) c21)
      refine xs_mem (fun _ h => Holds.slice 0 h VlT_ok [q, k, x]) ?_
      exact xs_fin [.agg #[.int .i64 2, .int .i64 0, .int .i64 0, .int .i64 0, .string ByteArray.empty, .int .i64 0, .int .i64 ((hdl st q ⟨#[95, 95, 110, 101, 119, 105, 110, 100, 101, 120]⟩).kind), .int .i64 ((hdl st q ⟨#[95, 95, 110, 101, 119, 105, 110, 100, 101, 120]⟩).p), .int .i64 ((hdl st q ⟨#[95, 95, 110, 101, 119, 105, 110, 100, 101, 120]⟩).q), .string ((hdl st q ⟨#[95, 95, 110, 101, 119, 105, 110, 100, 101, 120]⟩).str), .int .i64 ((hdl st q ⟨#[95, 95, 110, 101, 119, 105, 110, 100, 101, 120]⟩).ref), (.slice (some ⟨g22, 0, none⟩) 3 3), .int .i64 4, .string ByteArray.empty]] (own VlT (.slice (some ⟨g22, 0, none⟩) 3 3) [q, k, x] :: rhA b (asgS st k x 32 v) :: F) (SI.agg 8 51 4 SI.nil) (fun _ h => by rw [he]; exact h.re [0, 1] [2, 2, 2, 2, 2, 2]) ⟨(.slice (some ⟨g22, 0, none⟩) 3 3), by rw [hc]; rfl, by rw [hc]; rfl⟩
     ·
      refine k_st ?_
      refine k_reg ?_
      refine s_lt (t_loadA 2 #[.int .i64 ((hdl st q ⟨#[95, 95, 110, 101, 119, 105, 110, 100, 101, 120]⟩).kind), .int .i64 ((hdl st q ⟨#[95, 95, 110, 101, 119, 105, 110, 100, 101, 120]⟩).p), .int .i64 ((hdl st q ⟨#[95, 95, 110, 101, 119, 105, 110, 100, 101, 120]⟩).q), .string ((hdl st q ⟨#[95, 95, 110, 101, 119, 105, 110, 100, 101, 120]⟩).str), .int .i64 ((hdl st q ⟨#[95, 95, 110, 101, 119, 105, 110, 100, 101, 120]⟩).ref)]) ?_
      refine s_store 6 #[.int .i64 ((hdl st q ⟨#[95, 95, 110, 101, 119, 105, 110, 100, 101, 120]⟩).kind), .int .i64 ((hdl st q ⟨#[95, 95, 110, 101, 119, 105, 110, 100, 101, 120]⟩).p), .int .i64 ((hdl st q ⟨#[95, 95, 110, 101, 119, 105, 110, 100, 101, 120]⟩).q), .string ((hdl st q ⟨#[95, 95, 110, 101, 119, 105, 110, 100, 101, 120]⟩).str), .int .i64 ((hdl st q ⟨#[95, 95, 110, 101, 119, 105, 110, 100, 101, 120]⟩).ref)] ?_
      refine s_nil ?_
      refine xs_block ?_
      refine xs_then ?_
      refine k_reg ?_
      refine sp (.int .i64 (i : Int)) ?_
      refine s_lt (t_add (i : Int) 1 (by (try simp only [lnm]); omega)) ?_
      refine sp (.int .i64 ((i : Int) + 1)) ?_
      refine s_nil ?_
      have hs : sta st k x q (hdl st q ⟨#[95, 95, 110, 101, 119, 105, 110, 100, 101, 120]⟩) = (zNd, false) := sta_no (c15)
      have hs2 : (sta st k x q (hdl st q ⟨#[95, 95, 110, 101, 119, 105, 110, 100, 101, 120]⟩)).2 = false := by rw [hs]
      exact xs_round ((hdl st q ⟨#[95, 95, 110, 101, 119, 105, 110, 100, 101, 120]⟩), i + 1) (by show 32 - (i + 1) < 32 - i; omega) (by show i + 1 ≤ 32 ∧ _; exact ⟨by omega, (chn_step (i := i) (q := q) (by omega) hs2 (of_decide_eq_false c18) c21).trans hi5.2.1, (chnS_step (i := i) (q := q) (by omega) hs2 (of_decide_eq_false c18) c21).trans hi5.2.2⟩) (sub_of rfl ⟨⟨rfl, rfl⟩, ⟨⟨rfl, rfl⟩, ⟨⟨rfl, rfl⟩, ⟨⟨rfl, rfl⟩, ⟨⟨rfl, rfl⟩, ⟨⟨rfl, rfl⟩, trivial⟩⟩⟩⟩⟩⟩) (fun _ h => h.re [3, 3, 3, 3, 1] [5, 5])
  ·
   have p23 := of_decide_eq_false c9
   refine k_st ?_
   refine k_seq ?_
   refine k_sr ?_
   refine sp (pB g8 0) ?_
   refine s_lt (t_load 0 (.int .i64 ((hdl st q ⟨#[95, 95, 110, 101, 119, 105, 110, 100, 101, 120]⟩).kind))) ?_
   refine s_lt t_cmp ?_
   refine s_nt ?_
   refine k_cond (decide ((hdl st q ⟨#[95, 95, 110, 101, 119, 105, 110, 100, 101, 120]⟩).kind = 0)) (fun c24 => ?_) (fun c24 => ?_)
   ·
    have p25 := of_decide_eq_true c24
    refine k_sr ?_
    refine s_lt (t_loadA 5 #[.int .i64 q.kind, .int .i64 q.p, .int .i64 q.q, .string q.str, .int .i64 q.ref]) ?_
    refine s_vcall (fun _ h => rindex_s q) ?_
    rintro _ rfl
    refine s_vcall (fun _ h => fail_s (attB q.kind)) ?_
    rintro _ rfl
    refine s_store 2 #[.int .i64 3, .int .i64 0, .int .i64 0, .int .i64 0, .string ByteArray.empty, .int .i64 0, .int .i64 0, .int .i64 0, .int .i64 0, .string ByteArray.empty, .int .i64 0, (.slice none 0 0), .int .i64 0, .string (attB q.kind)] ?_
    refine s_nt ?_
    refine k_ret ?_
    refine xs_ret ?_
    refine xs_retBlock ?_
    refine xs_ret ?_
    refine xs_ret ?_
    refine xs_retBlock ?_
    refine xs_ret ?_
    have hs : sta st k x q (hdl st q ⟨#[95, 95, 110, 101, 119, 105, 110, 100, 101, 120]⟩) = (zNd, false) := sta_no4 (by omega)
    have hs2 : (sta st k x q (hdl st q ⟨#[95, 95, 110, 101, 119, 105, 110, 100, 101, 120]⟩)).2 = false := by rw [hs]
    have hc : asg st k x 32 v = failN (attB q.kind) := hi5.2.1.symm.trans ((chn_none (by omega) hs2 (of_decide_eq_true c24)))
    have he : asgS st k x 32 v = st := hi5.2.2.symm.trans (chnS_none (by omega) hs2 (of_decide_eq_true c24))
    refine xs_mem (fun _ h => Holds.nilS (T := VlT) h) ?_
    exact xs_fin [.agg #[.int .i64 3, .int .i64 0, .int .i64 0, .int .i64 0, .string ByteArray.empty, .int .i64 0, .int .i64 0, .int .i64 0, .int .i64 0, .string ByteArray.empty, .int .i64 0, (.slice none 0 0), .int .i64 0, .string (attB q.kind)]] (own VlT (.slice none 0 0) [] :: rhA b (asgS st k x 32 v) :: F) (SI.agg 8 51 3 SI.nil) (fun _ h => by rw [he]; exact h.re [0, 1] [2, 2, 2, 2, 2]) ⟨(.slice none 0 0), by rw [hc]; rfl, by rw [hc]; rfl⟩
   ·
    have p26 := of_decide_eq_false c24
    refine k_st ?_
    refine k_seq ?_
    refine k_sr ?_
    refine s_lt (t_loadA 0 #[.int .i64 ((hdl st q ⟨#[95, 95, 110, 101, 119, 105, 110, 100, 101, 120]⟩).kind), .int .i64 ((hdl st q ⟨#[95, 95, 110, 101, 119, 105, 110, 100, 101, 120]⟩).p), .int .i64 ((hdl st q ⟨#[95, 95, 110, 101, 119, 105, 110, 100, 101, 120]⟩).q), .string ((hdl st q ⟨#[95, 95, 110, 101, 119, 105, 110, 100, 101, 120]⟩).str), .int .i64 ((hdl st q ⟨#[95, 95, 110, 101, 119, 105, 110, 100, 101, 120]⟩).ref)]) ?_
    refine s_vcall (fun _ h => rfun_s (hdl st q ⟨#[95, 95, 110, 101, 119, 105, 110, 100, 101, 120]⟩)) ?_
    rintro _ rfl
    refine s_nt ?_
    refine k_cond (fnB (hdl st q ⟨#[95, 95, 110, 101, 119, 105, 110, 100, 101, 120]⟩)) (fun c27 => ?_) (fun c27 => ?_)
    ·
     refine k_sr ?_
     refine s_lt (t_loadA 0 #[.int .i64 ((hdl st q ⟨#[95, 95, 110, 101, 119, 105, 110, 100, 101, 120]⟩).kind), .int .i64 ((hdl st q ⟨#[95, 95, 110, 101, 119, 105, 110, 100, 101, 120]⟩).p), .int .i64 ((hdl st q ⟨#[95, 95, 110, 101, 119, 105, 110, 100, 101, 120]⟩).q), .string ((hdl st q ⟨#[95, 95, 110, 101, 119, 105, 110, 100, 101, 120]⟩).str), .int .i64 ((hdl st q ⟨#[95, 95, 110, 101, 119, 105, 110, 100, 101, 120]⟩).ref)]) ?_
     refine s_lt (t_loadA 5 #[.int .i64 q.kind, .int .i64 q.p, .int .i64 q.q, .string q.str, .int .i64 q.ref]) ?_
     refine s_lt (t_loadA 4 #[.int .i64 k.kind, .int .i64 k.p, .int .i64 k.q, .string k.str, .int .i64 k.ref]) ?_
     refine s_lt (t_loadA 3 #[.int .i64 x.kind, .int .i64 x.p, .int .i64 x.q, .string x.str, .int .i64 x.ref]) ?_
     refine s_buildSlice (e := 26) [(0, .agg #[.int .i64 q.kind, .int .i64 q.p, .int .i64 q.q, .string q.str, .int .i64 q.ref]), (1, .agg #[.int .i64 k.kind, .int .i64 k.p, .int .i64 k.q, .string k.str, .int .i64 k.ref]), (2, .agg #[.int .i64 x.kind, .int .i64 x.p, .int .i64 x.q, .string x.str, .int .i64 x.ref])] #[.int .i64 q.kind, .int .i64 q.p, .int .i64 q.q, .string q.str, .int .i64 q.ref, .int .i64 k.kind, .int .i64 k.p, .int .i64 k.q, .string k.str, .int .i64 k.ref, .int .i64 x.kind, .int .i64 x.p, .int .i64 x.q, .string x.str, .int .i64 x.ref] (fun g28 => ?_) (hb := by kernel_rfl)
     refine s_vcall (fun _ h => rcall_s (hdl st q ⟨#[95, 95, 110, 101, 119, 105, 110, 100, 101, 120]⟩) 4 (some ⟨g28, 0, none⟩) 3 3 []) ?_
     rintro _ rfl
     refine s_store 3 #[.int .i64 2, .int .i64 0, .int .i64 0, .int .i64 0, .string ByteArray.empty, .int .i64 0, .int .i64 ((hdl st q ⟨#[95, 95, 110, 101, 119, 105, 110, 100, 101, 120]⟩).kind), .int .i64 ((hdl st q ⟨#[95, 95, 110, 101, 119, 105, 110, 100, 101, 120]⟩).p), .int .i64 ((hdl st q ⟨#[95, 95, 110, 101, 119, 105, 110, 100, 101, 120]⟩).q), .string ((hdl st q ⟨#[95, 95, 110, 101, 119, 105, 110, 100, 101, 120]⟩).str), .int .i64 ((hdl st q ⟨#[95, 95, 110, 101, 119, 105, 110, 100, 101, 120]⟩).ref), (.slice (some ⟨g28, 0, none⟩) 3 3), .int .i64 4, .string ByteArray.empty] ?_
     refine s_nt ?_
     refine k_ret ?_
     refine xs_ret ?_
     refine xs_retBlock ?_
     refine xs_ret ?_
     refine xs_ret ?_
     refine xs_retBlock ?_
     refine xs_ret ?_
     have hs : sta st k x q (hdl st q ⟨#[95, 95, 110, 101, 119, 105, 110, 100, 101, 120]⟩) = (zNd, false) := sta_no4 (by omega)
     have hs2 : (sta st k x q (hdl st q ⟨#[95, 95, 110, 101, 119, 105, 110, 100, 101, 120]⟩)).2 = false := by rw [hs]
     have hc : asg st k x 32 v = callN (hdl st q ⟨#[95, 95, 110, 101, 119, 105, 110, 100, 101, 120]⟩) 4 [q, k, x] := hi5.2.1.symm.trans ((chn_call (by omega) hs2 (of_decide_eq_false c24) c27))
     have he : asgS st k x 32 v = st := hi5.2.2.symm.trans (chnS_call (by omega) hs2 (of_decide_eq_false c24) c27)
     refine xs_mem (fun _ h => Holds.slice 0 h VlT_ok [q, k, x]) ?_
     exact xs_fin [.agg #[.int .i64 2, .int .i64 0, .int .i64 0, .int .i64 0, .string ByteArray.empty, .int .i64 0, .int .i64 ((hdl st q ⟨#[95, 95, 110, 101, 119, 105, 110, 100, 101, 120]⟩).kind), .int .i64 ((hdl st q ⟨#[95, 95, 110, 101, 119, 105, 110, 100, 101, 120]⟩).p), .int .i64 ((hdl st q ⟨#[95, 95, 110, 101, 119, 105, 110, 100, 101, 120]⟩).q), .string ((hdl st q ⟨#[95, 95, 110, 101, 119, 105, 110, 100, 101, 120]⟩).str), .int .i64 ((hdl st q ⟨#[95, 95, 110, 101, 119, 105, 110, 100, 101, 120]⟩).ref), (.slice (some ⟨g28, 0, none⟩) 3 3), .int .i64 4, .string ByteArray.empty]] (own VlT (.slice (some ⟨g28, 0, none⟩) 3 3) [q, k, x] :: rhA b (asgS st k x 32 v) :: F) (SI.agg 8 51 3 SI.nil) (fun _ h => by rw [he]; exact h.re [0, 1] [2, 2, 2, 2, 2]) ⟨(.slice (some ⟨g28, 0, none⟩) 3 3), by rw [hc]; rfl, by rw [hc]; rfl⟩
    ·
     refine k_st ?_
     refine k_reg ?_
     refine s_lt (t_loadA 0 #[.int .i64 ((hdl st q ⟨#[95, 95, 110, 101, 119, 105, 110, 100, 101, 120]⟩).kind), .int .i64 ((hdl st q ⟨#[95, 95, 110, 101, 119, 105, 110, 100, 101, 120]⟩).p), .int .i64 ((hdl st q ⟨#[95, 95, 110, 101, 119, 105, 110, 100, 101, 120]⟩).q), .string ((hdl st q ⟨#[95, 95, 110, 101, 119, 105, 110, 100, 101, 120]⟩).str), .int .i64 ((hdl st q ⟨#[95, 95, 110, 101, 119, 105, 110, 100, 101, 120]⟩).ref)]) ?_
     refine s_store 5 #[.int .i64 ((hdl st q ⟨#[95, 95, 110, 101, 119, 105, 110, 100, 101, 120]⟩).kind), .int .i64 ((hdl st q ⟨#[95, 95, 110, 101, 119, 105, 110, 100, 101, 120]⟩).p), .int .i64 ((hdl st q ⟨#[95, 95, 110, 101, 119, 105, 110, 100, 101, 120]⟩).q), .string ((hdl st q ⟨#[95, 95, 110, 101, 119, 105, 110, 100, 101, 120]⟩).str), .int .i64 ((hdl st q ⟨#[95, 95, 110, 101, 119, 105, 110, 100, 101, 120]⟩).ref)] ?_
     refine s_nil ?_
     refine xs_block ?_
     refine xs_then ?_
     refine k_reg ?_
     refine sp (.int .i64 (i : Int)) ?_
     refine s_lt (t_add (i : Int) 1 (by (try simp only [lnm]); omega)) ?_
     refine sp (.int .i64 ((i : Int) + 1)) ?_
     refine s_nil ?_
     have hs : sta st k x q (hdl st q ⟨#[95, 95, 110, 101, 119, 105, 110, 100, 101, 120]⟩) = (zNd, false) := sta_no4 (by omega)
     have hs2 : (sta st k x q (hdl st q ⟨#[95, 95, 110, 101, 119, 105, 110, 100, 101, 120]⟩)).2 = false := by rw [hs]
     exact xs_round ((hdl st q ⟨#[95, 95, 110, 101, 119, 105, 110, 100, 101, 120]⟩), i + 1) (by show 32 - (i + 1) < 32 - i; omega) (by show i + 1 ≤ 32 ∧ _; exact ⟨by omega, (chn_step (i := i) (q := q) (by omega) hs2 (of_decide_eq_false c24) c27).trans hi5.2.1, (chnS_step (i := i) (q := q) (by omega) hs2 (of_decide_eq_false c24) c27).trans hi5.2.2⟩) (sub_of rfl ⟨⟨rfl, rfl⟩, ⟨⟨rfl, rfl⟩, ⟨⟨rfl, rfl⟩, ⟨⟨rfl, rfl⟩, ⟨⟨rfl, rfl⟩, ⟨⟨rfl, rfl⟩, trivial⟩⟩⟩⟩⟩⟩) (fun _ h => h.re [2, 2, 2, 2, 1] [5])
 ·
  have p29 := of_decide_eq_false c6
  refine k_exit ?_
  refine xs_exit ?_
  refine xs_exit ?_
  refine xs_here ?_
  refine xs_then ?_
  refine k_sr ?_
  refine s_vcall (fun _ h => fail_s ⟨#[99, 104, 97, 105, 110, 32, 111, 102, 32, 109, 101, 116, 97, 116, 97, 98, 108, 101, 115, 32, 116, 111, 111, 32, 108, 111, 110, 103]⟩) ?_
  rintro _ rfl
  refine s_store 0 #[.int .i64 3, .int .i64 0, .int .i64 0, .int .i64 0, .string ByteArray.empty, .int .i64 0, .int .i64 0, .int .i64 0, .int .i64 0, .string ByteArray.empty, .int .i64 0, (.slice none 0 0), .int .i64 0, .string ⟨#[99, 104, 97, 105, 110, 32, 111, 102, 32, 109, 101, 116, 97, 116, 97, 98, 108, 101, 115, 32, 116, 111, 111, 32, 108, 111, 110, 103]⟩] ?_
  refine s_nt ?_
  refine k_ret ?_
  have hc : asg st k x 32 v = failN ⟨#[99, 104, 97, 105, 110, 32, 111, 102, 32, 109, 101, 116, 97, 116, 97, 98, 108, 101, 115, 32, 116, 111, 111, 32, 108, 111, 110, 103]⟩ := hi5.2.1.symm.trans ((chn_end (by omega)))
  have he : asgS st k x 32 v = st := hi5.2.2.symm.trans (chnS_end (by omega))
  refine xs_mem (fun _ h => Holds.nilS (T := VlT) h) ?_
  exact xs_fin [.agg #[.int .i64 3, .int .i64 0, .int .i64 0, .int .i64 0, .string ByteArray.empty, .int .i64 0, .int .i64 0, .int .i64 0, .int .i64 0, .string ByteArray.empty, .int .i64 0, (.slice none 0 0), .int .i64 0, .string ⟨#[99, 104, 97, 105, 110, 32, 111, 102, 32, 109, 101, 116, 97, 116, 97, 98, 108, 101, 115, 32, 116, 111, 111, 32, 108, 111, 110, 103]⟩]] (own VlT (.slice none 0 0) [] :: rhA b (asgS st k x 32 v) :: F) (SI.agg 8 51 1 SI.nil) (fun _ h => by rw [he]; exact h.re [0, 4] [2, 2, 2, 2]) ⟨(.slice none 0 0), by rw [hc]; rfl, by rw [hc]; rfl⟩
end Go.Proofs.Ytplkkhpokodbmaa
