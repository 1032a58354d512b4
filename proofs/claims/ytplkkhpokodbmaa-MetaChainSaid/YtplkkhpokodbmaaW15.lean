/-
  Layer 15: what assignments need. Each law says its conditions.
-/
import Derived.Test.YtplkkhpokodbmaaW11
set_option linter.unusedSimpArgs false
set_option linter.unusedVariables false
set_option maxRecDepth 100000
set_option maxHeartbeats 2000000
namespace Go.Proofs.Ytplkkhpokodbmaa
open Go.Hp Go.J Go.S
open Go.Mem (Ty KTy blk elemAt pre suf blk_pre blk_suf aget aset strK aggDesc)
open Go.Mem (adel apos aget_aset aget_adel)
/-- The heap behind a chain. -/
def chnS (S : Vl → Vl → Nd × Bool) (H : Vl → Vl) (st : Hst) (T : Vl → Hst) : Nat → Vl → Hst
  | 0, _ => st
  | n + 1, v => if (S v (H v)).2 = true then T v else if (H v).kind = 0 then st else if fnB (H v) = true then st else chnS S H st T n (H v)
section
variable {S : Vl → Vl → Nd × Bool} {H : Vl → Vl} {st : Hst} {T : Vl → Hst} {i : Nat} {q : Vl}
theorem chnS_set (hi : i < 32) (h : (S q (H q)).2 = true) : chnS S H st T (32 - i) q = T q := by rw [show 32 - i = (32 - (i + 1)) + 1 by omega, chnS, if_pos h]
theorem chnS_none (hi : i < 32) (h : (S q (H q)).2 = false) (h2 : (H q).kind = 0) : chnS S H st T (32 - i) q = st := by rw [show 32 - i = (32 - (i + 1)) + 1 by omega, chnS, if_neg (by rw [h]; decide), if_pos h2]
theorem chnS_call (hi : i < 32) (h : (S q (H q)).2 = false) (h2 : ¬ (H q).kind = 0) (h3 : fnB (H q) = true) : chnS S H st T (32 - i) q = st := by rw [show 32 - i = (32 - (i + 1)) + 1 by omega, chnS, if_neg (by rw [h]; decide), if_neg h2, if_pos h3]
theorem chnS_step (hi : i < 32) (h : (S q (H q)).2 = false) (h2 : ¬ (H q).kind = 0) (h3 : fnB (H q) = false) : chnS S H st T (32 - (i + 1)) (H q) = chnS S H st T (32 - i) q := by rw [show 32 - i = (32 - (i + 1)) + 1 by omega, chnS, if_neg (by rw [h]; decide), if_neg h2, if_neg (by rw [h3]; decide)]
theorem chnS_end (hi : ¬ i < 32) : chnS S H st T (32 - i) q = st := by rw [show 32 - i = 0 by omega, chnS]
theorem chnS_or (n : Nat) : ∀ q, chnS S H st T n q = st ∨ ∃ v, chnS S H st T n q = T v := by
  induction n with
  | zero => exact fun q => .inl rfl
  | succ n ih =>
    intro q; rw [chnS]
    split
    · exact .inr ⟨_, rfl⟩
    split
    · exact .inl rfl
    split
    · exact .inl rfl
    · exact ih _
end
/-- The need of an assignment that had an error. -/
def storN (kd e : Int) : Nd := if e = 0 then giveN zVl else if e = 13 then failN ⟨#[105, 110, 100, 101, 120, 32, 105, 115, 32, 110, 105, 108]⟩ else if e = 14 then failN ⟨#[115, 116, 114, 105, 110, 103, 32, 116, 111, 111, 32, 108, 111, 110, 103]⟩ else failN (attB kd)
def sta (st : Hst) (k x v f : Vl) : Nd × Bool := if v.kind = 4 ∧ ¬ ((hgetV st v k).kind = 0 ∧ f.kind ≠ 0) then (storN v.kind (hsetE st v k x), true) else (zNd, false)
def sts (st : Hst) (k x v f : Vl) : Hst := if (sta st k x v f).2 = true then hset st v k x else st
theorem sta_args {st : Hst} {k x v f : Vl} : (sta st k x v f).1.args = [] := by
  unfold sta; split
  · show (storN _ _).args = []
    unfold storN; repeat' split
    all_goals rfl
  · rfl
theorem sts_no {st : Hst} {k x v f : Vl} (h : (sta st k x v f).2 = false) : sts st k x v f = st := by unfold sts; rw [if_neg (by rw [h]; decide)]
theorem sts_yes {st : Hst} {k x v f : Vl} (h : (sta st k x v f).2 = true) : sts st k x v f = hset st v k x := by unfold sts; rw [if_pos h]
abbrev asg (st : Hst) (k x : Vl) (n : Nat) (v : Vl) : Nd := chn (sta st k x) (fun v f => callN f 4 [v, k, x]) (fun v => hdl st v ⟨#[95, 95, 110, 101, 119, 105, 110, 100, 101, 120]⟩) n v
abbrev asgS (st : Hst) (k x : Vl) (n : Nat) (v : Vl) : Hst := chnS (sta st k x) (fun v => hdl st v ⟨#[95, 95, 110, 101, 119, 105, 110, 100, 101, 120]⟩) st (fun v => hset st v k x) n v
theorem asgS_good {st : Hst} {m : Nat} (hi : HInv st) (hs : HSm m st) (k x v : Vl) (n : Nat) : HInv (asgS st k x n v) ∧ HSm (m + 1) (asgS st k x n v) := by
  rcases chnS_or (S := sta st k x) (H := fun v => hdl st v ⟨#[95, 95, 110, 101, 119, 105, 110, 100, 101, 120]⟩) (st := st) (T := fun v => hset st v k x) n v with h | ⟨u, h⟩
  · rw [asgS, h]; exact ⟨hi, hs.mono (by omega)⟩
  · rw [asgS, h]; exact ⟨hset_inv hi _ _ _, hset_sm hi hs _ _ _⟩
theorem stored_s {Z : Zone} (v : Vl) (e : Int) : SF Try.prog 65 #[v.v, .int .i64 e] Z [] fun r Bs => r = (storN v.kind e).w (.slice none 0 0) ∧ Bs = [] := by
 refine sf_enter Try.func65 19 [(0, .agg #[.int .i64 v.kind, .int .i64 v.p, .int .i64 v.q, .string v.str, .int .i64 v.ref]), (1, .int .i64 e)] (fun w0 => ?_)
 refine k_sr ?_
 refine s_box #[.int .i64 v.kind, .int .i64 v.p, .int .i64 v.q, .string v.str, .int .i64 v.ref] (fun g1 => ?_)
 refine s_alloc (.agg #[.int .i64 0, .int .i64 0, .int .i64 0, .int .i64 0, .string ByteArray.empty, .int .i64 0, .int .i64 0, .int .i64 0, .int .i64 0, .string ByteArray.empty, .int .i64 0, (.slice none 0 0), .int .i64 0, .string ByteArray.empty]) #[.int .i64 0, .int .i64 0, .int .i64 0, .int .i64 0, .string ByteArray.empty, .int .i64 0, .int .i64 0, .int .i64 0, .int .i64 0, .string ByteArray.empty, .int .i64 0, (.slice none 0 0), .int .i64 0, .string ByteArray.empty] (fun g2 => ?_)
 refine s_nt ?_
 refine k_seq ?_
 refine k_sr ?_
 refine sp (.int .i64 e) ?_
 refine s_nt ?_
 refine k_block ?_
 refine k_sr ?_
 refine s_lt t_cmp ?_
 refine sp (.bool (decide (e = 0))) ?_
 refine s_nt ?_
 refine k_cond (decide (e = 0)) (fun c3 => ?_) (fun c3 => ?_)
 ·
  have p4 := of_decide_eq_true c3
  refine k_sr ?_
  refine s_lt (t_kern (.agg #[.int .i64 0, .int .i64 0, .int .i64 0, .string ByteArray.empty, .int .i64 0])) ?_
  refine s_vcall (fun _ h => given_s zVl) ?_
  rintro _ rfl
  refine s_store 0 #[.int .i64 1, .int .i64 0, .int .i64 0, .int .i64 0, .string ByteArray.empty, .int .i64 0, .int .i64 0, .int .i64 0, .int .i64 0, .string ByteArray.empty, .int .i64 0, (.slice none 0 0), .int .i64 0, .string ByteArray.empty] ?_
  refine s_nt ?_
  refine k_ret ?_
  refine xs_retBlock ?_
  refine xs_ret ?_
  have hs : storN v.kind e = giveN zVl := by rw [storN, if_pos (of_decide_eq_true c3)]
  exact xs_fin [.agg #[.int .i64 1, .int .i64 0, .int .i64 0, .int .i64 0, .string ByteArray.empty, .int .i64 0, .int .i64 0, .int .i64 0, .int .i64 0, .string ByteArray.empty, .int .i64 0, (.slice none 0 0), .int .i64 0, .string ByteArray.empty]] [] (SI.agg 4 51 0 SI.nil) (fun _ h => h.re [] [0, 0]) ⟨by rw [hs]; rfl, rfl⟩
 ·
  have p5 := of_decide_eq_false c3
  refine k_sr ?_
  refine s_lt t_cmp ?_
  refine sp (.bool (decide (e = 13))) ?_
  refine s_nt ?_
  refine k_cond (decide (e = 13)) (fun c6 => ?_) (fun c6 => ?_)
  ·
   have p7 := of_decide_eq_true c6
   refine k_sr ?_
   refine s_vcall (fun _ h => failed_s ⟨#[105, 110, 100, 101, 120, 32, 105, 115, 32, 110, 105, 108]⟩) ?_
   rintro _ rfl
   refine s_store 0 #[.int .i64 3, .int .i64 0, .int .i64 0, .int .i64 0, .string ByteArray.empty, .int .i64 0, .int .i64 0, .int .i64 0, .int .i64 0, .string ByteArray.empty, .int .i64 0, (.slice none 0 0), .int .i64 0, .string ⟨#[105, 110, 100, 101, 120, 32, 105, 115, 32, 110, 105, 108]⟩] ?_
   refine s_nt ?_
   refine k_ret ?_
   refine xs_retBlock ?_
   refine xs_ret ?_
   have hs : storN v.kind e = failN ⟨#[105, 110, 100, 101, 120, 32, 105, 115, 32, 110, 105, 108]⟩ := by rw [storN, if_neg (of_decide_eq_false c3), if_pos (of_decide_eq_true c6)]
   exact xs_fin [.agg #[.int .i64 3, .int .i64 0, .int .i64 0, .int .i64 0, .string ByteArray.empty, .int .i64 0, .int .i64 0, .int .i64 0, .int .i64 0, .string ByteArray.empty, .int .i64 0, (.slice none 0 0), .int .i64 0, .string ⟨#[105, 110, 100, 101, 120, 32, 105, 115, 32, 110, 105, 108]⟩]] [] (SI.agg 4 51 0 SI.nil) (fun _ h => h.re [] [0, 0]) ⟨by rw [hs]; rfl, rfl⟩
  ·
   have p8 := of_decide_eq_false c6
   refine k_sr ?_
   refine s_lt t_cmp ?_
   refine sp (.bool (decide (e = 14))) ?_
   refine s_nt ?_
   refine k_cond (decide (e = 14)) (fun c9 => ?_) (fun c9 => ?_)
   ·
    have p10 := of_decide_eq_true c9
    refine k_sr ?_
    refine s_vcall (fun _ h => failed_s ⟨#[115, 116, 114, 105, 110, 103, 32, 116, 111, 111, 32, 108, 111, 110, 103]⟩) ?_
    rintro _ rfl
    refine s_store 0 #[.int .i64 3, .int .i64 0, .int .i64 0, .int .i64 0, .string ByteArray.empty, .int .i64 0, .int .i64 0, .int .i64 0, .int .i64 0, .string ByteArray.empty, .int .i64 0, (.slice none 0 0), .int .i64 0, .string ⟨#[115, 116, 114, 105, 110, 103, 32, 116, 111, 111, 32, 108, 111, 110, 103]⟩] ?_
    refine s_nt ?_
    refine k_ret ?_
    refine xs_retBlock ?_
    refine xs_ret ?_
    have hs : storN v.kind e = failN ⟨#[115, 116, 114, 105, 110, 103, 32, 116, 111, 111, 32, 108, 111, 110, 103]⟩ := by rw [storN, if_neg (of_decide_eq_false c3), if_neg (of_decide_eq_false c6), if_pos (of_decide_eq_true c9)]
    exact xs_fin [.agg #[.int .i64 3, .int .i64 0, .int .i64 0, .int .i64 0, .string ByteArray.empty, .int .i64 0, .int .i64 0, .int .i64 0, .int .i64 0, .string ByteArray.empty, .int .i64 0, (.slice none 0 0), .int .i64 0, .string ⟨#[115, 116, 114, 105, 110, 103, 32, 116, 111, 111, 32, 108, 111, 110, 103]⟩]] [] (SI.agg 4 51 0 SI.nil) (fun _ h => h.re [] [0, 0]) ⟨by rw [hs]; rfl, rfl⟩
   ·
    have p11 := of_decide_eq_false c9
    refine k_skip ?_
    refine xs_block ?_
    refine xs_then ?_
    refine k_sr ?_
    refine s_lt (t_loadA 1 #[.int .i64 v.kind, .int .i64 v.p, .int .i64 v.q, .string v.str, .int .i64 v.ref]) ?_
    refine s_vcall (fun _ h => attempt_s v) ?_
    rintro _ rfl
    refine s_vcall (fun _ h => failed_s (attB v.kind)) ?_
    rintro _ rfl
    refine s_store 0 #[.int .i64 3, .int .i64 0, .int .i64 0, .int .i64 0, .string ByteArray.empty, .int .i64 0, .int .i64 0, .int .i64 0, .int .i64 0, .string ByteArray.empty, .int .i64 0, (.slice none 0 0), .int .i64 0, .string (attB v.kind)] ?_
    refine s_nt ?_
    refine k_ret ?_
    have hs : storN v.kind e = failN (attB v.kind) := by rw [storN, if_neg (of_decide_eq_false c3), if_neg (of_decide_eq_false c6), if_neg (of_decide_eq_false c9)]
    exact xs_fin [.agg #[.int .i64 3, .int .i64 0, .int .i64 0, .int .i64 0, .string ByteArray.empty, .int .i64 0, .int .i64 0, .int .i64 0, .int .i64 0, .string ByteArray.empty, .int .i64 0, (.slice none 0 0), .int .i64 0, .string (attB v.kind)]] [] (SI.agg 4 51 0 SI.nil) (fun _ h => h.re [] [0, 0]) ⟨by rw [hs]; rfl, rfl⟩
theorem sta_s {Z : Zone} {F : List Asr} {b : Nat} {st : Hst} {gf gk gs gx : Nat} {k x : Vl} {n : Nat} (hsm : HSm n st) (hn : n ≤ 300) (v f : Vl) : SF Try.prog 64 #[v.v, f.v, .pointer (some ⟨gf, 0, none⟩), .pointer (some ⟨gk, 0, none⟩), .pointer (some ⟨gs, 0, none⟩), .pointer (some ⟨gx, 0, none⟩)] Z (blkA gf #[.func (.func 24) #[.pointer (some ⟨b, 0, none⟩)] #[]] 58 :: blkA gk #[.int .i64 k.kind, .int .i64 k.p, .int .i64 k.q, .string k.str, .int .i64 k.ref] 26 :: blkA gs #[.func (.func 29) #[.pointer (some ⟨b, 0, none⟩)] #[]] 63 :: blkA gx #[.int .i64 x.kind, .int .i64 x.p, .int .i64 x.q, .string x.str, .int .i64 x.ref] 26 :: hpA b st :: F) fun r Bs => r = .tuple #[(sta st k x v f).1.w (.slice none 0 0), .bool (sta st k x v f).2] ∧ Bs = blkA gf #[.func (.func 24) #[.pointer (some ⟨b, 0, none⟩)] #[]] 58 :: blkA gk #[.int .i64 k.kind, .int .i64 k.p, .int .i64 k.q, .string k.str, .int .i64 k.ref] 26 :: blkA gs #[.func (.func 29) #[.pointer (some ⟨b, 0, none⟩)] #[]] 63 :: blkA gx #[.int .i64 x.kind, .int .i64 x.p, .int .i64 x.q, .string x.str, .int .i64 x.ref] 26 :: hpA b (sts st k x v f) :: F := by
 refine sf_enter Try.func64 39 [(0, .agg #[.int .i64 v.kind, .int .i64 v.p, .int .i64 v.q, .string v.str, .int .i64 v.ref]), (1, .agg #[.int .i64 f.kind, .int .i64 f.p, .int .i64 f.q, .string f.str, .int .i64 f.ref]), (2, pB gf 0), (3, pB gk 0), (4, pB gs 0), (5, pB gx 0)] (fun w0 => ?_)
 have hlen0 := hsm.len
 refine k_sr ?_
 refine s_box #[.int .i64 v.kind, .int .i64 v.p, .int .i64 v.q, .string v.str, .int .i64 v.ref] (fun g1 => ?_)
 refine s_box #[.int .i64 f.kind, .int .i64 f.p, .int .i64 f.q, .string f.str, .int .i64 f.ref] (fun g2 => ?_)
 refine s_alloc (.agg #[.int .i64 0, .int .i64 0, .int .i64 0, .int .i64 0, .string ByteArray.empty, .int .i64 0, .int .i64 0, .int .i64 0, .int .i64 0, .string ByteArray.empty, .int .i64 0, (.slice none 0 0), .int .i64 0, .string ByteArray.empty]) #[.int .i64 0, .int .i64 0, .int .i64 0, .int .i64 0, .string ByteArray.empty, .int .i64 0, .int .i64 0, .int .i64 0, .int .i64 0, .string ByteArray.empty, .int .i64 0, (.slice none 0 0), .int .i64 0, .string ByteArray.empty] (fun g3 => ?_)
 refine sp (.bool false) ?_
 refine s_nt ?_
 refine k_seq ?_
 refine k_sr ?_
 refine sp (pB g1 0) ?_
 refine s_lt (t_load 2 (.int .i64 v.kind)) ?_
 refine s_lt t_cmp ?_
 refine s_nt ?_
 refine k_cond (decide (v.kind ≠ 4)) (fun c4 => ?_) (fun c4 => ?_)
 ·
  have p5 := of_decide_eq_true c4
  refine k_sr ?_
  refine s_lt (t_kern (.agg #[.int .i64 0, .int .i64 0, .int .i64 0, .int .i64 0, .string ByteArray.empty, .int .i64 0, .int .i64 0, .int .i64 0, .int .i64 0, .string ByteArray.empty, .int .i64 0, (.slice none 0 0), .int .i64 0, .string ByteArray.empty])) ?_
  refine s_store 0 #[.int .i64 0, .int .i64 0, .int .i64 0, .int .i64 0, .string ByteArray.empty, .int .i64 0, .int .i64 0, .int .i64 0, .int .i64 0, .string ByteArray.empty, .int .i64 0, (.slice none 0 0), .int .i64 0, .string ByteArray.empty] ?_
  refine sp (.bool false) ?_
  refine s_nt ?_
  refine k_ret ?_
  refine xs_ret ?_
  have hs : sta st k x v f = (zNd, false) := by rw [sta, if_neg]; intro h; omega
  have ht : sts st k x v f = st := sts_no (by rw [hs])
  exact xs_fin [.agg #[.int .i64 0, .int .i64 0, .int .i64 0, .int .i64 0, .string ByteArray.empty, .int .i64 0, .int .i64 0, .int .i64 0, .int .i64 0, .string ByteArray.empty, .int .i64 0, (.slice none 0 0), .int .i64 0, .string ByteArray.empty], .bool false] (blkA gf #[.func (.func 24) #[.pointer (some ⟨b, 0, none⟩)] #[]] 58 :: blkA gk #[.int .i64 k.kind, .int .i64 k.p, .int .i64 k.q, .string k.str, .int .i64 k.ref] 26 :: blkA gs #[.func (.func 29) #[.pointer (some ⟨b, 0, none⟩)] #[]] 63 :: blkA gx #[.int .i64 x.kind, .int .i64 x.p, .int .i64 x.q, .string x.str, .int .i64 x.ref] 26 :: hpA b (sts st k x v f) :: F) (SI.agg 8 51 0 (SI.tmp 9 SI.nil)) (fun _ h => by rw [ht]; exact h.re [3, 3, 3, 3, 3] [5, 5, 5]) ⟨by rw [hs]; rfl, rfl⟩
 ·
  have p6 := Decidable.not_not.1 (of_decide_eq_false c4)
  refine k_st ?_
  refine k_seq ?_
  refine k_sr ?_
  refine s_lt (t_load 3 (.func (.func 24) #[pB b 0] #[])) ?_
  refine s_lt (t_loadA 2 #[.int .i64 v.kind, .int .i64 v.p, .int .i64 v.q, .string v.str, .int .i64 v.ref]) ?_
  refine s_lt (t_loadA 4 #[.int .i64 k.kind, .int .i64 k.p, .int .i64 k.q, .string k.str, .int .i64 k.ref]) ?_
  refine s_callL [7] (hget_s (st := st) hsm (by omega) v k) ?_
  rintro _ _ ⟨rfl, rfl⟩
  refine sp (.tuple #[.agg #[.int .i64 ((hgetV st v k).kind), .int .i64 ((hgetV st v k).p), .int .i64 ((hgetV st v k).q), .string ((hgetV st v k).str), .int .i64 ((hgetV st v k).ref)], .int .i64 (hgetE st v)]) ?_
  refine sp (.agg #[.int .i64 ((hgetV st v k).kind), .int .i64 ((hgetV st v k).p), .int .i64 ((hgetV st v k).q), .string ((hgetV st v k).str), .int .i64 ((hgetV st v k).ref)]) ?_
  refine sp (.int .i64 (hgetE st v)) ?_
  refine s_alloc (.agg #[.int .i64 0, .int .i64 0, .int .i64 0, .string ByteArray.empty, .int .i64 0]) #[.int .i64 0, .int .i64 0, .int .i64 0, .string ByteArray.empty, .int .i64 0] (fun g7 => ?_)
  refine s_store 0 #[.int .i64 ((hgetV st v k).kind), .int .i64 ((hgetV st v k).p), .int .i64 ((hgetV st v k).q), .string ((hgetV st v k).str), .int .i64 ((hgetV st v k).ref)] ?_
  refine sp (.int .i64 (hgetE st v)) ?_
  refine s_nt ?_
  refine k_cut (ι := Unit) (fun _ => True) (fun _ => [(3, pB gk 0), (4, pB gs 0), (5, pB gx 0), (6, pB g1 0), (8, pB g3 0), (30, .bool ((decide ((hgetV st v k).kind = 0)) && (decide (f.kind ≠ 0))))]) (fun _ => blkA g7 #[.int .i64 ((hgetV st v k).kind), .int .i64 ((hgetV st v k).p), .int .i64 ((hgetV st v k).q), .string ((hgetV st v k).str), .int .i64 ((hgetV st v k).ref)] 26 :: hpA b st :: blkA g3 #[.int .i64 0, .int .i64 0, .int .i64 0, .int .i64 0, .string ByteArray.empty, .int .i64 0, .int .i64 0, .int .i64 0, .int .i64 0, .string ByteArray.empty, .int .i64 0, (.slice none 0 0), .int .i64 0, .string ByteArray.empty] 51 :: blkA g2 #[.int .i64 f.kind, .int .i64 f.p, .int .i64 f.q, .string f.str, .int .i64 f.ref] 26 :: blkA g1 #[.int .i64 v.kind, .int .i64 v.p, .int .i64 v.q, .string v.str, .int .i64 v.ref] 26 :: blkA gf #[.func (.func 24) #[pB b 0] #[]] 58 :: blkA gk #[.int .i64 k.kind, .int .i64 k.p, .int .i64 k.q, .string k.str, .int .i64 k.ref] 26 :: blkA gs #[.func (.func 29) #[pB b 0] #[]] 63 :: blkA gx #[.int .i64 x.kind, .int .i64 x.p, .int .i64 x.q, .string x.str, .int .i64 x.ref] 26 :: F) ?_ (fun _ _ => ?_)
  ·
   refine k_reg ?_
   refine sp (pB g7 0) ?_
   refine s_lt (t_load 0 (.int .i64 ((hgetV st v k).kind))) ?_
   refine s_lt t_cmp ?_
   refine sp (.bool (decide ((hgetV st v k).kind = 0))) ?_
   refine s_fork 26 (decide ((hgetV st v k).kind = 0)) (fun c8 => ?_) (fun c8 => ?_)
   ·
    have p9 := of_decide_eq_true c8
    refine sp (pB g2 0) ?_
    refine s_lt (t_load 3 (.int .i64 f.kind)) ?_
    refine s_lt t_cmp ?_
    refine sp (.bool (decide (f.kind ≠ 0))) ?_
    refine s_nil ?_
    exact xs_cut () trivial (sub_of rfl ⟨⟨rfl, rfl⟩, ⟨⟨rfl, rfl⟩, ⟨⟨rfl, rfl⟩, ⟨⟨rfl, rfl⟩, ⟨⟨rfl, rfl⟩, ⟨⟨rfl, show Value.bool (decide (f.kind ≠ 0)) = Value.bool ((decide ((hgetV st v k).kind = 0)) && (decide (f.kind ≠ 0))) by first | (simp only [c8, bls]; done) | simp [c8]⟩, trivial⟩⟩⟩⟩⟩⟩) (fun _ h => h.re [0, 0, 0, 0, 0, 0, 0, 0, 0] [])
   ·
    have p10 := of_decide_eq_false c8
    refine s_skip ?_
    refine s_skip ?_
    refine s_skip ?_
    refine sp (.bool false) ?_
    refine s_nil ?_
    exact xs_cut () trivial (sub_of rfl ⟨⟨rfl, rfl⟩, ⟨⟨rfl, rfl⟩, ⟨⟨rfl, rfl⟩, ⟨⟨rfl, rfl⟩, ⟨⟨rfl, rfl⟩, ⟨⟨rfl, show Value.bool false = Value.bool ((decide ((hgetV st v k).kind = 0)) && (decide (f.kind ≠ 0))) by first | (simp only [c8, bls]; done) | simp [c8]⟩, trivial⟩⟩⟩⟩⟩⟩) (fun _ h => h.re [0, 0, 0, 0, 0, 0, 0, 0, 0] [])
  ·
   refine k_cond ((decide ((hgetV st v k).kind = 0)) && (decide (f.kind ≠ 0))) (fun c11 => ?_) (fun c11 => ?_)
   ·
    obtain ⟨c12, c13⟩ := and_t c11
    have p14 := of_decide_eq_true c12
    have p15 := of_decide_eq_true c13
    refine k_sr ?_
    refine s_lt (t_kern (.agg #[.int .i64 0, .int .i64 0, .int .i64 0, .int .i64 0, .string ByteArray.empty, .int .i64 0, .int .i64 0, .int .i64 0, .int .i64 0, .string ByteArray.empty, .int .i64 0, (.slice none 0 0), .int .i64 0, .string ByteArray.empty])) ?_
    refine s_store 2 #[.int .i64 0, .int .i64 0, .int .i64 0, .int .i64 0, .string ByteArray.empty, .int .i64 0, .int .i64 0, .int .i64 0, .int .i64 0, .string ByteArray.empty, .int .i64 0, (.slice none 0 0), .int .i64 0, .string ByteArray.empty] ?_
    refine sp (.bool false) ?_
    refine s_nt ?_
    refine k_ret ?_
    refine xs_ret ?_
    have hs : sta st k x v f = (zNd, false) := by rw [sta, if_neg]; simp_all
    have ht : sts st k x v f = st := sts_no (by rw [hs])
    exact xs_fin [.agg #[.int .i64 0, .int .i64 0, .int .i64 0, .int .i64 0, .string ByteArray.empty, .int .i64 0, .int .i64 0, .int .i64 0, .int .i64 0, .string ByteArray.empty, .int .i64 0, (.slice none 0 0), .int .i64 0, .string ByteArray.empty], .bool false] (blkA gf #[.func (.func 24) #[.pointer (some ⟨b, 0, none⟩)] #[]] 58 :: blkA gk #[.int .i64 k.kind, .int .i64 k.p, .int .i64 k.q, .string k.str, .int .i64 k.ref] 26 :: blkA gs #[.func (.func 29) #[.pointer (some ⟨b, 0, none⟩)] #[]] 63 :: blkA gx #[.int .i64 x.kind, .int .i64 x.p, .int .i64 x.q, .string x.str, .int .i64 x.ref] 26 :: hpA b (sts st k x v f) :: F) (SI.agg 8 51 2 (SI.tmp 9 SI.nil)) (fun _ h => by rw [ht]; exact h.re [5, 5, 5, 5, 1] [5, 5, 5, 5]) ⟨by rw [hs]; rfl, rfl⟩
   ·
    have p16 := c11
    simp only [Bool.and_eq_true, Bool.or_eq_true, Bool.and_eq_false_iff, Bool.or_eq_false_iff, Bool.not_eq_true', Bool.not_eq_false', decide_eq_true_eq, decide_eq_false_iff_not] at p16
    refine k_st ?_
    refine k_seq ?_
    refine k_held [blkA g7 #[.int .i64 ((hgetV st v k).kind), .int .i64 ((hgetV st v k).p), .int .i64 ((hgetV st v k).q), .string ((hgetV st v k).str), .int .i64 ((hgetV st v k).ref)] 26, blkA g2 #[.int .i64 f.kind, .int .i64 f.p, .int .i64 f.q, .string f.str, .int .i64 f.ref] 26, blkA g1 #[.int .i64 v.kind, .int .i64 v.p, .int .i64 v.q, .string v.str, .int .i64 v.ref] 26, blkA gf #[.func (.func 24) #[pB b 0] #[]] 58, blkA gk #[.int .i64 k.kind, .int .i64 k.p, .int .i64 k.q, .string k.str, .int .i64 k.ref] 26, blkA gs #[.func (.func 29) #[pB b 0] #[]] 63, blkA gx #[.int .i64 x.kind, .int .i64 x.p, .int .i64 x.q, .string x.str, .int .i64 x.ref] 26] ?_
    refine h_l 0 rfl [0, 2, 2, 2, 2, 2, 2] (fun _ => (t_loadA 2 #[.int .i64 v.kind, .int .i64 v.p, .int .i64 v.q, .string v.str, .int .i64 v.ref])) ?_
    refine h_l 1 rfl [0, 2, 2, 2, 2, 2, 2] (fun _ => (t_load 5 (.func (.func 29) #[pB b 0] #[]))) ?_
    refine h_l 2 rfl [0, 2, 2, 2, 2, 2, 2] (fun _ => (t_loadA 2 #[.int .i64 v.kind, .int .i64 v.p, .int .i64 v.q, .string v.str, .int .i64 v.ref])) ?_
    refine h_l 3 rfl [0, 2, 2, 2, 2, 2, 2] (fun _ => (t_loadA 4 #[.int .i64 k.kind, .int .i64 k.p, .int .i64 k.q, .string k.str, .int .i64 k.ref])) ?_
    refine h_l 4 rfl [0, 2, 2, 2, 2, 2, 2] (fun _ => (t_loadA 6 #[.int .i64 x.kind, .int .i64 x.p, .int .i64 x.q, .string x.str, .int .i64 x.ref])) ?_
    refine h_stepS 5 ?_
    refine s_callL [1] (hset_s (st := st) hsm (by omega) v k x) ?_
    rintro _ _ ⟨rfl, rfl⟩
    refine s_nil (xs_held [1, 2, 2, 2, 2, 2, 2] ?_)
    refine h_stepS 6 ?_
    refine s_vcall (fun _ h => stored_s v (hsetE st v k x)) ?_
    rintro _ rfl
    refine s_nil (xs_held [1, 2, 2, 2, 2, 2, 2] ?_)
    refine h_stepS 7 ?_
    refine s_store 2 #[.int .i64 ((storN v.kind (hsetE st v k x)).kind), .int .i64 (((storN v.kind (hsetE st v k x)).val).kind), .int .i64 (((storN v.kind (hsetE st v k x)).val).p), .int .i64 (((storN v.kind (hsetE st v k x)).val).q), .string (((storN v.kind (hsetE st v k x)).val).str), .int .i64 (((storN v.kind (hsetE st v k x)).val).ref), .int .i64 (((storN v.kind (hsetE st v k x)).fn).kind), .int .i64 (((storN v.kind (hsetE st v k x)).fn).p), .int .i64 (((storN v.kind (hsetE st v k x)).fn).q), .string (((storN v.kind (hsetE st v k x)).fn).str), .int .i64 (((storN v.kind (hsetE st v k x)).fn).ref), (.slice none 0 0), .int .i64 ((storN v.kind (hsetE st v k x)).after), .string ((storN v.kind (hsetE st v k x)).str)] ?_
    refine s_nil (xs_held [1, 2, 2, 2, 2, 2, 2] ?_)
    refine hp_ 8 [1, 2, 2, 2, 2, 2, 2] (.bool true) ?_
    refine h_doneS ?_
    refine xs_then ?_
    refine k_ret ?_
    have hs : sta st k x v f = (storN v.kind (hsetE st v k x), true) := by rw [sta, if_pos]; refine ⟨by omega, ?_⟩; simp_all
    have ht : sts st k x v f = hset st v k x := sts_yes (by rw [hs])
    exact xs_fin [.agg #[.int .i64 ((storN v.kind (hsetE st v k x)).kind), .int .i64 (((storN v.kind (hsetE st v k x)).val).kind), .int .i64 (((storN v.kind (hsetE st v k x)).val).p), .int .i64 (((storN v.kind (hsetE st v k x)).val).q), .string (((storN v.kind (hsetE st v k x)).val).str), .int .i64 (((storN v.kind (hsetE st v k x)).val).ref), .int .i64 (((storN v.kind (hsetE st v k x)).fn).kind), .int .i64 (((storN v.kind (hsetE st v k x)).fn).p), .int .i64 (((storN v.kind (hsetE st v k x)).fn).q), .string (((storN v.kind (hsetE st v k x)).fn).str), .int .i64 (((storN v.kind (hsetE st v k x)).fn).ref), (.slice none 0 0), .int .i64 ((storN v.kind (hsetE st v k x)).after), .string ((storN v.kind (hsetE st v k x)).str)], .bool true] (blkA gf #[.func (.func 24) #[.pointer (some ⟨b, 0, none⟩)] #[]] 58 :: blkA gk #[.int .i64 k.kind, .int .i64 k.p, .int .i64 k.q, .string k.str, .int .i64 k.ref] 26 :: blkA gs #[.func (.func 29) #[.pointer (some ⟨b, 0, none⟩)] #[]] 63 :: blkA gx #[.int .i64 x.kind, .int .i64 x.p, .int .i64 x.q, .string x.str, .int .i64 x.ref] 26 :: hpA b (sts st k x v f) :: F) (SI.agg 8 51 2 (SI.tmp 9 SI.nil)) (fun _ h => by rw [ht]; exact h.re [5, 5, 5, 5, 0] [5, 5, 5, 5]) ⟨by rw [hs]; rfl, rfl⟩
theorem acall_s {Z : Zone} {F : List Asr} {gk gx : Nat} {k x : Vl} (v f : Vl) : SF Try.prog 66 #[v.v, f.v, .pointer (some ⟨gk, 0, none⟩), .pointer (some ⟨gx, 0, none⟩)] Z (blkA gk #[.int .i64 k.kind, .int .i64 k.p, .int .i64 k.q, .string k.str, .int .i64 k.ref] 26 :: blkA gx #[.int .i64 x.kind, .int .i64 x.p, .int .i64 x.q, .string x.str, .int .i64 x.ref] 26 :: F) fun r Bs => ∃ av, r = (callN f 4 [v, k, x]).w av ∧ Bs = own VlT av [v, k, x] :: blkA gk #[.int .i64 k.kind, .int .i64 k.p, .int .i64 k.q, .string k.str, .int .i64 k.ref] 26 :: blkA gx #[.int .i64 x.kind, .int .i64 x.p, .int .i64 x.q, .string x.str, .int .i64 x.ref] 26 :: F := by
 refine sf_enter Try.func66 13 [(0, .agg #[.int .i64 v.kind, .int .i64 v.p, .int .i64 v.q, .string v.str, .int .i64 v.ref]), (1, .agg #[.int .i64 f.kind, .int .i64 f.p, .int .i64 f.q, .string f.str, .int .i64 f.ref]), (2, pB gk 0), (3, pB gx 0)] (fun w0 => ?_)
 refine k_sr ?_
 refine s_box #[.int .i64 v.kind, .int .i64 v.p, .int .i64 v.q, .string v.str, .int .i64 v.ref] (fun g1 => ?_)
 refine s_box #[.int .i64 f.kind, .int .i64 f.p, .int .i64 f.q, .string f.str, .int .i64 f.ref] (fun g2 => ?_)
 refine s_alloc (.agg #[.int .i64 0, .int .i64 0, .int .i64 0, .int .i64 0, .string ByteArray.empty, .int .i64 0, .int .i64 0, .int .i64 0, .int .i64 0, .string ByteArray.empty, .int .i64 0, (.slice none 0 0), .int .i64 0, .string ByteArray.empty]) #[.int .i64 0, .int .i64 0, .int .i64 0, .int .i64 0, .string ByteArray.empty, .int .i64 0, .int .i64 0, .int .i64 0, .int .i64 0, .string ByteArray.empty, .int .i64 0, (.slice none 0 0), .int .i64 0, .string ByteArray.empty] (fun g3 => ?_)
 refine s_nr ?_
 refine s_lt (t_loadA 1 #[.int .i64 f.kind, .int .i64 f.p, .int .i64 f.q, .string f.str, .int .i64 f.ref]) ?_
 refine s_lt (t_loadA 2 #[.int .i64 v.kind, .int .i64 v.p, .int .i64 v.q, .string v.str, .int .i64 v.ref]) ?_
 refine s_lt (t_loadA 3 #[.int .i64 k.kind, .int .i64 k.p, .int .i64 k.q, .string k.str, .int .i64 k.ref]) ?_
 refine s_lt (t_loadA 4 #[.int .i64 x.kind, .int .i64 x.p, .int .i64 x.q, .string x.str, .int .i64 x.ref]) ?_
 refine s_buildSlice (e := 26) [(0, .agg #[.int .i64 v.kind, .int .i64 v.p, .int .i64 v.q, .string v.str, .int .i64 v.ref]), (1, .agg #[.int .i64 k.kind, .int .i64 k.p, .int .i64 k.q, .string k.str, .int .i64 k.ref]), (2, .agg #[.int .i64 x.kind, .int .i64 x.p, .int .i64 x.q, .string x.str, .int .i64 x.ref])] #[.int .i64 v.kind, .int .i64 v.p, .int .i64 v.q, .string v.str, .int .i64 v.ref, .int .i64 k.kind, .int .i64 k.p, .int .i64 k.q, .string k.str, .int .i64 k.ref, .int .i64 x.kind, .int .i64 x.p, .int .i64 x.q, .string x.str, .int .i64 x.ref] (fun g4 => ?_) (hb := by kernel_rfl)
 refine s_vcall (fun _ h => called_s f 4 (some ⟨g4, 0, none⟩) 3 3 []) ?_
 rintro _ rfl
 refine s_store 1 #[.int .i64 2, .int .i64 0, .int .i64 0, .int .i64 0, .string ByteArray.empty, .int .i64 0, .int .i64 f.kind, .int .i64 f.p, .int .i64 f.q, .string f.str, .int .i64 f.ref, (.slice (some ⟨g4, 0, none⟩) 3 3), .int .i64 4, .string ByteArray.empty] ?_
 refine s_nt ?_
 refine k_ret ?_
 refine xs_mem (fun _ h => Holds.slice 0 h VlT_ok [v, k, x]) ?_
 exact xs_fin [.agg #[.int .i64 2, .int .i64 0, .int .i64 0, .int .i64 0, .string ByteArray.empty, .int .i64 0, .int .i64 f.kind, .int .i64 f.p, .int .i64 f.q, .string f.str, .int .i64 f.ref, (.slice (some ⟨g4, 0, none⟩) 3 3), .int .i64 4, .string ByteArray.empty]] (own VlT (.slice (some ⟨g4, 0, none⟩) 3 3) [v, k, x] :: blkA gk #[.int .i64 k.kind, .int .i64 k.p, .int .i64 k.q, .string k.str, .int .i64 k.ref] 26 :: blkA gx #[.int .i64 x.kind, .int .i64 x.p, .int .i64 x.q, .string x.str, .int .i64 x.ref] 26 :: F) (SI.agg 6 51 1 SI.nil) (fun _ h => h.re [0, 3, 3] [3, 3, 3]) ⟨_, rfl, rfl⟩
theorem chainA_s {Z : Zone} {F : List Asr} {b : Nat} {st : Hst} {gf gk gs gx : Nat} {k x : Vl} {n : Nat} (hsm : HSm n st) (hn : n ≤ 300) (v : Vl) : SF Try.prog 56 #[.pointer (some ⟨b, 0, none⟩), v.v, .string ⟨#[95, 95, 110, 101, 119, 105, 110, 100, 101, 120]⟩, .func (.func 64) #[] #[.pointer (some ⟨gf, 0, none⟩), .pointer (some ⟨gk, 0, none⟩), .pointer (some ⟨gs, 0, none⟩), .pointer (some ⟨gx, 0, none⟩)], .func (.func 66) #[] #[.pointer (some ⟨gk, 0, none⟩), .pointer (some ⟨gx, 0, none⟩)]] Z (blkA gf #[.func (.func 24) #[.pointer (some ⟨b, 0, none⟩)] #[]] 58 :: blkA gk #[.int .i64 k.kind, .int .i64 k.p, .int .i64 k.q, .string k.str, .int .i64 k.ref] 26 :: blkA gs #[.func (.func 29) #[.pointer (some ⟨b, 0, none⟩)] #[]] 63 :: blkA gx #[.int .i64 x.kind, .int .i64 x.p, .int .i64 x.q, .string x.str, .int .i64 x.ref] 26 :: hpA b st :: F) fun r Bs => ∃ av, r = (asg st k x 32 v).w av ∧ Bs = own VlT av (asg st k x 32 v).args :: blkA gf #[.func (.func 24) #[.pointer (some ⟨b, 0, none⟩)] #[]] 58 :: blkA gk #[.int .i64 k.kind, .int .i64 k.p, .int .i64 k.q, .string k.str, .int .i64 k.ref] 26 :: blkA gs #[.func (.func 29) #[.pointer (some ⟨b, 0, none⟩)] #[]] 63 :: blkA gx #[.int .i64 x.kind, .int .i64 x.p, .int .i64 x.q, .string x.str, .int .i64 x.ref] 26 :: hpA b (asgS st k x 32 v) :: F := by
 refine sf_enter Try.func56 46 [(0, pB b 0), (1, .agg #[.int .i64 v.kind, .int .i64 v.p, .int .i64 v.q, .string v.str, .int .i64 v.ref]), (2, .string ⟨#[95, 95, 110, 101, 119, 105, 110, 100, 101, 120]⟩), (3, .func (.func 64) #[] #[pB gf 0, pB gk 0, pB gs 0, pB gx 0]), (4, .func (.func 66) #[] #[pB gk 0, pB gx 0])] (fun w0 => ?_)
 have hlen0 := hsm.len
 refine k_sr ?_
 refine s_box #[.int .i64 v.kind, .int .i64 v.p, .int .i64 v.q, .string v.str, .int .i64 v.ref] (fun g1 => ?_)
 refine s_alloc (.agg #[.int .i64 0, .int .i64 0, .int .i64 0, .int .i64 0, .string ByteArray.empty, .int .i64 0, .int .i64 0, .int .i64 0, .int .i64 0, .string ByteArray.empty, .int .i64 0, (.slice none 0 0), .int .i64 0, .string ByteArray.empty]) #[.int .i64 0, .int .i64 0, .int .i64 0, .int .i64 0, .string ByteArray.empty, .int .i64 0, .int .i64 0, .int .i64 0, .int .i64 0, .string ByteArray.empty, .int .i64 0, (.slice none 0 0), .int .i64 0, .string ByteArray.empty] (fun g2 => ?_)
 refine s_nt ?_
 refine k_seq ?_
 refine k_sr ?_
 refine sp (.int .i64 0) ?_
 refine s_nt ?_
 refine k_block ?_
 refine k_loop (ι := Vl × Nat) (fun (q, i) => i ≤ 32 ∧ asg st k x (32 - i) q = asg st k x 32 v ∧ asgS st k x (32 - i) q = asgS st k x 32 v) (fun (q, i) => [(0, pB b 0), (2, .string ⟨#[95, 95, 110, 101, 119, 105, 110, 100, 101, 120]⟩), (3, .func (.func 64) #[] #[pB gf 0, pB gk 0, pB gs 0, pB gx 0]), (4, .func (.func 66) #[] #[pB gk 0, pB gx 0]), (6, pB g1 0), (10, pB g2 0), (14, .int .i64 (i : Int))]) (fun (q, i) => blkA g2 #[.int .i64 0, .int .i64 0, .int .i64 0, .int .i64 0, .string ByteArray.empty, .int .i64 0, .int .i64 0, .int .i64 0, .int .i64 0, .string ByteArray.empty, .int .i64 0, (.slice none 0 0), .int .i64 0, .string ByteArray.empty] 51 :: blkA g1 #[.int .i64 q.kind, .int .i64 q.p, .int .i64 q.q, .string q.str, .int .i64 q.ref] 26 :: blkA gf #[.func (.func 24) #[pB b 0] #[]] 58 :: blkA gk #[.int .i64 k.kind, .int .i64 k.p, .int .i64 k.q, .string k.str, .int .i64 k.ref] 26 :: blkA gs #[.func (.func 29) #[pB b 0] #[]] 63 :: blkA gx #[.int .i64 x.kind, .int .i64 x.p, .int .i64 x.q, .string x.str, .int .i64 x.ref] 26 :: hpA b st :: F) (fun (q, i) => 32 - i) (v, 0) ⟨by omega, rfl, rfl⟩ (sub_of rfl ⟨⟨rfl, rfl⟩, ⟨⟨rfl, rfl⟩, ⟨⟨rfl, rfl⟩, ⟨⟨rfl, rfl⟩, ⟨⟨rfl, rfl⟩, ⟨⟨rfl, rfl⟩, ⟨⟨rfl, rfl⟩, trivial⟩⟩⟩⟩⟩⟩⟩) (fun _ h => h.re [0, 0, 0, 0, 0, 0, 0] []) ?_
 rintro ⟨q, i⟩ hi3
 replace hi3 : i ≤ 32 ∧ asg st k x (32 - i) q = asg st k x 32 v ∧ asgS st k x (32 - i) q = asgS st k x 32 v := hi3
 show SK _ _ _ _ _ [(0, .pointer (some ⟨b, 0, none⟩)), (2, .string ⟨#[95, 95, 110, 101, 119, 105, 110, 100, 101, 120]⟩), (3, .func (.func 64) #[] #[.pointer (some ⟨gf, 0, none⟩), .pointer (some ⟨gk, 0, none⟩), .pointer (some ⟨gs, 0, none⟩), .pointer (some ⟨gx, 0, none⟩)]), (4, .func (.func 66) #[] #[.pointer (some ⟨gk, 0, none⟩), .pointer (some ⟨gx, 0, none⟩)]), (6, .pointer (some ⟨g1, 0, none⟩)), (10, .pointer (some ⟨g2, 0, none⟩)), (14, .int .i64 (i : Int))] _ (blkA g2 #[.int .i64 0, .int .i64 0, .int .i64 0, .int .i64 0, .string ByteArray.empty, .int .i64 0, .int .i64 0, .int .i64 0, .int .i64 0, .string ByteArray.empty, .int .i64 0, (.slice none 0 0), .int .i64 0, .string ByteArray.empty] 51 :: blkA g1 #[.int .i64 q.kind, .int .i64 q.p, .int .i64 q.q, .string q.str, .int .i64 q.ref] 26 :: blkA gf #[.func (.func 24) #[.pointer (some ⟨b, 0, none⟩)] #[]] 58 :: blkA gk #[.int .i64 k.kind, .int .i64 k.p, .int .i64 k.q, .string k.str, .int .i64 k.ref] 26 :: blkA gs #[.func (.func 29) #[.pointer (some ⟨b, 0, none⟩)] #[]] 63 :: blkA gx #[.int .i64 x.kind, .int .i64 x.p, .int .i64 x.q, .string x.str, .int .i64 x.ref] 26 :: hpA b st :: F)
 refine k_sr ?_
 refine s_lt t_cmp ?_
 refine s_nt ?_
 refine k_seq ?_
 refine k_cond (decide ((i : Int) < 32)) (fun c4 => ?_) (fun c4 => ?_)
 ·
  have p5 := of_decide_eq_true c4
  refine k_st ?_
  refine k_seq ?_
  refine k_block ?_
  refine k_sr ?_
  refine sp (pB b 0) ?_
  refine s_lt (t_loadA 1 #[.int .i64 q.kind, .int .i64 q.p, .int .i64 q.q, .string q.str, .int .i64 q.ref]) ?_
  refine sp (.string ⟨#[95, 95, 110, 101, 119, 105, 110, 100, 101, 120]⟩) ?_
  refine s_call [6] (hdl_s (st := st) hsm (by omega) q ⟨#[95, 95, 110, 101, 119, 105, 110, 100, 101, 120]⟩) ?_
  rintro _ _ ⟨rfl, rfl⟩
  refine s_alloc (.agg #[.int .i64 0, .int .i64 0, .int .i64 0, .string ByteArray.empty, .int .i64 0]) #[.int .i64 0, .int .i64 0, .int .i64 0, .string ByteArray.empty, .int .i64 0] (fun g6 => ?_)
  refine s_store 0 #[.int .i64 ((hdl st q ⟨#[95, 95, 110, 101, 119, 105, 110, 100, 101, 120]⟩).kind), .int .i64 ((hdl st q ⟨#[95, 95, 110, 101, 119, 105, 110, 100, 101, 120]⟩).p), .int .i64 ((hdl st q ⟨#[95, 95, 110, 101, 119, 105, 110, 100, 101, 120]⟩).q), .string ((hdl st q ⟨#[95, 95, 110, 101, 119, 105, 110, 100, 101, 120]⟩).str), .int .i64 ((hdl st q ⟨#[95, 95, 110, 101, 119, 105, 110, 100, 101, 120]⟩).ref)] ?_
  refine s_nt ?_
  refine k_seq ?_
  refine k_sr ?_
  refine sp (.func (.func 64) #[] #[pB gf 0, pB gk 0, pB gs 0, pB gx 0]) ?_
  refine s_lt (t_loadA 3 #[.int .i64 q.kind, .int .i64 q.p, .int .i64 q.q, .string q.str, .int .i64 q.ref]) ?_
  refine s_lt (t_loadA 0 #[.int .i64 ((hdl st q ⟨#[95, 95, 110, 101, 119, 105, 110, 100, 101, 120]⟩).kind), .int .i64 ((hdl st q ⟨#[95, 95, 110, 101, 119, 105, 110, 100, 101, 120]⟩).p), .int .i64 ((hdl st q ⟨#[95, 95, 110, 101, 119, 105, 110, 100, 101, 120]⟩).q), .string ((hdl st q ⟨#[95, 95, 110, 101, 119, 105, 110, 100, 101, 120]⟩).str), .int .i64 ((hdl st q ⟨#[95, 95, 110, 101, 119, 105, 110, 100, 101, 120]⟩).ref)]) ?_
  refine s_callL [4, 4, 4, 4, 1] (sta_s (k := k) (x := x) (st := st) hsm (by omega) q (hdl st q ⟨#[95, 95, 110, 101, 119, 105, 110, 100, 101, 120]⟩)) ?_
  rintro _ _ ⟨rfl, rfl⟩
  refine sp (.tuple #[.agg #[.int .i64 ((sta st k x q (hdl st q ⟨#[95, 95, 110, 101, 119, 105, 110, 100, 101, 120]⟩)).1.kind), .int .i64 (((sta st k x q (hdl st q ⟨#[95, 95, 110, 101, 119, 105, 110, 100, 101, 120]⟩)).1.val).kind), .int .i64 (((sta st k x q (hdl st q ⟨#[95, 95, 110, 101, 119, 105, 110, 100, 101, 120]⟩)).1.val).p), .int .i64 (((sta st k x q (hdl st q ⟨#[95, 95, 110, 101, 119, 105, 110, 100, 101, 120]⟩)).1.val).q), .string (((sta st k x q (hdl st q ⟨#[95, 95, 110, 101, 119, 105, 110, 100, 101, 120]⟩)).1.val).str), .int .i64 (((sta st k x q (hdl st q ⟨#[95, 95, 110, 101, 119, 105, 110, 100, 101, 120]⟩)).1.val).ref), .int .i64 (((sta st k x q (hdl st q ⟨#[95, 95, 110, 101, 119, 105, 110, 100, 101, 120]⟩)).1.fn).kind), .int .i64 (((sta st k x q (hdl st q ⟨#[95, 95, 110, 101, 119, 105, 110, 100, 101, 120]⟩)).1.fn).p), .int .i64 (((sta st k x q (hdl st q ⟨#[95, 95, 110, 101, 119, 105, 110, 100, 101, 120]⟩)).1.fn).q), .string (((sta st k x q (hdl st q ⟨#[95, 95, 110, 101, 119, 105, 110, 100, 101, 120]⟩)).1.fn).str), .int .i64 (((sta st k x q (hdl st q ⟨#[95, 95, 110, 101, 119, 105, 110, 100, 101, 120]⟩)).1.fn).ref), (.slice none 0 0), .int .i64 ((sta st k x q (hdl st q ⟨#[95, 95, 110, 101, 119, 105, 110, 100, 101, 120]⟩)).1.after), .string ((sta st k x q (hdl st q ⟨#[95, 95, 110, 101, 119, 105, 110, 100, 101, 120]⟩)).1.str)], .bool ((sta st k x q (hdl st q ⟨#[95, 95, 110, 101, 119, 105, 110, 100, 101, 120]⟩)).2)]) ?_
  refine sp (.agg #[.int .i64 ((sta st k x q (hdl st q ⟨#[95, 95, 110, 101, 119, 105, 110, 100, 101, 120]⟩)).1.kind), .int .i64 (((sta st k x q (hdl st q ⟨#[95, 95, 110, 101, 119, 105, 110, 100, 101, 120]⟩)).1.val).kind), .int .i64 (((sta st k x q (hdl st q ⟨#[95, 95, 110, 101, 119, 105, 110, 100, 101, 120]⟩)).1.val).p), .int .i64 (((sta st k x q (hdl st q ⟨#[95, 95, 110, 101, 119, 105, 110, 100, 101, 120]⟩)).1.val).q), .string (((sta st k x q (hdl st q ⟨#[95, 95, 110, 101, 119, 105, 110, 100, 101, 120]⟩)).1.val).str), .int .i64 (((sta st k x q (hdl st q ⟨#[95, 95, 110, 101, 119, 105, 110, 100, 101, 120]⟩)).1.val).ref), .int .i64 (((sta st k x q (hdl st q ⟨#[95, 95, 110, 101, 119, 105, 110, 100, 101, 120]⟩)).1.fn).kind), .int .i64 (((sta st k x q (hdl st q ⟨#[95, 95, 110, 101, 119, 105, 110, 100, 101, 120]⟩)).1.fn).p), .int .i64 (((sta st k x q (hdl st q ⟨#[95, 95, 110, 101, 119, 105, 110, 100, 101, 120]⟩)).1.fn).q), .string (((sta st k x q (hdl st q ⟨#[95, 95, 110, 101, 119, 105, 110, 100, 101, 120]⟩)).1.fn).str), .int .i64 (((sta st k x q (hdl st q ⟨#[95, 95, 110, 101, 119, 105, 110, 100, 101, 120]⟩)).1.fn).ref), (.slice none 0 0), .int .i64 ((sta st k x q (hdl st q ⟨#[95, 95, 110, 101, 119, 105, 110, 100, 101, 120]⟩)).1.after), .string ((sta st k x q (hdl st q ⟨#[95, 95, 110, 101, 119, 105, 110, 100, 101, 120]⟩)).1.str)]) ?_
  refine sp (.bool ((sta st k x q (hdl st q ⟨#[95, 95, 110, 101, 119, 105, 110, 100, 101, 120]⟩)).2)) ?_
  refine s_alloc (.agg #[.int .i64 0, .int .i64 0, .int .i64 0, .int .i64 0, .string ByteArray.empty, .int .i64 0, .int .i64 0, .int .i64 0, .int .i64 0, .string ByteArray.empty, .int .i64 0, (.slice none 0 0), .int .i64 0, .string ByteArray.empty]) #[.int .i64 0, .int .i64 0, .int .i64 0, .int .i64 0, .string ByteArray.empty, .int .i64 0, .int .i64 0, .int .i64 0, .int .i64 0, .string ByteArray.empty, .int .i64 0, (.slice none 0 0), .int .i64 0, .string ByteArray.empty] (fun g7 => ?_)
  refine s_store 0 #[.int .i64 ((sta st k x q (hdl st q ⟨#[95, 95, 110, 101, 119, 105, 110, 100, 101, 120]⟩)).1.kind), .int .i64 (((sta st k x q (hdl st q ⟨#[95, 95, 110, 101, 119, 105, 110, 100, 101, 120]⟩)).1.val).kind), .int .i64 (((sta st k x q (hdl st q ⟨#[95, 95, 110, 101, 119, 105, 110, 100, 101, 120]⟩)).1.val).p), .int .i64 (((sta st k x q (hdl st q ⟨#[95, 95, 110, 101, 119, 105, 110, 100, 101, 120]⟩)).1.val).q), .string (((sta st k x q (hdl st q ⟨#[95, 95, 110, 101, 119, 105, 110, 100, 101, 120]⟩)).1.val).str), .int .i64 (((sta st k x q (hdl st q ⟨#[95, 95, 110, 101, 119, 105, 110, 100, 101, 120]⟩)).1.val).ref), .int .i64 (((sta st k x q (hdl st q ⟨#[95, 95, 110, 101, 119, 105, 110, 100, 101, 120]⟩)).1.fn).kind), .int .i64 (((sta st k x q (hdl st q ⟨#[95, 95, 110, 101, 119, 105, 110, 100, 101, 120]⟩)).1.fn).p), .int .i64 (((sta st k x q (hdl st q ⟨#[95, 95, 110, 101, 119, 105, 110, 100, 101, 120]⟩)).1.fn).q), .string (((sta st k x q (hdl st q ⟨#[95, 95, 110, 101, 119, 105, 110, 100, 101, 120]⟩)).1.fn).str), .int .i64 (((sta st k x q (hdl st q ⟨#[95, 95, 110, 101, 119, 105, 110, 100, 101, 120]⟩)).1.fn).ref), (.slice none 0 0), .int .i64 ((sta st k x q (hdl st q ⟨#[95, 95, 110, 101, 119, 105, 110, 100, 101, 120]⟩)).1.after), .string ((sta st k x q (hdl st q ⟨#[95, 95, 110, 101, 119, 105, 110, 100, 101, 120]⟩)).1.str)] ?_
  refine sp (.bool ((sta st k x q (hdl st q ⟨#[95, 95, 110, 101, 119, 105, 110, 100, 101, 120]⟩)).2)) ?_
  refine s_nr ?_
  refine sp (.bool ((sta st k x q (hdl st q ⟨#[95, 95, 110, 101, 119, 105, 110, 100, 101, 120]⟩)).2)) ?_
  refine s_nt ?_
  refine k_cond ((sta st k x q (hdl st q ⟨#[95, 95, 110, 101, 119, 105, 110, 100, 101, 120]⟩)).2) (fun c8 => ?_) (fun c8 => ?_)
  ·
   refine k_sr ?_
   refine s_lt (t_loadA 0 #[.int .i64 ((sta st k x q (hdl st q ⟨#[95, 95, 110, 101, 119, 105, 110, 100, 101, 120]⟩)).1.kind), .int .i64 (((sta st k x q (hdl st q ⟨#[95, 95, 110, 101, 119, 105, 110, 100, 101, 120]⟩)).1.val).kind), .int .i64 (((sta st k x q (hdl st q ⟨#[95, 95, 110, 101, 119, 105, 110, 100, 101, 120]⟩)).1.val).p), .int .i64 (((sta st k x q (hdl st q ⟨#[95, 95, 110, 101, 119, 105, 110, 100, 101, 120]⟩)).1.val).q), .string (((sta st k x q (hdl st q ⟨#[95, 95, 110, 101, 119, 105, 110, 100, 101, 120]⟩)).1.val).str), .int .i64 (((sta st k x q (hdl st q ⟨#[95, 95, 110, 101, 119, 105, 110, 100, 101, 120]⟩)).1.val).ref), .int .i64 (((sta st k x q (hdl st q ⟨#[95, 95, 110, 101, 119, 105, 110, 100, 101, 120]⟩)).1.fn).kind), .int .i64 (((sta st k x q (hdl st q ⟨#[95, 95, 110, 101, 119, 105, 110, 100, 101, 120]⟩)).1.fn).p), .int .i64 (((sta st k x q (hdl st q ⟨#[95, 95, 110, 101, 119, 105, 110, 100, 101, 120]⟩)).1.fn).q), .string (((sta st k x q (hdl st q ⟨#[95, 95, 110, 101, 119, 105, 110, 100, 101, 120]⟩)).1.fn).str), .int .i64 (((sta st k x q (hdl st q ⟨#[95, 95, 110, 101, 119, 105, 110, 100, 101, 120]⟩)).1.fn).ref), (.slice none 0 0), .int .i64 ((sta st k x q (hdl st q ⟨#[95, 95, 110, 101, 119, 105, 110, 100, 101, 120]⟩)).1.after), .string ((sta st k x q (hdl st q ⟨#[95, 95, 110, 101, 119, 105, 110, 100, 101, 120]⟩)).1.str)]) ?_
   refine s_store 7 #[.int .i64 ((sta st k x q (hdl st q ⟨#[95, 95, 110, 101, 119, 105, 110, 100, 101, 120]⟩)).1.kind), .int .i64 (((sta st k x q (hdl st q ⟨#[95, 95, 110, 101, 119, 105, 110, 100, 101, 120]⟩)).1.val).kind), .int .i64 (((sta st k x q (hdl st q ⟨#[95, 95, 110, 101, 119, 105, 110, 100, 101, 120]⟩)).1.val).p), .int .i64 (((sta st k x q (hdl st q ⟨#[95, 95, 110, 101, 119, 105, 110, 100, 101, 120]⟩)).1.val).q), .string (((sta st k x q (hdl st q ⟨#[95, 95, 110, 101, 119, 105, 110, 100, 101, 120]⟩)).1.val).str), .int .i64 (((sta st k x q (hdl st q ⟨#[95, 95, 110, 101, 119, 105, 110, 100, 101, 120]⟩)).1.val).ref), .int .i64 (((sta st k x q (hdl st q ⟨#[95, 95, 110, 101, 119, 105, 110, 100, 101, 120]⟩)).1.fn).kind), .int .i64 (((sta st k x q (hdl st q ⟨#[95, 95, 110, 101, 119, 105, 110, 100, 101, 120]⟩)).1.fn).p), .int .i64 (((sta st k x q (hdl st q ⟨#[95, 95, 110, 101, 119, 105, 110, 100, 101, 120]⟩)).1.fn).q), .string (((sta st k x q (hdl st q ⟨#[95, 95, 110, 101, 119, 105, 110, 100, 101, 120]⟩)).1.fn).str), .int .i64 (((sta st k x q (hdl st q ⟨#[95, 95, 110, 101, 119, 105, 110, 100, 101, 120]⟩)).1.fn).ref), (.slice none 0 0), .int .i64 ((sta st k x q (hdl st q ⟨#[95, 95, 110, 101, 119, 105, 110, 100, 101, 120]⟩)).1.after), .string ((sta st k x q (hdl st q ⟨#[95, 95, 110, 101, 119, 105, 110, 100, 101, 120]⟩)).1.str)] ?_
   refine s_nt ?_
   refine k_ret ?_
   refine xs_ret ?_
   refine xs_retBlock ?_
   refine xs_ret ?_
   refine xs_ret ?_
   refine xs_retBlock ?_
   refine xs_ret ?_
   have hc : asg st k x 32 v = (sta st k x q (hdl st q ⟨#[95, 95, 110, 101, 119, 105, 110, 100, 101, 120]⟩)).1 := hi3.2.1.symm.trans (chn_set (by omega) c8)
   have he : asgS st k x 32 v = (sts st k x q (hdl st q ⟨#[95, 95, 110, 101, 119, 105, 110, 100, 101, 120]⟩)) := (hi3.2.2.symm.trans (chnS_set (by omega) c8)).trans (sts_yes c8).symm
   refine xs_mem (fun _ h => Holds.nilS (T := VlT) h) ?_
   exact xs_fin [.agg #[.int .i64 ((sta st k x q (hdl st q ⟨#[95, 95, 110, 101, 119, 105, 110, 100, 101, 120]⟩)).1.kind), .int .i64 (((sta st k x q (hdl st q ⟨#[95, 95, 110, 101, 119, 105, 110, 100, 101, 120]⟩)).1.val).kind), .int .i64 (((sta st k x q (hdl st q ⟨#[95, 95, 110, 101, 119, 105, 110, 100, 101, 120]⟩)).1.val).p), .int .i64 (((sta st k x q (hdl st q ⟨#[95, 95, 110, 101, 119, 105, 110, 100, 101, 120]⟩)).1.val).q), .string (((sta st k x q (hdl st q ⟨#[95, 95, 110, 101, 119, 105, 110, 100, 101, 120]⟩)).1.val).str), .int .i64 (((sta st k x q (hdl st q ⟨#[95, 95, 110, 101, 119, 105, 110, 100, 101, 120]⟩)).1.val).ref), .int .i64 (((sta st k x q (hdl st q ⟨#[95, 95, 110, 101, 119, 105, 110, 100, 101, 120]⟩)).1.fn).kind), .int .i64 (((sta st k x q (hdl st q ⟨#[95, 95, 110, 101, 119, 105, 110, 100, 101, 120]⟩)).1.fn).p), .int .i64 (((sta st k x q (hdl st q ⟨#[95, 95, 110, 101, 119, 105, 110, 100, 101, 120]⟩)).1.fn).q), .string (((sta st k x q (hdl st q ⟨#[95, 95, 110, 101, 119, 105, 110, 100, 101, 120]⟩)).1.fn).str), .int .i64 (((sta st k x q (hdl st q ⟨#[95, 95, 110, 101, 119, 105, 110, 100, 101, 120]⟩)).1.fn).ref), (.slice none 0 0), .int .i64 ((sta st k x q (hdl st q ⟨#[95, 95, 110, 101, 119, 105, 110, 100, 101, 120]⟩)).1.after), .string ((sta st k x q (hdl st q ⟨#[95, 95, 110, 101, 119, 105, 110, 100, 101, 120]⟩)).1.str)]] (own VlT (.slice none 0 0) [] :: blkA gf #[.func (.func 24) #[.pointer (some ⟨b, 0, none⟩)] #[]] 58 :: blkA gk #[.int .i64 k.kind, .int .i64 k.p, .int .i64 k.q, .string k.str, .int .i64 k.ref] 26 :: blkA gs #[.func (.func 29) #[.pointer (some ⟨b, 0, none⟩)] #[]] 63 :: blkA gx #[.int .i64 x.kind, .int .i64 x.p, .int .i64 x.q, .string x.str, .int .i64 x.ref] 26 :: hpA b (asgS st k x 32 v) :: F) (SI.agg 10 51 8 SI.nil) (fun _ h => by rw [he]; exact h.re [0, 1, 1, 1, 1, 1] [6, 6, 6, 6]) ⟨(.slice none 0 0), by rw [hc]; rfl, by rw [hc]; rw [sta_args]⟩
  ·
   refine k_st ?_
   refine k_seq ?_
   refine k_block ?_
   refine k_sr ?_
   refine sp (pB g6 0) ?_
   refine s_lt (t_load 6 (.int .i64 ((hdl st q ⟨#[95, 95, 110, 101, 119, 105, 110, 100, 101, 120]⟩).kind))) ?_
   refine s_lt t_cmp ?_
   refine sp (.bool (decide ((hdl st q ⟨#[95, 95, 110, 101, 119, 105, 110, 100, 101, 120]⟩).kind = 0))) ?_
   refine s_nt ?_
   refine k_cond (decide ((hdl st q ⟨#[95, 95, 110, 101, 119, 105, 110, 100, 101, 120]⟩).kind = 0)) (fun c9 => ?_) (fun c9 => ?_)
   ·
    have p10 := of_decide_eq_true c9
    refine k_sr ?_
    refine s_lt (t_loadA 8 #[.int .i64 q.kind, .int .i64 q.p, .int .i64 q.q, .string q.str, .int .i64 q.ref]) ?_
    refine s_vcall (fun _ h => attempt_s q) ?_
    rintro _ rfl
    refine s_vcall (fun _ h => failed_s (attB q.kind)) ?_
    rintro _ rfl
    refine s_store 7 #[.int .i64 3, .int .i64 0, .int .i64 0, .int .i64 0, .string ByteArray.empty, .int .i64 0, .int .i64 0, .int .i64 0, .int .i64 0, .string ByteArray.empty, .int .i64 0, (.slice none 0 0), .int .i64 0, .string (attB q.kind)] ?_
    refine s_nt ?_
    refine k_ret ?_
    refine xs_retBlock ?_
    refine xs_ret ?_
    refine xs_retBlock ?_
    refine xs_ret ?_
    refine xs_ret ?_
    refine xs_retBlock ?_
    refine xs_ret ?_
    have hc : asg st k x 32 v = failN (attB q.kind) := hi3.2.1.symm.trans (chn_none (by omega) c8 (of_decide_eq_true c9))
    have he : asgS st k x 32 v = (sts st k x q (hdl st q ⟨#[95, 95, 110, 101, 119, 105, 110, 100, 101, 120]⟩)) := (hi3.2.2.symm.trans (chnS_none (by omega) c8 (of_decide_eq_true c9))).trans (sts_no c8).symm
    refine xs_mem (fun _ h => Holds.nilS (T := VlT) h) ?_
    exact xs_fin [.agg #[.int .i64 3, .int .i64 0, .int .i64 0, .int .i64 0, .string ByteArray.empty, .int .i64 0, .int .i64 0, .int .i64 0, .int .i64 0, .string ByteArray.empty, .int .i64 0, (.slice none 0 0), .int .i64 0, .string (attB q.kind)]] (own VlT (.slice none 0 0) [] :: blkA gf #[.func (.func 24) #[.pointer (some ⟨b, 0, none⟩)] #[]] 58 :: blkA gk #[.int .i64 k.kind, .int .i64 k.p, .int .i64 k.q, .string k.str, .int .i64 k.ref] 26 :: blkA gs #[.func (.func 29) #[.pointer (some ⟨b, 0, none⟩)] #[]] 63 :: blkA gx #[.int .i64 x.kind, .int .i64 x.p, .int .i64 x.q, .string x.str, .int .i64 x.ref] 26 :: hpA b (asgS st k x 32 v) :: F) (SI.agg 10 51 8 SI.nil) (fun _ h => by rw [he]; exact h.re [0, 1, 1, 1, 1, 1] [6, 6, 6, 6]) ⟨(.slice none 0 0), by rw [hc]; rfl, by rw [hc]; rfl⟩
   ·
    have p11 := of_decide_eq_false c9
    refine k_sr ?_
    refine s_lt (t_loadA 6 #[.int .i64 ((hdl st q ⟨#[95, 95, 110, 101, 119, 105, 110, 100, 101, 120]⟩).kind), .int .i64 ((hdl st q ⟨#[95, 95, 110, 101, 119, 105, 110, 100, 101, 120]⟩).p), .int .i64 ((hdl st q ⟨#[95, 95, 110, 101, 119, 105, 110, 100, 101, 120]⟩).q), .string ((hdl st q ⟨#[95, 95, 110, 101, 119, 105, 110, 100, 101, 120]⟩).str), .int .i64 ((hdl st q ⟨#[95, 95, 110, 101, 119, 105, 110, 100, 101, 120]⟩).ref)]) ?_
    refine s_vcall (fun _ h => fun_s (hdl st q ⟨#[95, 95, 110, 101, 119, 105, 110, 100, 101, 120]⟩)) ?_
    rintro _ rfl
    refine sp (.bool (fnB (hdl st q ⟨#[95, 95, 110, 101, 119, 105, 110, 100, 101, 120]⟩))) ?_
    refine s_nt ?_
    refine k_cond (fnB (hdl st q ⟨#[95, 95, 110, 101, 119, 105, 110, 100, 101, 120]⟩)) (fun c12 => ?_) (fun c12 => ?_)
    ·
     refine k_sr ?_
     refine sp (.func (.func 66) #[] #[pB gk 0, pB gx 0]) ?_
     refine s_lt (t_loadA 8 #[.int .i64 q.kind, .int .i64 q.p, .int .i64 q.q, .string q.str, .int .i64 q.ref]) ?_
     refine s_lt (t_loadA 6 #[.int .i64 ((hdl st q ⟨#[95, 95, 110, 101, 119, 105, 110, 100, 101, 120]⟩).kind), .int .i64 ((hdl st q ⟨#[95, 95, 110, 101, 119, 105, 110, 100, 101, 120]⟩).p), .int .i64 ((hdl st q ⟨#[95, 95, 110, 101, 119, 105, 110, 100, 101, 120]⟩).q), .string ((hdl st q ⟨#[95, 95, 110, 101, 119, 105, 110, 100, 101, 120]⟩).str), .int .i64 ((hdl st q ⟨#[95, 95, 110, 101, 119, 105, 110, 100, 101, 120]⟩).ref)]) ?_
     refine s_callL [2, 3] (acall_s (k := k) (x := x) q (hdl st q ⟨#[95, 95, 110, 101, 119, 105, 110, 100, 101, 120]⟩)) ?_
     rintro _ _ ⟨av13, rfl, rfl⟩
     refine s_fact (fun H h => ((Acc.own (T := VlT) (L := [q, k, x]) 0 rfl) H h).form) (fun hf14 => ?_)
     refine s_store (u := .agg #[.int .i64 ((callN (hdl st q ⟨#[95, 95, 110, 101, 119, 105, 110, 100, 101, 120]⟩) 4 [q, k, x]).kind), .int .i64 (((callN (hdl st q ⟨#[95, 95, 110, 101, 119, 105, 110, 100, 101, 120]⟩) 4 [q, k, x]).val).kind), .int .i64 (((callN (hdl st q ⟨#[95, 95, 110, 101, 119, 105, 110, 100, 101, 120]⟩) 4 [q, k, x]).val).p), .int .i64 (((callN (hdl st q ⟨#[95, 95, 110, 101, 119, 105, 110, 100, 101, 120]⟩) 4 [q, k, x]).val).q), .string (((callN (hdl st q ⟨#[95, 95, 110, 101, 119, 105, 110, 100, 101, 120]⟩) 4 [q, k, x]).val).str), .int .i64 (((callN (hdl st q ⟨#[95, 95, 110, 101, 119, 105, 110, 100, 101, 120]⟩) 4 [q, k, x]).val).ref), .int .i64 (((callN (hdl st q ⟨#[95, 95, 110, 101, 119, 105, 110, 100, 101, 120]⟩) 4 [q, k, x]).fn).kind), .int .i64 (((callN (hdl st q ⟨#[95, 95, 110, 101, 119, 105, 110, 100, 101, 120]⟩) 4 [q, k, x]).fn).p), .int .i64 (((callN (hdl st q ⟨#[95, 95, 110, 101, 119, 105, 110, 100, 101, 120]⟩) 4 [q, k, x]).fn).q), .string (((callN (hdl st q ⟨#[95, 95, 110, 101, 119, 105, 110, 100, 101, 120]⟩) 4 [q, k, x]).fn).str), .int .i64 (((callN (hdl st q ⟨#[95, 95, 110, 101, 119, 105, 110, 100, 101, 120]⟩) 4 [q, k, x]).fn).ref), av13, .int .i64 ((callN (hdl st q ⟨#[95, 95, 110, 101, 119, 105, 110, 100, 101, 120]⟩) 4 [q, k, x]).after), .string ((callN (hdl st q ⟨#[95, 95, 110, 101, 119, 105, 110, 100, 101, 120]⟩) 4 [q, k, x]).str)]) (m := 14) 8 #[.int .i64 ((callN (hdl st q ⟨#[95, 95, 110, 101, 119, 105, 110, 100, 101, 120]⟩) 4 [q, k, x]).kind), .int .i64 (((callN (hdl st q ⟨#[95, 95, 110, 101, 119, 105, 110, 100, 101, 120]⟩) 4 [q, k, x]).val).kind), .int .i64 (((callN (hdl st q ⟨#[95, 95, 110, 101, 119, 105, 110, 100, 101, 120]⟩) 4 [q, k, x]).val).p), .int .i64 (((callN (hdl st q ⟨#[95, 95, 110, 101, 119, 105, 110, 100, 101, 120]⟩) 4 [q, k, x]).val).q), .string (((callN (hdl st q ⟨#[95, 95, 110, 101, 119, 105, 110, 100, 101, 120]⟩) 4 [q, k, x]).val).str), .int .i64 (((callN (hdl st q ⟨#[95, 95, 110, 101, 119, 105, 110, 100, 101, 120]⟩) 4 [q, k, x]).val).ref), .int .i64 (((callN (hdl st q ⟨#[95, 95, 110, 101, 119, 105, 110, 100, 101, 120]⟩) 4 [q, k, x]).fn).kind), .int .i64 (((callN (hdl st q ⟨#[95, 95, 110, 101, 119, 105, 110, 100, 101, 120]⟩) 4 [q, k, x]).fn).p), .int .i64 (((callN (hdl st q ⟨#[95, 95, 110, 101, 119, 105, 110, 100, 101, 120]⟩) 4 [q, k, x]).fn).q), .string (((callN (hdl st q ⟨#[95, 95, 110, 101, 119, 105, 110, 100, 101, 120]⟩) 4 [q, k, x]).fn).str), .int .i64 (((callN (hdl st q ⟨#[95, 95, 110, 101, 119, 105, 110, 100, 101, 120]⟩) 4 [q, k, x]).fn).ref), av13, .int .i64 ((callN (hdl st q ⟨#[95, 95, 110, 101, 119, 105, 110, 100, 101, 120]⟩) 4 [q, k, x]).after), .string ((callN (hdl st q ⟨#[95, 95, 110, 101, 119, 105, 110, 100, 101, 120]⟩) 4 [q, k, x]).str)] ?_ (hm := by (obtain ⟨_, _, e⟩ := hf14; rw [e]; rfl)) (h1 := by (obtain ⟨_, _, e⟩ := hf14; rw [e]; rfl)) (ha' := by (obtain ⟨_, _, e⟩ := hf14; rw [e]; rfl))
     refine s_nt ?_
     refine k_ret ?_
     refine xs_retBlock ?_
     refine xs_ret ?_
     refine xs_retBlock ?_
     refine xs_ret ?_
     refine xs_ret ?_
     refine xs_retBlock ?_
     refine xs_ret ?_
     have hc : asg st k x 32 v = callN (hdl st q ⟨#[95, 95, 110, 101, 119, 105, 110, 100, 101, 120]⟩) 4 [q, k, x] := hi3.2.1.symm.trans (chn_call (by omega) c8 (of_decide_eq_false c9) c12)
     have he : asgS st k x 32 v = (sts st k x q (hdl st q ⟨#[95, 95, 110, 101, 119, 105, 110, 100, 101, 120]⟩)) := (hi3.2.2.symm.trans (chnS_call (by omega) c8 (of_decide_eq_false c9) c12)).trans (sts_no c8).symm
     exact xs_fin [.agg #[.int .i64 ((callN (hdl st q ⟨#[95, 95, 110, 101, 119, 105, 110, 100, 101, 120]⟩) 4 [q, k, x]).kind), .int .i64 (((callN (hdl st q ⟨#[95, 95, 110, 101, 119, 105, 110, 100, 101, 120]⟩) 4 [q, k, x]).val).kind), .int .i64 (((callN (hdl st q ⟨#[95, 95, 110, 101, 119, 105, 110, 100, 101, 120]⟩) 4 [q, k, x]).val).p), .int .i64 (((callN (hdl st q ⟨#[95, 95, 110, 101, 119, 105, 110, 100, 101, 120]⟩) 4 [q, k, x]).val).q), .string (((callN (hdl st q ⟨#[95, 95, 110, 101, 119, 105, 110, 100, 101, 120]⟩) 4 [q, k, x]).val).str), .int .i64 (((callN (hdl st q ⟨#[95, 95, 110, 101, 119, 105, 110, 100, 101, 120]⟩) 4 [q, k, x]).val).ref), .int .i64 (((callN (hdl st q ⟨#[95, 95, 110, 101, 119, 105, 110, 100, 101, 120]⟩) 4 [q, k, x]).fn).kind), .int .i64 (((callN (hdl st q ⟨#[95, 95, 110, 101, 119, 105, 110, 100, 101, 120]⟩) 4 [q, k, x]).fn).p), .int .i64 (((callN (hdl st q ⟨#[95, 95, 110, 101, 119, 105, 110, 100, 101, 120]⟩) 4 [q, k, x]).fn).q), .string (((callN (hdl st q ⟨#[95, 95, 110, 101, 119, 105, 110, 100, 101, 120]⟩) 4 [q, k, x]).fn).str), .int .i64 (((callN (hdl st q ⟨#[95, 95, 110, 101, 119, 105, 110, 100, 101, 120]⟩) 4 [q, k, x]).fn).ref), av13, .int .i64 ((callN (hdl st q ⟨#[95, 95, 110, 101, 119, 105, 110, 100, 101, 120]⟩) 4 [q, k, x]).after), .string ((callN (hdl st q ⟨#[95, 95, 110, 101, 119, 105, 110, 100, 101, 120]⟩) 4 [q, k, x]).str)]] (own VlT av13 [q, k, x] :: blkA gf #[.func (.func 24) #[.pointer (some ⟨b, 0, none⟩)] #[]] 58 :: blkA gk #[.int .i64 k.kind, .int .i64 k.p, .int .i64 k.q, .string k.str, .int .i64 k.ref] 26 :: blkA gs #[.func (.func 29) #[.pointer (some ⟨b, 0, none⟩)] #[]] 63 :: blkA gx #[.int .i64 x.kind, .int .i64 x.p, .int .i64 x.q, .string x.str, .int .i64 x.ref] 26 :: hpA b (asgS st k x 32 v) :: F) (SI.agg 10 51 8 SI.nil) (fun _ h => by rw [he]; exact h.re [0, 3, 0, 2, 0, 1] [6, 6, 6, 6]) ⟨av13, by rw [hc]; rfl, by rw [hc]; rfl⟩
    ·
     refine k_skip ?_
     refine xs_block ?_
     refine xs_then ?_
     refine k_reg ?_
     refine s_lt (t_loadA 6 #[.int .i64 ((hdl st q ⟨#[95, 95, 110, 101, 119, 105, 110, 100, 101, 120]⟩).kind), .int .i64 ((hdl st q ⟨#[95, 95, 110, 101, 119, 105, 110, 100, 101, 120]⟩).p), .int .i64 ((hdl st q ⟨#[95, 95, 110, 101, 119, 105, 110, 100, 101, 120]⟩).q), .string ((hdl st q ⟨#[95, 95, 110, 101, 119, 105, 110, 100, 101, 120]⟩).str), .int .i64 ((hdl st q ⟨#[95, 95, 110, 101, 119, 105, 110, 100, 101, 120]⟩).ref)]) ?_
     refine s_store 8 #[.int .i64 ((hdl st q ⟨#[95, 95, 110, 101, 119, 105, 110, 100, 101, 120]⟩).kind), .int .i64 ((hdl st q ⟨#[95, 95, 110, 101, 119, 105, 110, 100, 101, 120]⟩).p), .int .i64 ((hdl st q ⟨#[95, 95, 110, 101, 119, 105, 110, 100, 101, 120]⟩).q), .string ((hdl st q ⟨#[95, 95, 110, 101, 119, 105, 110, 100, 101, 120]⟩).str), .int .i64 ((hdl st q ⟨#[95, 95, 110, 101, 119, 105, 110, 100, 101, 120]⟩).ref)] ?_
     refine s_nil ?_
     refine xs_block ?_
     refine xs_then ?_
     refine k_reg ?_
     refine s_lt (t_add (i : Int) 1 (by (try simp only [lnm]); omega)) ?_
     refine sp (.int .i64 ((i : Int) + 1)) ?_
     refine s_nil ?_
     have hno := sts_no c8
     refine xs_mem (Bs := blkA g7 #[.int .i64 ((sta st k x q (hdl st q ⟨#[95, 95, 110, 101, 119, 105, 110, 100, 101, 120]⟩)).1.kind), .int .i64 (((sta st k x q (hdl st q ⟨#[95, 95, 110, 101, 119, 105, 110, 100, 101, 120]⟩)).1.val).kind), .int .i64 (((sta st k x q (hdl st q ⟨#[95, 95, 110, 101, 119, 105, 110, 100, 101, 120]⟩)).1.val).p), .int .i64 (((sta st k x q (hdl st q ⟨#[95, 95, 110, 101, 119, 105, 110, 100, 101, 120]⟩)).1.val).q), .string (((sta st k x q (hdl st q ⟨#[95, 95, 110, 101, 119, 105, 110, 100, 101, 120]⟩)).1.val).str), .int .i64 (((sta st k x q (hdl st q ⟨#[95, 95, 110, 101, 119, 105, 110, 100, 101, 120]⟩)).1.val).ref), .int .i64 (((sta st k x q (hdl st q ⟨#[95, 95, 110, 101, 119, 105, 110, 100, 101, 120]⟩)).1.fn).kind), .int .i64 (((sta st k x q (hdl st q ⟨#[95, 95, 110, 101, 119, 105, 110, 100, 101, 120]⟩)).1.fn).p), .int .i64 (((sta st k x q (hdl st q ⟨#[95, 95, 110, 101, 119, 105, 110, 100, 101, 120]⟩)).1.fn).q), .string (((sta st k x q (hdl st q ⟨#[95, 95, 110, 101, 119, 105, 110, 100, 101, 120]⟩)).1.fn).str), .int .i64 (((sta st k x q (hdl st q ⟨#[95, 95, 110, 101, 119, 105, 110, 100, 101, 120]⟩)).1.fn).ref), (.slice none 0 0), .int .i64 ((sta st k x q (hdl st q ⟨#[95, 95, 110, 101, 119, 105, 110, 100, 101, 120]⟩)).1.after), .string ((sta st k x q (hdl st q ⟨#[95, 95, 110, 101, 119, 105, 110, 100, 101, 120]⟩)).1.str)] 51 :: blkA gf #[.func (.func 24) #[pB b 0] #[]] 58 :: blkA gk #[.int .i64 k.kind, .int .i64 k.p, .int .i64 k.q, .string k.str, .int .i64 k.ref] 26 :: blkA gs #[.func (.func 29) #[pB b 0] #[]] 63 :: blkA gx #[.int .i64 x.kind, .int .i64 x.p, .int .i64 x.q, .string x.str, .int .i64 x.ref] 26 :: hpA b st :: blkA g6 #[.int .i64 ((hdl st q ⟨#[95, 95, 110, 101, 119, 105, 110, 100, 101, 120]⟩).kind), .int .i64 ((hdl st q ⟨#[95, 95, 110, 101, 119, 105, 110, 100, 101, 120]⟩).p), .int .i64 ((hdl st q ⟨#[95, 95, 110, 101, 119, 105, 110, 100, 101, 120]⟩).q), .string ((hdl st q ⟨#[95, 95, 110, 101, 119, 105, 110, 100, 101, 120]⟩).str), .int .i64 ((hdl st q ⟨#[95, 95, 110, 101, 119, 105, 110, 100, 101, 120]⟩).ref)] 26 :: blkA g2 #[.int .i64 0, .int .i64 0, .int .i64 0, .int .i64 0, .string ByteArray.empty, .int .i64 0, .int .i64 0, .int .i64 0, .int .i64 0, .string ByteArray.empty, .int .i64 0, (.slice none 0 0), .int .i64 0, .string ByteArray.empty] 51 :: blkA g1 #[.int .i64 ((hdl st q ⟨#[95, 95, 110, 101, 119, 105, 110, 100, 101, 120]⟩).kind), .int .i64 ((hdl st q ⟨#[95, 95, 110, 101, 119, 105, 110, 100, 101, 120]⟩).p), .int .i64 ((hdl st q ⟨#[95, 95, 110, 101, 119, 105, 110, 100, 101, 120]⟩).q), .string ((hdl st q ⟨#[95, 95, 110, 101, 119, 105, 110, 100, 101, 120]⟩).str), .int .i64 ((hdl st q ⟨#[95, 95, 110, 101, 119, 105, 110, 100, 101, 120]⟩).ref)] 26 :: F) (fun _ h => by rw [hno] at h; exact h) ?_
     exact xs_round ((hdl st q ⟨#[95, 95, 110, 101, 119, 105, 110, 100, 101, 120]⟩), i + 1) (by show 32 - (i + 1) < 32 - i; omega) (by show i + 1 ≤ 32 ∧ _; exact ⟨by omega, (chn_step (i := i) (q := q) (by omega) c8 (of_decide_eq_false c9) c12).trans hi3.2.1, (chnS_step (i := i) (q := q) (by omega) c8 (of_decide_eq_false c9) c12).trans hi3.2.2⟩) (sub_of rfl ⟨⟨rfl, rfl⟩, ⟨⟨rfl, rfl⟩, ⟨⟨rfl, rfl⟩, ⟨⟨rfl, rfl⟩, ⟨⟨rfl, rfl⟩, ⟨⟨rfl, rfl⟩, ⟨⟨rfl, rfl⟩, trivial⟩⟩⟩⟩⟩⟩⟩) (fun _ h => h.re [7, 7, 1, 1, 1, 1, 1] [7, 7])
 ·
  have p15 := of_decide_eq_false c4
  refine k_exit ?_
  refine xs_exit ?_
  refine xs_exit ?_
  refine xs_here ?_
  refine xs_then ?_
  refine k_sr ?_
  refine s_vcall (fun _ h => failed_s ⟨#[99, 104, 97, 105, 110, 32, 111, 102, 32, 109, 101, 116, 97, 116, 97, 98, 108, 101, 115, 32, 116, 111, 111, 32, 108, 111, 110, 103]⟩) ?_
  rintro _ rfl
  refine s_store 0 #[.int .i64 3, .int .i64 0, .int .i64 0, .int .i64 0, .string ByteArray.empty, .int .i64 0, .int .i64 0, .int .i64 0, .int .i64 0, .string ByteArray.empty, .int .i64 0, (.slice none 0 0), .int .i64 0, .string ⟨#[99, 104, 97, 105, 110, 32, 111, 102, 32, 109, 101, 116, 97, 116, 97, 98, 108, 101, 115, 32, 116, 111, 111, 32, 108, 111, 110, 103]⟩] ?_
  refine s_nt ?_
  refine k_ret ?_
  have hc : asg st k x 32 v = failN ⟨#[99, 104, 97, 105, 110, 32, 111, 102, 32, 109, 101, 116, 97, 116, 97, 98, 108, 101, 115, 32, 116, 111, 111, 32, 108, 111, 110, 103]⟩ := hi3.2.1.symm.trans (chn_end (by omega))
  have he : asgS st k x 32 v = st := (hi3.2.2.symm.trans (chnS_end (by omega))).trans rfl
  refine xs_mem (fun _ h => Holds.nilS (T := VlT) h) ?_
  exact xs_fin [.agg #[.int .i64 3, .int .i64 0, .int .i64 0, .int .i64 0, .string ByteArray.empty, .int .i64 0, .int .i64 0, .int .i64 0, .int .i64 0, .string ByteArray.empty, .int .i64 0, (.slice none 0 0), .int .i64 0, .string ⟨#[99, 104, 97, 105, 110, 32, 111, 102, 32, 109, 101, 116, 97, 116, 97, 98, 108, 101, 115, 32, 116, 111, 111, 32, 108, 111, 110, 103]⟩]] (own VlT (.slice none 0 0) [] :: blkA gf #[.func (.func 24) #[.pointer (some ⟨b, 0, none⟩)] #[]] 58 :: blkA gk #[.int .i64 k.kind, .int .i64 k.p, .int .i64 k.q, .string k.str, .int .i64 k.ref] 26 :: blkA gs #[.func (.func 29) #[.pointer (some ⟨b, 0, none⟩)] #[]] 63 :: blkA gx #[.int .i64 x.kind, .int .i64 x.p, .int .i64 x.q, .string x.str, .int .i64 x.ref] 26 :: hpA b (asgS st k x 32 v) :: F) (SI.agg 10 51 1 SI.nil) (fun _ h => by rw [he]; exact h.re [0, 2, 2, 2, 2, 2] [6, 6]) ⟨(.slice none 0 0), by rw [hc]; rfl, by rw [hc]; rfl⟩
theorem assign_s {Z : Zone} {F : List Asr} {b : Nat} {st : Hst} {n : Nat} (hsm : HSm n st) (hn : n ≤ 300) (v k x : Vl) : SF Try.prog 22 #[.pointer (some ⟨b, 0, none⟩), v.v, k.v, x.v] Z (hpA b st :: F) fun r Bs => ∃ av, r = (asg st k x 32 v).w av ∧ Bs = own VlT av (asg st k x 32 v).args :: hpA b (asgS st k x 32 v) :: F := by
 refine sf_enter Try.func22 22 [(0, pB b 0), (1, .agg #[.int .i64 v.kind, .int .i64 v.p, .int .i64 v.q, .string v.str, .int .i64 v.ref]), (2, .agg #[.int .i64 k.kind, .int .i64 k.p, .int .i64 k.q, .string k.str, .int .i64 k.ref]), (3, .agg #[.int .i64 x.kind, .int .i64 x.p, .int .i64 x.q, .string x.str, .int .i64 x.ref])] (fun w0 => ?_)
 have hlen0 := hsm.len
 refine k_sr ?_
 refine s_box #[.int .i64 v.kind, .int .i64 v.p, .int .i64 v.q, .string v.str, .int .i64 v.ref] (fun g1 => ?_)
 refine s_box #[.int .i64 k.kind, .int .i64 k.p, .int .i64 k.q, .string k.str, .int .i64 k.ref] (fun g2 => ?_)
 refine s_box #[.int .i64 x.kind, .int .i64 x.p, .int .i64 x.q, .string x.str, .int .i64 x.ref] (fun g3 => ?_)
 refine s_alloc (.agg #[.int .i64 0, .int .i64 0, .int .i64 0, .int .i64 0, .string ByteArray.empty, .int .i64 0, .int .i64 0, .int .i64 0, .int .i64 0, .string ByteArray.empty, .int .i64 0, (.slice none 0 0), .int .i64 0, .string ByteArray.empty]) #[.int .i64 0, .int .i64 0, .int .i64 0, .int .i64 0, .string ByteArray.empty, .int .i64 0, .int .i64 0, .int .i64 0, .int .i64 0, .string ByteArray.empty, .int .i64 0, (.slice none 0 0), .int .i64 0, .string ByteArray.empty] (fun g4 => ?_)
 refine s_nr ?_
 refine sp (pB b 0) ?_
 refine s_lt (t_clo 24 [pB b 0] []) ?_
 refine sp (pB b 0) ?_
 refine s_lt (t_clo 29 [pB b 0] []) ?_
 refine s_alloc (.nilFunc) #[.nilFunc] (fun g5 => ?_)
 refine s_alloc (.nilFunc) #[.nilFunc] (fun g6 => ?_)
 refine s_store 1 #[.func (.func 24) #[pB b 0] #[]] ?_
 refine s_store 0 #[.func (.func 29) #[pB b 0] #[]] ?_
 refine s_nr ?_
 refine s_lt (t_clo 64 [] [pB g5 0, pB g2 0, pB g6 0, pB g3 0]) ?_
 refine sp (.func (.func 64) #[] #[pB g5 0, pB g2 0, pB g6 0, pB g3 0]) ?_
 refine s_nr ?_
 refine sp (pB b 0) ?_
 refine s_lt (t_loadA 5 #[.int .i64 v.kind, .int .i64 v.p, .int .i64 v.q, .string v.str, .int .i64 v.ref]) ?_
 refine sp (.func (.func 64) #[] #[pB g5 0, pB g2 0, pB g6 0, pB g3 0]) ?_
 refine s_lt (t_clo 66 [] [pB g2 0, pB g3 0]) ?_
 refine s_call [1, 3, 0, 1, 2] (chainA_s (k := k) (x := x) (st := st) hsm (by omega) v) ?_
 rintro _ _ ⟨av7, rfl, rfl⟩
 refine s_fact (fun H h => ((Acc.own (T := VlT) (L := (asg st k x 32 v).args) 0 rfl) H h).form) (fun hf8 => ?_)
 refine s_store (u := .agg #[.int .i64 ((asg st k x 32 v).kind), .int .i64 (((asg st k x 32 v).val).kind), .int .i64 (((asg st k x 32 v).val).p), .int .i64 (((asg st k x 32 v).val).q), .string (((asg st k x 32 v).val).str), .int .i64 (((asg st k x 32 v).val).ref), .int .i64 (((asg st k x 32 v).fn).kind), .int .i64 (((asg st k x 32 v).fn).p), .int .i64 (((asg st k x 32 v).fn).q), .string (((asg st k x 32 v).fn).str), .int .i64 (((asg st k x 32 v).fn).ref), av7, .int .i64 ((asg st k x 32 v).after), .string ((asg st k x 32 v).str)]) (m := 14) 6 #[.int .i64 ((asg st k x 32 v).kind), .int .i64 (((asg st k x 32 v).val).kind), .int .i64 (((asg st k x 32 v).val).p), .int .i64 (((asg st k x 32 v).val).q), .string (((asg st k x 32 v).val).str), .int .i64 (((asg st k x 32 v).val).ref), .int .i64 (((asg st k x 32 v).fn).kind), .int .i64 (((asg st k x 32 v).fn).p), .int .i64 (((asg st k x 32 v).fn).q), .string (((asg st k x 32 v).fn).str), .int .i64 (((asg st k x 32 v).fn).ref), av7, .int .i64 ((asg st k x 32 v).after), .string ((asg st k x 32 v).str)] ?_ (hm := by (obtain ⟨_, _, e⟩ := hf8; rw [e]; rfl)) (h1 := by (obtain ⟨_, _, e⟩ := hf8; rw [e]; rfl)) (ha' := by (obtain ⟨_, _, e⟩ := hf8; rw [e]; rfl))
 refine s_nt ?_
 refine k_ret ?_
 exact xs_fin [.agg #[.int .i64 ((asg st k x 32 v).kind), .int .i64 (((asg st k x 32 v).val).kind), .int .i64 (((asg st k x 32 v).val).p), .int .i64 (((asg st k x 32 v).val).q), .string (((asg st k x 32 v).val).str), .int .i64 (((asg st k x 32 v).val).ref), .int .i64 (((asg st k x 32 v).fn).kind), .int .i64 (((asg st k x 32 v).fn).p), .int .i64 (((asg st k x 32 v).fn).q), .string (((asg st k x 32 v).fn).str), .int .i64 (((asg st k x 32 v).fn).ref), av7, .int .i64 ((asg st k x 32 v).after), .string ((asg st k x 32 v).str)]] (own VlT av7 ((asg st k x 32 v).args) :: hpA b (asgS st k x 32 v) :: F) (SI.agg 8 51 6 SI.nil) (fun _ h => h.re [0, 4] [2, 2, 2, 2, 2, 2]) ⟨_, rfl, rfl⟩
end Go.Proofs.Ytplkkhpokodbmaa
