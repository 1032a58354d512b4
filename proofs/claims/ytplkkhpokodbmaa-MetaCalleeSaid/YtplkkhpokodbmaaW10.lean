/-
  Layer 15: what a call executes. Each law says its conditions.
-/
import Derived.Test.YtplkkhpokodbmaaW8
set_option linter.unusedSimpArgs false
set_option linter.unusedVariables false
set_option maxRecDepth 100000
set_option maxHeartbeats 2000000
namespace Go.Proofs.Ytplkkhpokodbmaa
open Go.Hp Go.J Go.S
open Go.Mem (Ty KTy blk elemAt pre suf blk_pre blk_suf aget aset strK aggDesc)
open Go.Mem (adel apos aget_aset aget_adel)
/-- What a call executes: the function, its arguments, the error. -/
def cal (st : Hst) : Nat → Vl → List Vl → Vl × List Vl × Int
  | 0, _, _ => (zVl, [], 15)
  | n + 1, f, l =>
    if (fnB f || decide (f.kind = 7)) = true then (if 200 < l.length then (zVl, [], 3) else (f, l, 0)) else
    if (hdl st f ⟨#[95, 95, 99, 97, 108, 108]⟩).kind = 0 then (zVl, [], 8) else cal st n (hdl st f ⟨#[95, 95, 99, 97, 108, 108]⟩) ([f] ++ l)
section
variable {st : Hst} {k : Nat} {f : Vl} {l : List Vl}
theorem cal_long (hk : k < 32) (h : (fnB f || decide (f.kind = 7)) = true) (hl : 200 < l.length) : cal st (32 - k) f l = (zVl, [], 3) := by rw [show 32 - k = (32 - (k + 1)) + 1 by omega, cal, if_pos h, if_pos hl]
theorem cal_ok (hk : k < 32) (h : (fnB f || decide (f.kind = 7)) = true) (hl : ¬ 200 < l.length) : cal st (32 - k) f l = (f, l, 0) := by rw [show 32 - k = (32 - (k + 1)) + 1 by omega, cal, if_pos h, if_neg hl]
theorem cal_none (hk : k < 32) (h : (fnB f || decide (f.kind = 7)) = false) (h2 : (hdl st f ⟨#[95, 95, 99, 97, 108, 108]⟩).kind = 0) : cal st (32 - k) f l = (zVl, [], 8) := by rw [show 32 - k = (32 - (k + 1)) + 1 by omega, cal, if_neg (by rw [h]; decide), if_pos h2]
theorem cal_step (hk : k < 32) (h : (fnB f || decide (f.kind = 7)) = false) (h2 : ¬ (hdl st f ⟨#[95, 95, 99, 97, 108, 108]⟩).kind = 0) : cal st (32 - (k + 1)) (hdl st f ⟨#[95, 95, 99, 97, 108, 108]⟩) ([f] ++ l) = cal st (32 - k) f l := by rw [show 32 - k = (32 - (k + 1)) + 1 by omega, cal, if_neg (by rw [h]; decide), if_neg h2]
theorem cal_end (hk : ¬ k < 32) : cal st (32 - k) f l = (zVl, [], 15) := by rw [show 32 - k = 0 by omega, cal]
end
theorem clone_s {Z : Zone} {F : List Asr} {av : Value} {A : List Vl} (hA : A.length ≤ 100000) : SF Try.prog 50 #[av] Z (own VlT av A :: F) fun r Bs => ∃ x, x = r ∧ Bs = own VlT x A :: own VlT av A :: F := by
 refine sf_enter Try.func50 8 [(0, av)] (fun w0 => ?_)
 refine k_fact (fun H h => fun hn => (nilS_spec ((Acc.own (T := VlT) (L := A) 0 rfl) H h) hn).2) (fun hnil => ?_)
 refine k_seq ?_
 refine k_reg ?_
 refine sp (.slice none 0 0) ?_
 refine s_nil ?_
 refine xs_then ?_
 refine k_seq ?_
 refine k_seq ?_
 refine k_reg ?_
 refine sp av ?_
 refine s_lt (t_nilS Try.underlying33 (.own 0)) ?_
 refine s_nil ?_
 refine xs_then ?_
 refine k_cond (nilS av) (fun c1 => ?_) (fun c1 => ?_)
 ·
  refine k_seq ?_
  refine k_reg ?_
  refine sp (.slice none 0 0) ?_
  refine s_nil ?_
  refine xs_then ?_
  refine k_ret ?_
  refine xs_ret ?_
  have hn := hnil c1
  exact xs_fin [.slice none 0 0] (own VlT (.slice none 0 0) A :: own VlT av A :: F) (SI.tmp 2 SI.nil) (fun _ h => by have h2 := Holds.nilS (T := VlT) h; rw [hn]; rw [hn] at h2; exact h2.re [0, 0] []) ⟨_, rfl, rfl⟩
 ·
  refine k_skip ?_
  refine xs_then ?_
  refine k_seq ?_
  refine k_reg ?_
  refine s_buildSlice (e := 26) [] #[] (fun g2 => ?_) (hb := by kernel_rfl)
  refine sp av ?_
  refine s_mem (fun _ h => Holds.slice 0 h VlT_ok []) ?_
  refine s_append (L := []) 0 VlT_ok Try.underlying33 (.own 1) (by show _ * 48 ≤ _; (try simp only [lnm]); omega) (by (try simp only [lnm]); omega) (fun v3 => ?_)
  rw [List.nil_append]
  refine sp v3 ?_
  refine s_nil ?_
  refine xs_then ?_
  refine k_ret ?_
  exact xs_fin [v3] (own VlT v3 A :: own VlT av A :: F) (SI.tmp 2 SI.nil) (fun _ h => h.re [0, 0] []) ⟨_, rfl, rfl⟩
theorem callee_s {Z : Zone} {F : List Asr} {b : Nat} {st : Hst} {av : Value} {A : List Vl} (hA : A.length ≤ 1000) {n : Nat} (hsm : HSm n st) (hn : n ≤ 300) (f : Vl) : SF Try.prog 16 #[.pointer (some ⟨b, 0, none⟩), f.v, av] Z (own VlT av A :: hpA b st :: F) fun r Bs => ∃ x, r = .tuple #[(cal st 32 f A).1.v, x, .int .i64 (cal st 32 f A).2.2] ∧ Bs = own VlT x (cal st 32 f A).2.1 :: own VlT av A :: hpA b st :: F := by
 refine sf_enter Try.func16 42 [(0, pB b 0), (1, .agg #[.int .i64 f.kind, .int .i64 f.p, .int .i64 f.q, .string f.str, .int .i64 f.ref]), (2, av)] (fun w0 => ?_)
 have hlen0 := hsm.len
 refine k_seq ?_
 refine k_reg ?_
 refine s_box #[.int .i64 f.kind, .int .i64 f.p, .int .i64 f.q, .string f.str, .int .i64 f.ref] (fun g1 => ?_)
 refine s_alloc (.agg #[.int .i64 0, .int .i64 0, .int .i64 0, .string ByteArray.empty, .int .i64 0]) #[.int .i64 0, .int .i64 0, .int .i64 0, .string ByteArray.empty, .int .i64 0] (fun g2 => ?_)
 refine sp (.slice none 0 0) ?_
 refine sp (.int .i64 0) ?_
 refine s_nil ?_
 refine xs_then ?_
 refine k_seq ?_
 refine k_reg ?_
 refine sp av ?_
 refine s_call [2] (clone_s (A := A) (by (try simp only [lnm]); omega)) ?_
 rintro _ _ ⟨cl3, rfl, rfl⟩
 refine sp cl3 ?_
 refine s_nil ?_
 refine xs_then ?_
 refine k_seq ?_
 refine k_seq ?_
 refine k_reg ?_
 refine sp (.int .i64 0) ?_
 refine s_nil ?_
 refine xs_then ?_
 refine k_block ?_
 refine k_loop (ι := Vl × List Vl × Value × Nat) (fun (q, l, lv, k) => k ≤ 32 ∧ cal st (32 - k) q l = cal st 32 f A ∧ l.length ≤ A.length + k) (fun (q, l, lv, k) => [(0, pB b 0), (4, pB g1 0), (6, pB g2 0), (9, lv), (13, .int .i64 (k : Int))]) (fun (q, l, lv, k) => own VlT lv l :: own VlT av A :: blkA g2 #[.int .i64 0, .int .i64 0, .int .i64 0, .string ByteArray.empty, .int .i64 0] 26 :: blkA g1 #[.int .i64 q.kind, .int .i64 q.p, .int .i64 q.q, .string q.str, .int .i64 q.ref] 26 :: hpA b st :: F) (fun (q, l, lv, k) => 32 - k) (f, A, cl3, 0) ⟨by omega, rfl, by omega⟩ (sub_of rfl ⟨⟨rfl, rfl⟩, ⟨⟨rfl, rfl⟩, ⟨⟨rfl, rfl⟩, ⟨⟨rfl, rfl⟩, ⟨⟨rfl, rfl⟩, trivial⟩⟩⟩⟩⟩) (fun _ h => h.re [0, 0, 0, 0, 0] []) ?_
 rintro ⟨q, l, lv, k⟩ hi4
 replace hi4 : k ≤ 32 ∧ cal st (32 - k) q l = cal st 32 f A ∧ l.length ≤ A.length + k := hi4
 show SK _ _ _ _ _ [(0, .pointer (some ⟨b, 0, none⟩)), (4, .pointer (some ⟨g1, 0, none⟩)), (6, .pointer (some ⟨g2, 0, none⟩)), (9, lv), (13, .int .i64 (k : Int))] _ (own VlT lv l :: own VlT av A :: blkA g2 #[.int .i64 0, .int .i64 0, .int .i64 0, .string ByteArray.empty, .int .i64 0] 26 :: blkA g1 #[.int .i64 q.kind, .int .i64 q.p, .int .i64 q.q, .string q.str, .int .i64 q.ref] 26 :: hpA b st :: F)
 refine k_seq ?_
 refine k_reg ?_
 refine s_lt t_cmp ?_
 refine s_nil ?_
 refine xs_then ?_
 refine k_seq ?_
 refine k_cond (decide ((k : Int) < 32)) (fun c5 => ?_) (fun c5 => ?_)
 ·
  have p6 := of_decide_eq_true c5
  refine k_skip ?_
  refine xs_then ?_
  refine k_seq ?_
  refine k_block ?_
  refine k_seq ?_
  refine k_cut (ι := Unit) (fun _ => True) (fun _ => [(0, pB b 0), (4, pB g1 0), (6, pB g2 0), (9, lv), (13, .int .i64 (k : Int)), (21, .bool ((fnB q) || (decide (q.kind = 7))))]) (fun _ => own VlT lv l :: own VlT av A :: blkA g2 #[.int .i64 0, .int .i64 0, .int .i64 0, .string ByteArray.empty, .int .i64 0] 26 :: blkA g1 #[.int .i64 q.kind, .int .i64 q.p, .int .i64 q.q, .string q.str, .int .i64 q.ref] 26 :: hpA b st :: F) ?_ (fun _ _ => ?_)
  ·
   refine k_reg ?_
   refine s_lt (t_loadA 3 #[.int .i64 q.kind, .int .i64 q.p, .int .i64 q.q, .string q.str, .int .i64 q.ref]) ?_
   refine s_vcall (fun _ h => fun_s q) ?_
   rintro _ rfl
   refine sp (.bool (fnB q)) ?_
   refine s_fork 17 (fnB q) (fun c7 => ?_) (fun c7 => ?_)
   ·
    refine s_skip ?_
    refine s_skip ?_
    refine s_skip ?_
    refine sp (.bool true) ?_
    refine s_nil ?_
    exact xs_cut () trivial (sub_of rfl ⟨⟨rfl, rfl⟩, ⟨⟨rfl, rfl⟩, ⟨⟨rfl, rfl⟩, ⟨⟨rfl, rfl⟩, ⟨⟨rfl, rfl⟩, ⟨⟨rfl, show Value.bool true = Value.bool ((fnB q) || (decide (q.kind = 7))) by first | (simp only [c7, bls]; done) | simp [c7]⟩, trivial⟩⟩⟩⟩⟩⟩) (fun _ h => h.re [0, 0, 0, 0, 0] [])
   ·
    refine sp (pB g1 0) ?_
    refine s_lt (t_load 3 (.int .i64 q.kind)) ?_
    refine s_lt t_cmp ?_
    refine sp (.bool (decide (q.kind = 7))) ?_
    refine s_nil ?_
    exact xs_cut () trivial (sub_of rfl ⟨⟨rfl, rfl⟩, ⟨⟨rfl, rfl⟩, ⟨⟨rfl, rfl⟩, ⟨⟨rfl, rfl⟩, ⟨⟨rfl, rfl⟩, ⟨⟨rfl, show Value.bool (decide (q.kind = 7)) = Value.bool ((fnB q) || (decide (q.kind = 7))) by first | (simp only [c7, bls]; done) | simp [c7]⟩, trivial⟩⟩⟩⟩⟩⟩) (fun _ h => h.re [0, 0, 0, 0, 0] [])
  ·
   refine k_cond ((fnB q) || (decide (q.kind = 7))) (fun c8 => ?_) (fun c8 => ?_)
   ·
    have p9 := c8
    simp only [Bool.and_eq_true, Bool.or_eq_true, Bool.and_eq_false_iff, Bool.or_eq_false_iff, Bool.not_eq_true', Bool.not_eq_false', decide_eq_true_eq, decide_eq_false_iff_not] at p9
    refine k_seq ?_
    refine k_seq ?_
    refine k_reg ?_
    refine sp lv ?_
    refine s_lt (t_len VlT_ok Try.underlying33 (.own 0)) ?_
    refine s_lt t_cmp ?_
    refine s_nil ?_
    refine xs_then ?_
    refine k_cond (decide ((200 : Int) < (l.length : Int))) (fun c10 => ?_) (fun c10 => ?_)
    ·
     have p11 := of_decide_eq_true c10
     refine k_seq ?_
     refine k_reg ?_
     refine s_lt (t_kern (.agg #[.int .i64 0, .int .i64 0, .int .i64 0, .string ByteArray.empty, .int .i64 0])) ?_
     refine s_store 2 #[.int .i64 0, .int .i64 0, .int .i64 0, .string ByteArray.empty, .int .i64 0] ?_
     refine sp (.slice none 0 0) ?_
     refine sp (.int .i64 3) ?_
     refine s_nil ?_
     refine xs_then ?_
     refine k_ret ?_
     refine xs_ret ?_
     refine xs_ret ?_
     refine xs_retBlock ?_
     refine xs_ret ?_
     refine xs_ret ?_
     refine xs_retBlock ?_
     refine xs_ret ?_
     have hc : cal st 32 f A = (zVl, [], 3) := hi4.2.1.symm.trans (cal_long (by omega) c8 (by omega))
     refine xs_mem (fun _ h => Holds.nilS (T := VlT) h) ?_
     exact xs_fin [.agg #[.int .i64 0, .int .i64 0, .int .i64 0, .string ByteArray.empty, .int .i64 0], (.slice none 0 0), .int .i64 3] (own VlT (.slice none 0 0) [] :: own VlT av A :: hpA b st :: F) (SI.agg 6 26 3 (SI.tmp 7 (SI.tmp 8 SI.nil))) (fun _ h => h.re [0, 1, 3] [3, 3, 3]) ⟨(.slice none 0 0), by rw [hc]; rfl, by rw [hc]⟩
    ·
     have p12 := of_decide_eq_false c10
     refine k_skip ?_
     refine xs_then ?_
     refine k_seq ?_
     refine k_reg ?_
     refine s_lt (t_loadA 3 #[.int .i64 q.kind, .int .i64 q.p, .int .i64 q.q, .string q.str, .int .i64 q.ref]) ?_
     refine sp lv ?_
     refine s_store 2 #[.int .i64 q.kind, .int .i64 q.p, .int .i64 q.q, .string q.str, .int .i64 q.ref] ?_
     refine sp lv ?_
     refine sp (.int .i64 0) ?_
     refine s_nil ?_
     refine xs_then ?_
     refine k_ret ?_
     refine xs_ret ?_
     refine xs_retBlock ?_
     refine xs_ret ?_
     refine xs_ret ?_
     refine xs_retBlock ?_
     refine xs_ret ?_
     have hc : cal st 32 f A = (q, l, 0) := hi4.2.1.symm.trans (cal_ok (by omega) c8 (by omega))
     exact xs_fin [.agg #[.int .i64 q.kind, .int .i64 q.p, .int .i64 q.q, .string q.str, .int .i64 q.ref], lv, .int .i64 0] (own VlT lv l :: own VlT av A :: hpA b st :: F) (SI.agg 6 26 2 (SI.tmp 7 (SI.tmp 8 SI.nil))) (fun _ h => h.re [0, 0, 2] [3, 3]) ⟨lv, by rw [hc]; rfl, by rw [hc]⟩
   ·
    obtain ⟨c13, c14⟩ := or_f c8
    have p15 := of_decide_eq_false c14
    refine k_skip ?_
    refine xs_then ?_
    refine k_seq ?_
    refine k_reg ?_
    refine sp (pB b 0) ?_
    refine s_lt (t_loadA 3 #[.int .i64 q.kind, .int .i64 q.p, .int .i64 q.q, .string q.str, .int .i64 q.ref]) ?_
    refine s_call [4] (hdl_s (st := st) hsm (by omega) q ⟨#[95, 95, 99, 97, 108, 108]⟩) ?_
    rintro _ _ ⟨rfl, rfl⟩
    refine s_alloc (.agg #[.int .i64 0, .int .i64 0, .int .i64 0, .string ByteArray.empty, .int .i64 0]) #[.int .i64 0, .int .i64 0, .int .i64 0, .string ByteArray.empty, .int .i64 0] (fun g16 => ?_)
    refine s_store 0 #[.int .i64 ((hdl st q ⟨#[95, 95, 99, 97, 108, 108]⟩).kind), .int .i64 ((hdl st q ⟨#[95, 95, 99, 97, 108, 108]⟩).p), .int .i64 ((hdl st q ⟨#[95, 95, 99, 97, 108, 108]⟩).q), .string ((hdl st q ⟨#[95, 95, 99, 97, 108, 108]⟩).str), .int .i64 ((hdl st q ⟨#[95, 95, 99, 97, 108, 108]⟩).ref)] ?_
    refine s_nil ?_
    refine xs_then ?_
    refine k_seq ?_
    refine k_seq ?_
    refine k_reg ?_
    refine sp (pB g16 0) ?_
    refine s_lt (t_load 0 (.int .i64 ((hdl st q ⟨#[95, 95, 99, 97, 108, 108]⟩).kind))) ?_
    refine s_lt t_cmp ?_
    refine s_nil ?_
    refine xs_then ?_
    refine k_cond (decide ((hdl st q ⟨#[95, 95, 99, 97, 108, 108]⟩).kind = 0)) (fun c17 => ?_) (fun c17 => ?_)
    ·
     have p18 := of_decide_eq_true c17
     refine k_seq ?_
     refine k_reg ?_
     refine s_lt (t_kern (.agg #[.int .i64 0, .int .i64 0, .int .i64 0, .string ByteArray.empty, .int .i64 0])) ?_
     refine s_store 4 #[.int .i64 0, .int .i64 0, .int .i64 0, .string ByteArray.empty, .int .i64 0] ?_
     refine sp (.slice none 0 0) ?_
     refine sp (.int .i64 8) ?_
     refine s_nil ?_
     refine xs_then ?_
     refine k_ret ?_
     refine xs_ret ?_
     refine xs_retBlock ?_
     refine xs_ret ?_
     refine xs_ret ?_
     refine xs_retBlock ?_
     refine xs_ret ?_
     have hc : cal st 32 f A = (zVl, [], 8) := hi4.2.1.symm.trans (cal_none (by omega) c8 (of_decide_eq_true c17))
     refine xs_mem (fun _ h => Holds.nilS (T := VlT) h) ?_
     exact xs_fin [.agg #[.int .i64 0, .int .i64 0, .int .i64 0, .string ByteArray.empty, .int .i64 0], (.slice none 0 0), .int .i64 8] (own VlT (.slice none 0 0) [] :: own VlT av A :: hpA b st :: F) (SI.agg 6 26 5 (SI.tmp 7 (SI.tmp 8 SI.nil))) (fun _ h => h.re [0, 3, 1] [3, 3, 3, 3]) ⟨(.slice none 0 0), by rw [hc]; rfl, by rw [hc]⟩
    ·
     have p19 := of_decide_eq_false c17
     refine k_skip ?_
     refine xs_then ?_
     refine k_seq ?_
     refine k_reg ?_
     refine s_lt (t_loadA 5 #[.int .i64 q.kind, .int .i64 q.p, .int .i64 q.q, .string q.str, .int .i64 q.ref]) ?_
     refine s_buildSlice (e := 26) [(0, .agg #[.int .i64 q.kind, .int .i64 q.p, .int .i64 q.q, .string q.str, .int .i64 q.ref])] #[.int .i64 q.kind, .int .i64 q.p, .int .i64 q.q, .string q.str, .int .i64 q.ref] (fun g20 => ?_) (hb := by kernel_rfl)
     refine sp lv ?_
     refine s_mem (fun _ h => Holds.slice 0 h VlT_ok [q]) ?_
     refine s_append (L := [q]) 0 VlT_ok Try.underlying33 (.own 3) (by show _ * 48 ≤ _; (try simp only [lnm]); omega) (by (try simp only [lnm]); omega) (fun v21 => ?_)
     refine sp v21 ?_
     refine s_nil ?_
     refine xs_then ?_
     refine k_reg ?_
     refine s_lt (t_loadA 1 #[.int .i64 ((hdl st q ⟨#[95, 95, 99, 97, 108, 108]⟩).kind), .int .i64 ((hdl st q ⟨#[95, 95, 99, 97, 108, 108]⟩).p), .int .i64 ((hdl st q ⟨#[95, 95, 99, 97, 108, 108]⟩).q), .string ((hdl st q ⟨#[95, 95, 99, 97, 108, 108]⟩).str), .int .i64 ((hdl st q ⟨#[95, 95, 99, 97, 108, 108]⟩).ref)]) ?_
     refine s_store 6 #[.int .i64 ((hdl st q ⟨#[95, 95, 99, 97, 108, 108]⟩).kind), .int .i64 ((hdl st q ⟨#[95, 95, 99, 97, 108, 108]⟩).p), .int .i64 ((hdl st q ⟨#[95, 95, 99, 97, 108, 108]⟩).q), .string ((hdl st q ⟨#[95, 95, 99, 97, 108, 108]⟩).str), .int .i64 ((hdl st q ⟨#[95, 95, 99, 97, 108, 108]⟩).ref)] ?_
     refine s_nil ?_
     refine xs_block ?_
     refine xs_then ?_
     refine k_reg ?_
     refine s_lt (t_add (k : Int) 1 (by (try simp only [lnm]); omega)) ?_
     refine sp (.int .i64 ((k : Int) + 1)) ?_
     refine s_nil ?_
     exact xs_round ((hdl st q ⟨#[95, 95, 99, 97, 108, 108]⟩), ([q] ++ l), v21, k + 1) (by show 32 - (k + 1) < 32 - k; omega) (by show k + 1 ≤ 32 ∧ _ ∧ _; exact ⟨by omega, (cal_step (by omega) c8 (of_decide_eq_false c17)).trans hi4.2.1, by have := hi4.2.2; simp only [lnm]; omega⟩) (sub_of rfl ⟨⟨rfl, rfl⟩, ⟨⟨rfl, rfl⟩, ⟨⟨rfl, rfl⟩, ⟨⟨rfl, rfl⟩, ⟨⟨rfl, rfl⟩, trivial⟩⟩⟩⟩⟩) (fun _ h => h.re [0, 3, 3, 3, 1] [5, 5])
 ·
  have p22 := of_decide_eq_false c5
  refine k_exit ?_
  refine xs_exit ?_
  refine xs_exit ?_
  refine xs_here ?_
  refine xs_then ?_
  refine k_seq ?_
  refine k_reg ?_
  refine s_lt (t_kern (.agg #[.int .i64 0, .int .i64 0, .int .i64 0, .string ByteArray.empty, .int .i64 0])) ?_
  refine s_store 2 #[.int .i64 0, .int .i64 0, .int .i64 0, .string ByteArray.empty, .int .i64 0] ?_
  refine sp (.slice none 0 0) ?_
  refine sp (.int .i64 15) ?_
  refine s_nil ?_
  refine xs_then ?_
  refine k_ret ?_
  have hc : cal st 32 f A = (zVl, [], 15) := hi4.2.1.symm.trans (cal_end (by omega))
  refine xs_mem (fun _ h => Holds.nilS (T := VlT) h) ?_
  exact xs_fin [.agg #[.int .i64 0, .int .i64 0, .int .i64 0, .string ByteArray.empty, .int .i64 0], (.slice none 0 0), .int .i64 15] (own VlT (.slice none 0 0) [] :: own VlT av A :: hpA b st :: F) (SI.agg 6 26 3 (SI.tmp 7 (SI.tmp 8 SI.nil))) (fun _ h => h.re [0, 1, 3] [3, 3, 3]) ⟨(.slice none 0 0), by rw [hc]; rfl, by rw [hc]⟩
theorem rcallee_s {Z : Zone} {F : List Asr} {b : Nat} {st : Hst} {av : Value} {A : List Vl} (hA : A.length ≤ 1000) {n : Nat} (hsm : HSm n st) (hn : n ≤ 300) (f : Vl) : SF Try.prog 17 #[.pointer (some ⟨b, 0, none⟩), f.v, av] Z (own VlT av A :: rhA b st :: F) fun r Bs => ∃ x, r = .tuple #[(cal st 32 f A).1.v, x, .int .i64 (cal st 32 f A).2.2] ∧ Bs = own VlT x (cal st 32 f A).2.1 :: own VlT av A :: rhA b st :: F := by
 refine sf_enter Try.func17 45 [(0, pB b 0), (1, .agg #[.int .i64 f.kind, .int .i64 f.p, .int .i64 f.q, .string f.str, .int .i64 f.ref]), (2, av)] (fun w0 => ?_)
 have hlen0 := hsm.len
 refine k_fact (fun H h => rh_inv (h.re [1] [])) (fun hi0 => ?_)
 refine k_seq ?_
 refine k_reg ?_
 refine s_box #[.int .i64 f.kind, .int .i64 f.p, .int .i64 f.q, .string f.str, .int .i64 f.ref] (fun g1 => ?_)
 refine s_alloc (.agg #[.int .i64 0, .int .i64 0, .int .i64 0, .string ByteArray.empty, .int .i64 0]) #[.int .i64 0, .int .i64 0, .int .i64 0, .string ByteArray.empty, .int .i64 0] (fun g2 => ?_)
 refine sp (.slice none 0 0) ?_
 refine sp (.int .i64 0) ?_
 refine s_nil ?_
 refine xs_then ?_
 refine k_seq ?_
 refine k_reg ?_
 refine s_buildSlice (e := 26) [] #[] (fun g3 => ?_) (hb := by kernel_rfl)
 refine sp av ?_
 refine s_mem (fun _ h => Holds.slice 0 h VlT_ok []) ?_
 refine s_append (L := []) 0 VlT_ok Try.underlying33 (.own 3) (by show _ * 48 ≤ _; (try simp only [lnm]); omega) (by (try simp only [lnm]); omega) (fun v4 => ?_)
 rw [List.nil_append]
 refine sp v4 ?_
 refine s_nil ?_
 refine xs_then ?_
 refine k_seq ?_
 refine k_seq ?_
 refine k_reg ?_
 refine sp (.int .i64 0) ?_
 refine s_nil ?_
 refine xs_then ?_
 refine k_block ?_
 refine k_loop (ι := Vl × List Vl × Value × Nat) (fun (q, l, lv, k) => k ≤ 32 ∧ cal st (32 - k) q l = cal st 32 f A ∧ l.length ≤ A.length + k) (fun (q, l, lv, k) => [(0, pB b 0), (4, pB g1 0), (6, pB g2 0), (9, lv), (10, .int .i64 (k : Int))]) (fun (q, l, lv, k) => own VlT lv l :: blkA g2 #[.int .i64 0, .int .i64 0, .int .i64 0, .string ByteArray.empty, .int .i64 0] 26 :: blkA g1 #[.int .i64 q.kind, .int .i64 q.p, .int .i64 q.q, .string q.str, .int .i64 q.ref] 26 :: own VlT av A :: rhA b st :: F) (fun (q, l, lv, k) => 32 - k) (f, A, v4, 0) ⟨by omega, rfl, by omega⟩ (sub_of rfl ⟨⟨rfl, rfl⟩, ⟨⟨rfl, rfl⟩, ⟨⟨rfl, rfl⟩, ⟨⟨rfl, rfl⟩, ⟨⟨rfl, rfl⟩, trivial⟩⟩⟩⟩⟩) (fun _ h => h.re [0, 0, 0, 0, 0] []) ?_
 rintro ⟨q, l, lv, k⟩ hi5
 replace hi5 : k ≤ 32 ∧ cal st (32 - k) q l = cal st 32 f A ∧ l.length ≤ A.length + k := hi5
 show SK _ _ _ _ _ [(0, .pointer (some ⟨b, 0, none⟩)), (4, .pointer (some ⟨g1, 0, none⟩)), (6, .pointer (some ⟨g2, 0, none⟩)), (9, lv), (10, .int .i64 (k : Int))] _ (own VlT lv l :: blkA g2 #[.int .i64 0, .int .i64 0, .int .i64 0, .string ByteArray.empty, .int .i64 0] 26 :: blkA g1 #[.int .i64 q.kind, .int .i64 q.p, .int .i64 q.q, .string q.str, .int .i64 q.ref] 26 :: own VlT av A :: rhA b st :: F)
 refine k_seq ?_
 refine k_seq ?_
 refine k_reg ?_
 refine sp (.int .i64 (k : Int)) ?_
 refine s_lt t_cmp ?_
 refine s_nil ?_
 refine xs_then ?_
 refine k_cond (decide ((k : Int) < 32)) (fun c6 => ?_) (fun c6 => ?_)
 ·
  have p7 := of_decide_eq_true c6
  refine k_skip ?_
  refine xs_then ?_
  refine k_seq ?_
  refine k_block ?_
  refine k_seq ?_
  refine k_cut (ι := Unit) (fun _ => True) (fun _ => [(0, pB b 0), (4, pB g1 0), (6, pB g2 0), (9, lv), (10, .int .i64 (k : Int)), (25, .bool ((fnB q) || (decide (q.kind = 7))))]) (fun _ => own VlT lv l :: blkA g2 #[.int .i64 0, .int .i64 0, .int .i64 0, .string ByteArray.empty, .int .i64 0] 26 :: blkA g1 #[.int .i64 q.kind, .int .i64 q.p, .int .i64 q.q, .string q.str, .int .i64 q.ref] 26 :: own VlT av A :: rhA b st :: F) ?_ (fun _ _ => ?_)
  ·
   refine k_reg ?_
   refine s_lt (t_loadA 2 #[.int .i64 q.kind, .int .i64 q.p, .int .i64 q.q, .string q.str, .int .i64 q.ref]) ?_
   refine s_vcall (fun _ h => rfun_s q) ?_
   rintro _ rfl
   refine sp (.bool (fnB q)) ?_
   refine s_fork 21 (fnB q) (fun c8 => ?_) (fun c8 => ?_)
   ·
    refine s_skip ?_
    refine s_skip ?_
    refine s_skip ?_
    refine sp (.bool true) ?_
    refine s_nil ?_
    exact xs_cut () trivial (sub_of rfl ⟨⟨rfl, rfl⟩, ⟨⟨rfl, rfl⟩, ⟨⟨rfl, rfl⟩, ⟨⟨rfl, rfl⟩, ⟨⟨rfl, rfl⟩, ⟨⟨rfl, show Value.bool true = Value.bool ((fnB q) || (decide (q.kind = 7))) by first | (simp only [c8, bls]; done) | simp [c8]⟩, trivial⟩⟩⟩⟩⟩⟩) (fun _ h => h.re [0, 0, 0, 0, 0] [])
   ·
    refine sp (pB g1 0) ?_
    refine s_lt (t_load 2 (.int .i64 q.kind)) ?_
    refine s_lt t_cmp ?_
    refine sp (.bool (decide (q.kind = 7))) ?_
    refine s_nil ?_
    exact xs_cut () trivial (sub_of rfl ⟨⟨rfl, rfl⟩, ⟨⟨rfl, rfl⟩, ⟨⟨rfl, rfl⟩, ⟨⟨rfl, rfl⟩, ⟨⟨rfl, rfl⟩, ⟨⟨rfl, show Value.bool (decide (q.kind = 7)) = Value.bool ((fnB q) || (decide (q.kind = 7))) by first | (simp only [c8, bls]; done) | simp [c8]⟩, trivial⟩⟩⟩⟩⟩⟩) (fun _ h => h.re [0, 0, 0, 0, 0] [])
  ·
   refine k_cond ((fnB q) || (decide (q.kind = 7))) (fun c9 => ?_) (fun c9 => ?_)
   ·
    have p10 := c9
    simp only [Bool.and_eq_true, Bool.or_eq_true, Bool.and_eq_false_iff, Bool.or_eq_false_iff, Bool.not_eq_true', Bool.not_eq_false', decide_eq_true_eq, decide_eq_false_iff_not] at p10
    refine k_seq ?_
    refine k_seq ?_
    refine k_reg ?_
    refine sp lv ?_
    refine s_lt (t_len VlT_ok Try.underlying33 (.own 0)) ?_
    refine s_lt t_cmp ?_
    refine s_nil ?_
    refine xs_then ?_
    refine k_cond (decide ((200 : Int) < (l.length : Int))) (fun c11 => ?_) (fun c11 => ?_)
    ·
     have p12 := of_decide_eq_true c11
     refine k_seq ?_
     refine k_reg ?_
     refine s_lt (t_kern (.agg #[.int .i64 0, .int .i64 0, .int .i64 0, .string ByteArray.empty, .int .i64 0])) ?_
     refine s_store 1 #[.int .i64 0, .int .i64 0, .int .i64 0, .string ByteArray.empty, .int .i64 0] ?_
     refine sp (.slice none 0 0) ?_
     refine sp (.int .i64 3) ?_
     refine s_nil ?_
     refine xs_then ?_
     refine k_ret ?_
     refine xs_ret ?_
     refine xs_ret ?_
     refine xs_retBlock ?_
     refine xs_ret ?_
     refine xs_ret ?_
     refine xs_retBlock ?_
     refine xs_ret ?_
     have hc : cal st 32 f A = (zVl, [], 3) := hi5.2.1.symm.trans (cal_long (by omega) c9 (by omega))
     refine xs_mem (fun _ h => Holds.nilS (T := VlT) h) ?_
     exact xs_fin [.agg #[.int .i64 0, .int .i64 0, .int .i64 0, .string ByteArray.empty, .int .i64 0], (.slice none 0 0), .int .i64 3] (own VlT (.slice none 0 0) [] :: own VlT av A :: rhA b st :: F) (SI.agg 6 26 2 (SI.tmp 7 (SI.tmp 8 SI.nil))) (fun _ h => h.re [0, 3, 3] [3, 3, 3]) ⟨(.slice none 0 0), by rw [hc]; rfl, by rw [hc]⟩
    ·
     have p13 := of_decide_eq_false c11
     refine k_skip ?_
     refine xs_then ?_
     refine k_seq ?_
     refine k_reg ?_
     refine s_lt (t_loadA 2 #[.int .i64 q.kind, .int .i64 q.p, .int .i64 q.q, .string q.str, .int .i64 q.ref]) ?_
     refine sp lv ?_
     refine s_store 1 #[.int .i64 q.kind, .int .i64 q.p, .int .i64 q.q, .string q.str, .int .i64 q.ref] ?_
     refine sp lv ?_
     refine sp (.int .i64 0) ?_
     refine s_nil ?_
     refine xs_then ?_
     refine k_ret ?_
     refine xs_ret ?_
     refine xs_retBlock ?_
     refine xs_ret ?_
     refine xs_ret ?_
     refine xs_retBlock ?_
     refine xs_ret ?_
     have hc : cal st 32 f A = (q, l, 0) := hi5.2.1.symm.trans (cal_ok (by omega) c9 (by omega))
     exact xs_fin [.agg #[.int .i64 q.kind, .int .i64 q.p, .int .i64 q.q, .string q.str, .int .i64 q.ref], lv, .int .i64 0] (own VlT lv l :: own VlT av A :: rhA b st :: F) (SI.agg 6 26 1 (SI.tmp 7 (SI.tmp 8 SI.nil))) (fun _ h => h.re [0, 2, 2] [3, 3]) ⟨lv, by rw [hc]; rfl, by rw [hc]⟩
   ·
    obtain ⟨c14, c15⟩ := or_f c9
    have p16 := of_decide_eq_false c15
    refine k_skip ?_
    refine xs_then ?_
    refine k_seq ?_
    refine k_reg ?_
    refine sp (pB b 0) ?_
    refine s_lt (t_loadA 2 #[.int .i64 q.kind, .int .i64 q.p, .int .i64 q.q, .string q.str, .int .i64 q.ref]) ?_
    refine s_call [4] (rhdl_s (st := st) hsm (by omega) q ⟨#[95, 95, 99, 97, 108, 108]⟩) ?_
    rintro _ _ ⟨rfl, rfl⟩
    refine s_alloc (.agg #[.int .i64 0, .int .i64 0, .int .i64 0, .string ByteArray.empty, .int .i64 0]) #[.int .i64 0, .int .i64 0, .int .i64 0, .string ByteArray.empty, .int .i64 0] (fun g17 => ?_)
    refine s_store 0 #[.int .i64 ((hdl st q ⟨#[95, 95, 99, 97, 108, 108]⟩).kind), .int .i64 ((hdl st q ⟨#[95, 95, 99, 97, 108, 108]⟩).p), .int .i64 ((hdl st q ⟨#[95, 95, 99, 97, 108, 108]⟩).q), .string ((hdl st q ⟨#[95, 95, 99, 97, 108, 108]⟩).str), .int .i64 ((hdl st q ⟨#[95, 95, 99, 97, 108, 108]⟩).ref)] ?_
    refine s_nil ?_
    refine xs_then ?_
    refine k_seq ?_
    refine k_seq ?_
    refine k_reg ?_
    refine sp (pB g17 0) ?_
    refine s_lt (t_load 0 (.int .i64 ((hdl st q ⟨#[95, 95, 99, 97, 108, 108]⟩).kind))) ?_
    refine s_lt t_cmp ?_
    refine s_nil ?_
    refine xs_then ?_
    refine k_cond (decide ((hdl st q ⟨#[95, 95, 99, 97, 108, 108]⟩).kind = 0)) (fun c18 => ?_) (fun c18 => ?_)
    ·
     have p19 := of_decide_eq_true c18
     refine k_seq ?_
     refine k_reg ?_
     refine s_lt (t_kern (.agg #[.int .i64 0, .int .i64 0, .int .i64 0, .string ByteArray.empty, .int .i64 0])) ?_
     refine s_store 3 #[.int .i64 0, .int .i64 0, .int .i64 0, .string ByteArray.empty, .int .i64 0] ?_
     refine sp (.slice none 0 0) ?_
     refine sp (.int .i64 8) ?_
     refine s_nil ?_
     refine xs_then ?_
     refine k_ret ?_
     refine xs_ret ?_
     refine xs_retBlock ?_
     refine xs_ret ?_
     refine xs_ret ?_
     refine xs_retBlock ?_
     refine xs_ret ?_
     have hc : cal st 32 f A = (zVl, [], 8) := hi5.2.1.symm.trans (cal_none (by omega) c9 (of_decide_eq_true c18))
     refine xs_mem (fun _ h => Holds.nilS (T := VlT) h) ?_
     exact xs_fin [.agg #[.int .i64 0, .int .i64 0, .int .i64 0, .string ByteArray.empty, .int .i64 0], (.slice none 0 0), .int .i64 8] (own VlT (.slice none 0 0) [] :: own VlT av A :: rhA b st :: F) (SI.agg 6 26 4 (SI.tmp 7 (SI.tmp 8 SI.nil))) (fun _ h => h.re [0, 5, 1] [3, 3, 3, 3]) ⟨(.slice none 0 0), by rw [hc]; rfl, by rw [hc]⟩
    ·
     have p20 := of_decide_eq_false c18
     refine k_skip ?_
     refine xs_then ?_
     refine k_seq ?_
     refine k_reg ?_
     refine s_lt (t_loadA 4 #[.int .i64 q.kind, .int .i64 q.p, .int .i64 q.q, .string q.str, .int .i64 q.ref]) ?_
     refine s_buildSlice (e := 26) [(0, .agg #[.int .i64 q.kind, .int .i64 q.p, .int .i64 q.q, .string q.str, .int .i64 q.ref])] #[.int .i64 q.kind, .int .i64 q.p, .int .i64 q.q, .string q.str, .int .i64 q.ref] (fun g21 => ?_) (hb := by kernel_rfl)
     refine sp lv ?_
     refine s_mem (fun _ h => Holds.slice 0 h VlT_ok [q]) ?_
     refine s_append (L := [q]) 0 VlT_ok Try.underlying33 (.own 3) (by show _ * 48 ≤ _; (try simp only [lnm]); omega) (by (try simp only [lnm]); omega) (fun v22 => ?_)
     refine sp v22 ?_
     refine s_nil ?_
     refine xs_then ?_
     refine k_reg ?_
     refine s_lt (t_loadA 1 #[.int .i64 ((hdl st q ⟨#[95, 95, 99, 97, 108, 108]⟩).kind), .int .i64 ((hdl st q ⟨#[95, 95, 99, 97, 108, 108]⟩).p), .int .i64 ((hdl st q ⟨#[95, 95, 99, 97, 108, 108]⟩).q), .string ((hdl st q ⟨#[95, 95, 99, 97, 108, 108]⟩).str), .int .i64 ((hdl st q ⟨#[95, 95, 99, 97, 108, 108]⟩).ref)]) ?_
     refine s_store 5 #[.int .i64 ((hdl st q ⟨#[95, 95, 99, 97, 108, 108]⟩).kind), .int .i64 ((hdl st q ⟨#[95, 95, 99, 97, 108, 108]⟩).p), .int .i64 ((hdl st q ⟨#[95, 95, 99, 97, 108, 108]⟩).q), .string ((hdl st q ⟨#[95, 95, 99, 97, 108, 108]⟩).str), .int .i64 ((hdl st q ⟨#[95, 95, 99, 97, 108, 108]⟩).ref)] ?_
     refine s_nil ?_
     refine xs_block ?_
     refine xs_then ?_
     refine k_reg ?_
     refine sp (.int .i64 (k : Int)) ?_
     refine s_lt (t_add (k : Int) 1 (by (try simp only [lnm]); omega)) ?_
     refine sp (.int .i64 ((k : Int) + 1)) ?_
     refine s_nil ?_
     exact xs_round ((hdl st q ⟨#[95, 95, 99, 97, 108, 108]⟩), ([q] ++ l), v22, k + 1) (by show 32 - (k + 1) < 32 - k; omega) (by show k + 1 ≤ 32 ∧ _ ∧ _; exact ⟨by omega, (cal_step (by omega) c9 (of_decide_eq_false c18)).trans hi5.2.1, by have := hi5.2.2; simp only [lnm]; omega⟩) (sub_of rfl ⟨⟨rfl, rfl⟩, ⟨⟨rfl, rfl⟩, ⟨⟨rfl, rfl⟩, ⟨⟨rfl, rfl⟩, ⟨⟨rfl, rfl⟩, trivial⟩⟩⟩⟩⟩) (fun _ h => h.re [0, 3, 3, 3, 1] [5, 5])
 ·
  have p23 := of_decide_eq_false c6
  refine k_exit ?_
  refine xs_exit ?_
  refine xs_exit ?_
  refine xs_here ?_
  refine xs_then ?_
  refine k_seq ?_
  refine k_reg ?_
  refine s_lt (t_kern (.agg #[.int .i64 0, .int .i64 0, .int .i64 0, .string ByteArray.empty, .int .i64 0])) ?_
  refine s_store 1 #[.int .i64 0, .int .i64 0, .int .i64 0, .string ByteArray.empty, .int .i64 0] ?_
  refine sp (.slice none 0 0) ?_
  refine sp (.int .i64 15) ?_
  refine s_nil ?_
  refine xs_then ?_
  refine k_ret ?_
  have hc : cal st 32 f A = (zVl, [], 15) := hi5.2.1.symm.trans (cal_end (by omega))
  refine xs_mem (fun _ h => Holds.nilS (T := VlT) h) ?_
  exact xs_fin [.agg #[.int .i64 0, .int .i64 0, .int .i64 0, .string ByteArray.empty, .int .i64 0], (.slice none 0 0), .int .i64 15] (own VlT (.slice none 0 0) [] :: own VlT av A :: rhA b st :: F) (SI.agg 6 26 2 (SI.tmp 7 (SI.tmp 8 SI.nil))) (fun _ h => h.re [0, 3, 3] [3, 3, 3]) ⟨(.slice none 0 0), by rw [hc]; rfl, by rw [hc]⟩
theorem values_s {Z : Zone} {F : List Asr} {av bv : Value} {L : List Vl} : SF Try.prog 18 #[av, bv] Z (own VlT av L :: own VlT bv L :: F) fun r Bs => r = .bool true ∧ Bs = own VlT av L :: own VlT bv L :: F := by
 refine sf_enter Try.func18 26 [(0, av), (1, bv)] (fun w0 => ?_)
 refine k_fact (fun H h => ((Acc.own (T := VlT) (L := L) 0 rfl) H h).len_le) (fun lA => ?_)
 refine k_seq ?_
 refine k_reg ?_
 refine sp (.bool false) ?_
 refine s_nil ?_
 refine xs_then ?_
 refine k_seq ?_
 refine k_seq ?_
 refine k_reg ?_
 refine sp av ?_
 refine s_lt (t_len VlT_ok Try.underlying33 (.own 0)) ?_
 refine sp bv ?_
 refine s_lt (t_len VlT_ok Try.underlying33 (.own 1)) ?_
 refine s_lt (Lt.to t_cmp (congrArg Value.bool (decide_eq_false (fun h => h rfl) : (decide ((L.length : Int) ≠ (L.length : Int))) = false))) ?_
 refine s_nil ?_
 refine xs_then ?_
 refine k_false ?_
 refine k_skip ?_
 refine xs_then ?_
 refine k_seq ?_
 refine k_seq ?_
 refine k_reg ?_
 refine sp (.int .i64 0) ?_
 refine s_nil ?_
 refine xs_then ?_
 refine k_block ?_
 refine k_loop (ι := Nat) (fun i => i ≤ L.length) (fun i => [(0, av), (1, bv), (5, .int .i64 (i : Int))]) (fun i => own VlT av L :: own VlT bv L :: F) (fun i => L.length - i) 0 (by omega) (sub_of rfl ⟨⟨rfl, rfl⟩, ⟨⟨rfl, rfl⟩, ⟨⟨rfl, rfl⟩, trivial⟩⟩⟩) (fun _ h => h.re [0, 0] []) ?_
 rintro i hi1
 show SK _ _ _ _ _ [(0, av), (1, bv), (5, .int .i64 (i : Int))] _ (own VlT av L :: own VlT bv L :: F)
 refine k_seq ?_
 refine k_seq ?_
 refine k_reg ?_
 refine sp (.int .i64 (i : Int)) ?_
 refine sp av ?_
 refine s_lt (t_len VlT_ok Try.underlying33 (.own 0)) ?_
 refine s_lt t_cmp ?_
 refine s_nil ?_
 refine xs_then ?_
 refine k_cond (decide ((i : Int) < (L.length : Int))) (fun c2 => ?_) (fun c2 => ?_)
 ·
  have p3 := of_decide_eq_true c2
  refine k_skip ?_
  refine xs_then ?_
  refine k_seq ?_
  refine k_block ?_
  refine k_seq ?_
  refine k_draw ?_
  refine sp av ?_
  refine sp (.int .i64 (i : Int)) ?_
  refine s_lt (t_index VlT_ok Try.underlying33 (.own 0) (i : Int) i (by omega) (by (try simp only [lnm]); omega) (by omega)) ?_
  obtain ⟨y4, hy5⟩ : ∃ y, L[i]? = some y := ⟨_, List.getElem?_eq_getElem (by (try simp only [lnm]); omega)⟩
  refine s_lt (t_loadE VlT_ok (.own 0) hy5) ?_
  refine sp bv ?_
  refine sp (.int .i64 (i : Int)) ?_
  refine s_lt (t_index VlT_ok Try.underlying33 (.own 1) (i : Int) i (by omega) (by (try simp only [lnm]); omega) (by omega)) ?_
  refine s_lt (t_loadE VlT_ok (.own 1) hy5) ?_
  refine s_lt (Lt.to (t_eqS (fun w => (eqVlT y4 y4 w).2)) (congrArg Value.bool ((congrArg Bool.not (decide_eq_true rfl : (decide (y4 = y4)) = true)).trans rfl : (!(decide (y4 = y4))) = false))) ?_
  refine s_nil ?_
  refine x_dynS (fun _ h => by kernel_rfl) ?_
  refine xs_then ?_
  refine k_false ?_
  refine k_skip ?_
  refine xs_block ?_
  refine xs_then ?_
  refine k_reg ?_
  refine sp (.int .i64 (i : Int)) ?_
  refine s_lt (t_add (i : Int) 1 (by (try simp only [lnm]); omega)) ?_
  refine sp (.int .i64 ((i : Int) + 1)) ?_
  refine s_nil ?_
  exact xs_round (i + 1) (by omega) (by omega) (sub_of rfl ⟨⟨rfl, rfl⟩, ⟨⟨rfl, rfl⟩, ⟨⟨rfl, rfl⟩, trivial⟩⟩⟩) (fun _ h => h.re [0, 0] [])
 ·
  have p6 := of_decide_eq_false c2
  refine k_exit ?_
  refine xs_exit ?_
  refine xs_exit ?_
  refine xs_here ?_
  refine xs_then ?_
  refine k_seq ?_
  refine k_reg ?_
  refine sp (.bool true) ?_
  refine s_nil ?_
  refine xs_then ?_
  refine k_ret ?_
  exact xs_fin [.bool true] (own VlT av L :: own VlT bv L :: F) (SI.tmp 4 SI.nil) (fun _ h => h.re [0, 0] []) ⟨rfl, rfl⟩
theorem callee_w {Z : Zone} {lv : Value} {l : List Opc} (hl0 : Kn Z OpT lv l) (v : Spc) {av : Value} {A : List Spc} (hA0 : Kn Z SpT av A) : SF Try.prog 4 #[lv, v.w, av] Z [] fun r Bs => r = .bool true ∧ Bs = [] := by
 refine sf_enter Try.func4 92 [(0, lv), (1, .agg #[.int .i64 v.v.kind, .int .i64 v.v.p, .int .i64 v.v.q, .string v.v.str, .int .i64 v.v.ref, .int .i64 v.obj]), (2, av)] (fun w0 => ?_)
 refine k_fact (fun H h => (hA0.get h).len_le) (fun lA => ?_)
 refine k_seq ?_
 refine k_reg ?_
 refine s_box #[.int .i64 v.v.kind, .int .i64 v.v.p, .int .i64 v.v.q, .string v.v.str, .int .i64 v.v.ref, .int .i64 v.obj] (fun g1 => ?_)
 refine sp (.bool false) ?_
 refine s_nil ?_
 refine xs_then ?_
 refine k_seq ?_
 refine k_seq ?_
 refine k_reg ?_
 refine sp lv ?_
 refine s_lt (t_loadA 0 #[.int .i64 v.v.kind, .int .i64 v.v.p, .int .i64 v.v.q, .string v.v.str, .int .i64 v.v.ref, .int .i64 v.obj]) ?_
 refine s_buildSlice (e := 28) [(0, .agg #[.int .i64 v.v.kind, .int .i64 v.v.p, .int .i64 v.v.q, .string v.v.str, .int .i64 v.v.ref, .int .i64 v.obj])] #[.int .i64 v.v.kind, .int .i64 v.v.p, .int .i64 v.v.q, .string v.v.str, .int .i64 v.v.ref, .int .i64 v.obj] (fun g2 => ?_) (hb := by kernel_rfl)
 refine s_mem (fun _ h => Holds.slice 0 h SpT_ok [v]) ?_
 refine s_call [0] (large_s (M := [v]) hl0 (by (try simp only [lnm]); omega)) ?_
 rintro _ _ ⟨lg3, rfl, hlg4, rfl⟩
 refine sp (.bool lg3) ?_
 refine s_fork 21 lg3 (fun c5 => ?_) (fun c5 => ?_)
 ·
  refine s_skip ?_
  refine s_skip ?_
  refine sp (.bool true) ?_
  refine sp (.bool true) ?_
  refine s_skip ?_
  refine s_skip ?_
  refine s_skip ?_
  refine sp (.bool true) ?_
  refine s_nil ?_
  refine xs_then ?_
  refine k_true ?_
  refine k_seq ?_
  refine k_reg ?_
  refine s_vcall (fun _ h => lives_s) ?_
  rintro _ rfl
  refine sp (.bool true) ?_
  refine s_nil ?_
  refine xs_then ?_
  refine k_ret ?_
  refine xs_ret ?_
  exact xs_fin [.bool true] [] (SI.tmp 6 SI.nil) (fun _ h => h.re [] [0]) ⟨rfl, rfl⟩
 ·
  refine sp av ?_
  refine s_pcall (fun _ h => large0_s (hA0.up h) (by (try simp only [lnm]); omega)) ?_
  rintro _ _ ⟨lg6, rfl, hlg7, rfl⟩
  refine sp (.bool lg6) ?_
  refine sp (.bool lg6) ?_
  refine s_fork 25 lg6 (fun c8 => ?_) (fun c8 => ?_)
  ·
   refine s_skip ?_
   refine s_skip ?_
   refine s_skip ?_
   refine sp (.bool true) ?_
   refine s_nil ?_
   refine xs_then ?_
   refine k_true ?_
   refine k_seq ?_
   refine k_reg ?_
   refine s_vcall (fun _ h => lives_s) ?_
   rintro _ rfl
   refine sp (.bool true) ?_
   refine s_nil ?_
   refine xs_then ?_
   refine k_ret ?_
   refine xs_ret ?_
   exact xs_fin [.bool true] [] (SI.tmp 6 SI.nil) (fun _ h => h.re [] [0]) ⟨rfl, rfl⟩
  ·
   refine sp av ?_
   refine s_lt (t_len SpT_ok Try.underlying42 (.zn hA0)) ?_
   refine s_lt t_cmp ?_
   refine sp (.bool (decide ((250 : Int) < (A.length : Int)))) ?_
   refine s_nil ?_
   refine xs_then ?_
   refine k_cond (decide ((250 : Int) < (A.length : Int))) (fun c9 => ?_) (fun c9 => ?_)
   ·
    have p10 := of_decide_eq_true c9
    refine k_seq ?_
    refine k_reg ?_
    refine s_vcall (fun _ h => lives_s) ?_
    rintro _ rfl
    refine sp (.bool true) ?_
    refine s_nil ?_
    refine xs_then ?_
    refine k_ret ?_
    refine xs_ret ?_
    exact xs_fin [.bool true] [] (SI.tmp 6 SI.nil) (fun _ h => h.re [] [0]) ⟨rfl, rfl⟩
   ·
    have p11 := of_decide_eq_false c9
    refine k_skip ?_
    refine xs_then ?_
    refine k_seq ?_
    refine k_reg ?_
    refine sp lv ?_
    refine s_call [] (made_s hl0) ?_
    rintro _ _ ⟨hb12, gb13, lx14, rfl, rfl⟩
    refine s_fact (fun H h => ((Acc.own (T := VlT) (L := (made l).2) 2 rfl) H h).form) (fun hf15 => ?_)
    obtain ⟨hinv, hsm, hll⟩ := made_good l
    refine sp (.tuple #[.agg #[pB hb12 0, pB gb13 0, lx14], .bool true]) ?_
    refine sp (.agg #[pB hb12 0, pB gb13 0, lx14]) ?_
    refine sp (.bool true) ?_
    refine s_alloc (.agg #[.pointer none, .pointer none, (.slice none 0 0)]) #[.pointer none, .pointer none, (.slice none 0 0)] (fun g16 => ?_)
    refine s_store (u := .agg #[pB hb12 0, pB gb13 0, lx14]) (m := 3) 0 #[pB hb12 0, pB gb13 0, lx14] ?_ (hm := by (obtain ⟨_, _, e⟩ := hf15; rw [e]; rfl)) (h1 := by (obtain ⟨_, _, e⟩ := hf15; rw [e]; rfl)) (ha' := by (obtain ⟨_, _, e⟩ := hf15; rw [e]; rfl))
    refine sp (.bool true) ?_
    refine s_nil ?_
    refine xs_then ?_
    refine k_seq ?_
    refine k_reg ?_
    refine sp (.slice none 0 0) ?_
    refine s_nil ?_
    refine xs_then ?_
    refine k_seq ?_
    refine k_seq ?_
    refine k_reg ?_
    refine sp (.int .i64 0) ?_
    refine s_nil ?_
    refine xs_then ?_
    refine k_block ?_
    refine k_mem (fun _ h => Holds.nilS (T := VlT) h) ?_
    refine k_loop (ι := Value × List Vl × Nat) (fun (lw, L, i) => i ≤ A.length ∧ L.length ≤ i) (fun (lw, L, i) => [(2, av), (4, pB g1 0), (7, pB g16 0), (8, .bool true), (9, lw), (10, .int .i64 (i : Int))]) (fun (lw, L, i) => [own VlT lw L, blkA g16 #[pB hb12 0, pB gb13 0, lx14] 35, hpA hb12 ((made l).1), rhA gb13 ((made l).1), own VlT lx14 ((made l).2), blkA g1 #[.int .i64 v.v.kind, .int .i64 v.v.p, .int .i64 v.v.q, .string v.v.str, .int .i64 v.v.ref, .int .i64 v.obj] 28]) (fun (lw, L, i) => A.length - i) (.slice none 0 0, [], 0) ⟨by omega, by simp⟩ (sub_of rfl ⟨⟨rfl, rfl⟩, ⟨⟨rfl, rfl⟩, ⟨⟨rfl, rfl⟩, ⟨⟨rfl, rfl⟩, ⟨⟨rfl, rfl⟩, ⟨⟨rfl, rfl⟩, trivial⟩⟩⟩⟩⟩⟩) (fun _ h => h.re [0, 0, 0, 0, 0, 0] []) ?_
    rintro ⟨lw, L, i⟩ hi17
    replace hi17 : i ≤ A.length ∧ L.length ≤ i := hi17
    show SK _ _ _ _ _ [(2, av), (4, .pointer (some ⟨g1, 0, none⟩)), (7, .pointer (some ⟨g16, 0, none⟩)), (8, .bool true), (9, lw), (10, .int .i64 (i : Int))] _ [own VlT lw L, blkA g16 #[.pointer (some ⟨hb12, 0, none⟩), .pointer (some ⟨gb13, 0, none⟩), lx14] 35, hpA hb12 ((made l).1), rhA gb13 ((made l).1), own VlT lx14 ((made l).2), blkA g1 #[.int .i64 v.v.kind, .int .i64 v.v.p, .int .i64 v.v.q, .string v.v.str, .int .i64 v.v.ref, .int .i64 v.obj] 28]
    refine k_seq ?_
    refine k_seq ?_
    refine k_reg ?_
    refine sp (.int .i64 (i : Int)) ?_
    refine sp av ?_
    refine s_lt (t_len SpT_ok Try.underlying42 (.zn hA0)) ?_
    refine s_lt t_cmp ?_
    refine s_nil ?_
    refine xs_then ?_
    refine k_cond (decide ((i : Int) < (A.length : Int))) (fun c18 => ?_) (fun c18 => ?_)
    ·
     have p19 := of_decide_eq_true c18
     refine k_skip ?_
     refine xs_then ?_
     refine k_seq ?_
     refine k_block ?_
     refine k_draw ?_
     refine sp lw ?_
     refine s_lt (t_loadA 1 #[pB hb12 0, pB gb13 0, lx14]) ?_
     refine sp av ?_
     refine sp (.int .i64 (i : Int)) ?_
     refine s_lt (t_index SpT_ok Try.underlying42 (.zn hA0) (i : Int) i (by omega) (by (try simp only [lnm]); omega) (by omega)) ?_
     obtain ⟨y20, hy21⟩ : ∃ y, A[i]? = some y := ⟨_, List.getElem?_eq_getElem (by (try simp only [lnm]); omega)⟩
     refine s_lt (t_loadE SpT_ok (.zn hA0) hy21) ?_
     refine s_call [4] (of_s (L := (made l).2) (by (try simp only [lnm]); omega) y20) ?_
     rintro _ _ ⟨rfl, rfl⟩
     refine s_buildSlice (e := 26) [(0, .agg #[.int .i64 ((ofS ((made l).2) y20).kind), .int .i64 ((ofS ((made l).2) y20).p), .int .i64 ((ofS ((made l).2) y20).q), .string ((ofS ((made l).2) y20).str), .int .i64 ((ofS ((made l).2) y20).ref)])] #[.int .i64 ((ofS ((made l).2) y20).kind), .int .i64 ((ofS ((made l).2) y20).p), .int .i64 ((ofS ((made l).2) y20).q), .string ((ofS ((made l).2) y20).str), .int .i64 ((ofS ((made l).2) y20).ref)] (fun g22 => ?_) (hb := by kernel_rfl)
     refine s_append (L := L) 2 VlT_ok Try.underlying33 (.lit 0 VlT_ok [(ofS ((made l).2) y20)]) (by show _ * 48 ≤ _; (try simp only [lnm]); omega) (by (try simp only [lnm]); omega) (fun v23 => ?_)
     refine sp v23 ?_
     refine s_nil ?_
     refine x_dynS (fun _ h => by kernel_rfl) ?_
     refine xs_block ?_
     refine xs_then ?_
     refine k_reg ?_
     refine sp (.int .i64 (i : Int)) ?_
     refine s_lt (t_add (i : Int) 1 (by (try simp only [lnm]); omega)) ?_
     refine sp (.int .i64 ((i : Int) + 1)) ?_
     refine s_nil ?_
     exact xs_round (v23, (L ++ [(ofS ((made l).2) y20)]), i + 1) (by show _ - (i + 1) < _ - i; omega) (by show i + 1 ≤ _ ∧ _; exact ⟨by omega, by simp only [lnm]; omega⟩) (sub_of rfl ⟨⟨rfl, rfl⟩, ⟨⟨rfl, rfl⟩, ⟨⟨rfl, rfl⟩, ⟨⟨rfl, rfl⟩, ⟨⟨rfl, rfl⟩, ⟨⟨rfl, rfl⟩, trivial⟩⟩⟩⟩⟩⟩) (fun _ h => h.re [2, 2, 2, 2, 1, 1] [6])
    ·
     have p24 := of_decide_eq_false c18
     refine k_exit ?_
     refine xs_exit ?_
     refine xs_exit ?_
     refine xs_here ?_
     refine xs_then ?_
     refine k_seq ?_
     refine k_held [own VlT lw L, blkA g16 #[pB hb12 0, pB gb13 0, lx14] 35, own VlT lx14 ((made l).2), blkA g1 #[.int .i64 v.v.kind, .int .i64 v.v.p, .int .i64 v.v.q, .string v.v.str, .int .i64 v.v.ref, .int .i64 v.obj] 28] ?_
     refine hp_ 0 [0, 0, 2, 2] (pB g16 0) ?_
     refine h_l 1 rfl [0, 0, 2, 2] (fun _ => (t_load 1 (pB hb12 0))) ?_
     refine h_l 2 rfl [0, 0, 2, 2] (fun _ => (t_loadA 1 #[pB hb12 0, pB gb13 0, lx14])) ?_
     refine h_l 3 rfl [0, 0, 2, 2] (fun _ => (t_loadA 3 #[.int .i64 v.v.kind, .int .i64 v.v.p, .int .i64 v.v.q, .string v.v.str, .int .i64 v.v.ref, .int .i64 v.obj])) ?_
     refine hp_ 5 [0, 0, 2, 2] lw ?_
     refine h_join (ι := Value × Nat) 3 #[true, true, true, true, true, true, true, true, true, true, true, true, false, false, false] (fun (cx25, g26) => [(4, pB g1 0), (7, pB g16 0), (8, .bool true), (9, lw), (11, pB g26 0), (59, .agg #[.int .i64 (((cal ((made l).1) 32 (ofS ((made l).2) v) L).1).kind), .int .i64 (((cal ((made l).1) 32 (ofS ((made l).2) v) L).1).p), .int .i64 (((cal ((made l).1) 32 (ofS ((made l).2) v) L).1).q), .string (((cal ((made l).1) 32 (ofS ((made l).2) v) L).1).str), .int .i64 (((cal ((made l).1) 32 (ofS ((made l).2) v) L).1).ref)]), (60, cx25), (61, .int .i64 ((cal ((made l).1) 32 (ofS ((made l).2) v) L).2.2))]) (fun (cx25, g26) => [blkA g26 #[.int .i64 0, .int .i64 0, .int .i64 0, .string ByteArray.empty, .int .i64 0] 26, own VlT cx25 ((cal ((made l).1) 32 (ofS ((made l).2) v) L).2.1), own VlT lw L, hpA hb12 ((made l).1), own VlT lx14 ((made l).2), blkA g16 #[pB hb12 0, pB gb13 0, lx14] 35, rhA gb13 ((made l).1), blkA g1 #[.int .i64 v.v.kind, .int .i64 v.v.p, .int .i64 v.v.q, .string v.v.str, .int .i64 v.v.ref, .int .i64 v.obj] 28]) ?_ (fun hj30 => ?_)
     ·
      rintro ⟨cx25, g26⟩
      show SH _ _ _ _ _ _ _ _ _ [(4, .pointer (some ⟨g1, 0, none⟩)), (7, .pointer (some ⟨g16, 0, none⟩)), (8, .bool true), (9, lw), (11, .pointer (some ⟨g26, 0, none⟩)), (59, .agg #[.int .i64 (((cal ((made l).1) 32 (ofS ((made l).2) v) L).1).kind), .int .i64 (((cal ((made l).1) 32 (ofS ((made l).2) v) L).1).p), .int .i64 (((cal ((made l).1) 32 (ofS ((made l).2) v) L).1).q), .string (((cal ((made l).1) 32 (ofS ((made l).2) v) L).1).str), .int .i64 (((cal ((made l).1) 32 (ofS ((made l).2) v) L).1).ref)]), (60, cx25), (61, .int .i64 ((cal ((made l).1) 32 (ofS ((made l).2) v) L).2.2))] [blkA g26 #[.int .i64 0, .int .i64 0, .int .i64 0, .string ByteArray.empty, .int .i64 0] 26, own VlT cx25 ((cal ((made l).1) 32 (ofS ((made l).2) v) L).2.1), own VlT lw L, hpA hb12 ((made l).1), own VlT lx14 ((made l).2), blkA g16 #[.pointer (some ⟨hb12, 0, none⟩), .pointer (some ⟨gb13, 0, none⟩), lx14] 35, rhA gb13 ((made l).1), blkA g1 #[.int .i64 v.v.kind, .int .i64 v.v.p, .int .i64 v.v.q, .string v.v.str, .int .i64 v.v.ref, .int .i64 v.obj] 28]
      refine h_stepS 12 ?_
      refine s_store 0 #[.int .i64 (((cal ((made l).1) 32 (ofS ((made l).2) v) L).1).kind), .int .i64 (((cal ((made l).1) 32 (ofS ((made l).2) v) L).1).p), .int .i64 (((cal ((made l).1) 32 (ofS ((made l).2) v) L).1).q), .string (((cal ((made l).1) 32 (ofS ((made l).2) v) L).1).str), .int .i64 (((cal ((made l).1) 32 (ofS ((made l).2) v) L).1).ref)] ?_
      refine s_nil (xs_held [2, 4, 3, 4] ?_)
      refine hp_ 13 [2, 4, 3, 4] cx25 ?_
      refine hp_ 14 [2, 4, 3, 4] (.int .i64 ((cal ((made l).1) 32 (ofS ((made l).2) v) L).2.2)) ?_
      refine h_doneS ?_
      refine xs_then ?_
      refine k_seq ?_
      refine k_held [blkA g26 #[.int .i64 (((cal ((made l).1) 32 (ofS ((made l).2) v) L).1).kind), .int .i64 (((cal ((made l).1) 32 (ofS ((made l).2) v) L).1).p), .int .i64 (((cal ((made l).1) 32 (ofS ((made l).2) v) L).1).q), .string (((cal ((made l).1) 32 (ofS ((made l).2) v) L).1).str), .int .i64 (((cal ((made l).1) 32 (ofS ((made l).2) v) L).1).ref)] 26, own VlT cx25 ((cal ((made l).1) 32 (ofS ((made l).2) v) L).2.1), own VlT lw L, own VlT lx14 ((made l).2), blkA g16 #[pB hb12 0, pB gb13 0, lx14] 35, blkA g1 #[.int .i64 v.v.kind, .int .i64 v.v.p, .int .i64 v.v.q, .string v.v.str, .int .i64 v.v.ref, .int .i64 v.obj] 28] ?_
      refine hp_ 0 [0, 0, 0, 1, 1, 2] (pB g16 1) ?_
      refine h_l 1 rfl [0, 0, 0, 1, 1, 2] (fun _ => (t_load 4 (pB gb13 0))) ?_
      refine h_l 2 rfl [0, 0, 0, 1, 1, 2] (fun _ => (t_loadA 4 #[pB hb12 0, pB gb13 0, lx14])) ?_
      refine h_l 3 rfl [0, 0, 0, 1, 1, 2] (fun _ => (t_loadA 5 #[.int .i64 v.v.kind, .int .i64 v.v.p, .int .i64 v.v.q, .string v.v.str, .int .i64 v.v.ref, .int .i64 v.obj])) ?_
      refine hp_ 5 [0, 0, 0, 1, 1, 2] lw ?_
      refine h_join (ι := Value × Nat) 3 #[true, true, true, true, true, true, true, true, true, true, true, true, false, false, false] (fun (cx31, g32) => [(8, .bool true), (11, pB g26 0), (12, cx25), (13, .int .i64 ((cal ((made l).1) 32 (ofS ((made l).2) v) L).2.2)), (14, pB g32 0), (70, .agg #[.int .i64 (((cal ((made l).1) 32 (ofS ((made l).2) v) L).1).kind), .int .i64 (((cal ((made l).1) 32 (ofS ((made l).2) v) L).1).p), .int .i64 (((cal ((made l).1) 32 (ofS ((made l).2) v) L).1).q), .string (((cal ((made l).1) 32 (ofS ((made l).2) v) L).1).str), .int .i64 (((cal ((made l).1) 32 (ofS ((made l).2) v) L).1).ref)]), (71, cx31), (72, .int .i64 ((cal ((made l).1) 32 (ofS ((made l).2) v) L).2.2))]) (fun (cx31, g32) => [blkA g32 #[.int .i64 0, .int .i64 0, .int .i64 0, .string ByteArray.empty, .int .i64 0] 26, own VlT cx31 ((cal ((made l).1) 32 (ofS ((made l).2) v) L).2.1), own VlT lw L, rhA gb13 ((made l).1), own VlT lx14 ((made l).2), blkA g26 #[.int .i64 (((cal ((made l).1) 32 (ofS ((made l).2) v) L).1).kind), .int .i64 (((cal ((made l).1) 32 (ofS ((made l).2) v) L).1).p), .int .i64 (((cal ((made l).1) 32 (ofS ((made l).2) v) L).1).q), .string (((cal ((made l).1) 32 (ofS ((made l).2) v) L).1).str), .int .i64 (((cal ((made l).1) 32 (ofS ((made l).2) v) L).1).ref)] 26, own VlT cx25 ((cal ((made l).1) 32 (ofS ((made l).2) v) L).2.1), hpA hb12 ((made l).1), blkA g16 #[pB hb12 0, pB gb13 0, lx14] 35, blkA g1 #[.int .i64 v.v.kind, .int .i64 v.v.p, .int .i64 v.v.q, .string v.v.str, .int .i64 v.v.ref, .int .i64 v.obj] 28]) ?_ (fun hj36 => ?_)
      ·
       rintro ⟨cx31, g32⟩
       show SH _ _ _ _ _ _ _ _ _ [(8, .bool true), (11, .pointer (some ⟨g26, 0, none⟩)), (12, cx25), (13, .int .i64 ((cal ((made l).1) 32 (ofS ((made l).2) v) L).2.2)), (14, .pointer (some ⟨g32, 0, none⟩)), (70, .agg #[.int .i64 (((cal ((made l).1) 32 (ofS ((made l).2) v) L).1).kind), .int .i64 (((cal ((made l).1) 32 (ofS ((made l).2) v) L).1).p), .int .i64 (((cal ((made l).1) 32 (ofS ((made l).2) v) L).1).q), .string (((cal ((made l).1) 32 (ofS ((made l).2) v) L).1).str), .int .i64 (((cal ((made l).1) 32 (ofS ((made l).2) v) L).1).ref)]), (71, cx31), (72, .int .i64 ((cal ((made l).1) 32 (ofS ((made l).2) v) L).2.2))] [blkA g32 #[.int .i64 0, .int .i64 0, .int .i64 0, .string ByteArray.empty, .int .i64 0] 26, own VlT cx31 ((cal ((made l).1) 32 (ofS ((made l).2) v) L).2.1), own VlT lw L, rhA gb13 ((made l).1), own VlT lx14 ((made l).2), blkA g26 #[.int .i64 (((cal ((made l).1) 32 (ofS ((made l).2) v) L).1).kind), .int .i64 (((cal ((made l).1) 32 (ofS ((made l).2) v) L).1).p), .int .i64 (((cal ((made l).1) 32 (ofS ((made l).2) v) L).1).q), .string (((cal ((made l).1) 32 (ofS ((made l).2) v) L).1).str), .int .i64 (((cal ((made l).1) 32 (ofS ((made l).2) v) L).1).ref)] 26, own VlT cx25 ((cal ((made l).1) 32 (ofS ((made l).2) v) L).2.1), hpA hb12 ((made l).1), blkA g16 #[.pointer (some ⟨hb12, 0, none⟩), .pointer (some ⟨gb13, 0, none⟩), lx14] 35, blkA g1 #[.int .i64 v.v.kind, .int .i64 v.v.p, .int .i64 v.v.q, .string v.v.str, .int .i64 v.v.ref, .int .i64 v.obj] 28]
       refine h_stepS 12 ?_
       refine s_store 0 #[.int .i64 (((cal ((made l).1) 32 (ofS ((made l).2) v) L).1).kind), .int .i64 (((cal ((made l).1) 32 (ofS ((made l).2) v) L).1).p), .int .i64 (((cal ((made l).1) 32 (ofS ((made l).2) v) L).1).q), .string (((cal ((made l).1) 32 (ofS ((made l).2) v) L).1).str), .int .i64 (((cal ((made l).1) 32 (ofS ((made l).2) v) L).1).ref)] ?_
       refine s_nil (xs_held [5, 5, 2, 3, 4, 4] ?_)
       refine hp_ 13 [5, 5, 2, 3, 4, 4] cx31 ?_
       refine hp_ 14 [5, 5, 2, 3, 4, 4] (.int .i64 ((cal ((made l).1) 32 (ofS ((made l).2) v) L).2.2)) ?_
       refine h_doneS ?_
       refine xs_then ?_
       refine k_seq ?_
       refine k_reg ?_
       refine sp (.bool true) ?_
       refine sp (.bool true) ?_
       refine s_lt (t_loadA 5 #[.int .i64 (((cal ((made l).1) 32 (ofS ((made l).2) v) L).1).kind), .int .i64 (((cal ((made l).1) 32 (ofS ((made l).2) v) L).1).p), .int .i64 (((cal ((made l).1) 32 (ofS ((made l).2) v) L).1).q), .string (((cal ((made l).1) 32 (ofS ((made l).2) v) L).1).str), .int .i64 (((cal ((made l).1) 32 (ofS ((made l).2) v) L).1).ref)]) ?_
       refine s_lt (t_loadA 0 #[.int .i64 (((cal ((made l).1) 32 (ofS ((made l).2) v) L).1).kind), .int .i64 (((cal ((made l).1) 32 (ofS ((made l).2) v) L).1).p), .int .i64 (((cal ((made l).1) 32 (ofS ((made l).2) v) L).1).q), .string (((cal ((made l).1) 32 (ofS ((made l).2) v) L).1).str), .int .i64 (((cal ((made l).1) 32 (ofS ((made l).2) v) L).1).ref)]) ?_
       refine s_lt (Lt.to (t_eqS (fun w => (eqVlT ((cal ((made l).1) 32 (ofS ((made l).2) v) L).1) ((cal ((made l).1) 32 (ofS ((made l).2) v) L).1) w).1)) (congrArg Value.bool (decide_eq_true rfl : (decide ((cal ((made l).1) 32 (ofS ((made l).2) v) L).1 = (cal ((made l).1) 32 (ofS ((made l).2) v) L).1)) = true))) ?_
       refine sp (.bool true) ?_
       refine sp (.bool true) ?_
       refine sp (.int .i64 ((cal ((made l).1) 32 (ofS ((made l).2) v) L).2.2)) ?_
       refine sp (.int .i64 ((cal ((made l).1) 32 (ofS ((made l).2) v) L).2.2)) ?_
       refine s_lt (Lt.to t_cmp (congrArg Value.bool (decide_eq_true rfl : (decide ((cal ((made l).1) 32 (ofS ((made l).2) v) L).2.2 = (cal ((made l).1) 32 (ofS ((made l).2) v) L).2.2)) = true))) ?_
       refine sp (.bool true) ?_
       refine sp (.bool true) ?_
       refine sp cx25 ?_
       refine sp cx31 ?_
       refine s_call [6, 1] (values_s (L := (cal ((made l).1) 32 (ofS ((made l).2) v) L).2.1)) ?_
       rintro _ _ ⟨rfl, rfl⟩
       refine sp (.bool true) ?_
       refine sp (.bool true) ?_
       refine s_vcall (fun _ h => lives_s) ?_
       rintro _ rfl
       refine sp (.bool true) ?_
       refine sp (.bool true) ?_
       refine s_nil ?_
       refine xs_then ?_
       refine k_ret ?_
       exact xs_fin [.bool true] [] (SI.tmp 6 SI.nil) (fun _ h => h.re [] [0, 0, 0, 0, 0, 0, 0, 0, 0, 0]) ⟨rfl, rfl⟩
      refine h_join (ι := Nat) 8 #[true, true, true, true, true, true, false, false, false, false, false, true, false, false, false] (fun g33 => [(8, .bool true), (11, pB g26 0), (12, cx25), (13, .int .i64 ((cal ((made l).1) 32 (ofS ((made l).2) v) L).2.2)), (14, pB g33 0), (64, pB gb13 0), (67, .agg #[.int .i64 ((ofS ((made l).2) v).kind), .int .i64 ((ofS ((made l).2) v).p), .int .i64 ((ofS ((made l).2) v).q), .string ((ofS ((made l).2) v).str), .int .i64 ((ofS ((made l).2) v).ref)]), (68, lw)]) (fun g33 => [blkA g33 #[.int .i64 0, .int .i64 0, .int .i64 0, .string ByteArray.empty, .int .i64 0] 26, own VlT lx14 ((made l).2), blkA g26 #[.int .i64 (((cal ((made l).1) 32 (ofS ((made l).2) v) L).1).kind), .int .i64 (((cal ((made l).1) 32 (ofS ((made l).2) v) L).1).p), .int .i64 (((cal ((made l).1) 32 (ofS ((made l).2) v) L).1).q), .string (((cal ((made l).1) 32 (ofS ((made l).2) v) L).1).str), .int .i64 (((cal ((made l).1) 32 (ofS ((made l).2) v) L).1).ref)] 26, own VlT cx25 ((cal ((made l).1) 32 (ofS ((made l).2) v) L).2.1), own VlT lw L, hpA hb12 ((made l).1), blkA g16 #[pB hb12 0, pB gb13 0, lx14] 35, rhA gb13 ((made l).1), blkA g1 #[.int .i64 v.v.kind, .int .i64 v.v.p, .int .i64 v.v.q, .string v.v.str, .int .i64 v.v.ref, .int .i64 v.obj] 28]) ?_ (fun hj37 => ?_)
      ·
       rintro g33
       show SH _ _ _ _ _ _ _ _ _ [(8, .bool true), (11, .pointer (some ⟨g26, 0, none⟩)), (12, cx25), (13, .int .i64 ((cal ((made l).1) 32 (ofS ((made l).2) v) L).2.2)), (14, .pointer (some ⟨g33, 0, none⟩)), (64, .pointer (some ⟨gb13, 0, none⟩)), (67, .agg #[.int .i64 ((ofS ((made l).2) v).kind), .int .i64 ((ofS ((made l).2) v).p), .int .i64 ((ofS ((made l).2) v).q), .string ((ofS ((made l).2) v).str), .int .i64 ((ofS ((made l).2) v).ref)]), (68, lw)] [blkA g33 #[.int .i64 0, .int .i64 0, .int .i64 0, .string ByteArray.empty, .int .i64 0] 26, own VlT lx14 ((made l).2), blkA g26 #[.int .i64 (((cal ((made l).1) 32 (ofS ((made l).2) v) L).1).kind), .int .i64 (((cal ((made l).1) 32 (ofS ((made l).2) v) L).1).p), .int .i64 (((cal ((made l).1) 32 (ofS ((made l).2) v) L).1).q), .string (((cal ((made l).1) 32 (ofS ((made l).2) v) L).1).str), .int .i64 (((cal ((made l).1) 32 (ofS ((made l).2) v) L).1).ref)] 26, own VlT cx25 ((cal ((made l).1) 32 (ofS ((made l).2) v) L).2.1), own VlT lw L, hpA hb12 ((made l).1), blkA g16 #[.pointer (some ⟨hb12, 0, none⟩), .pointer (some ⟨gb13, 0, none⟩), lx14] 35, rhA gb13 ((made l).1), blkA g1 #[.int .i64 v.v.kind, .int .i64 v.v.p, .int .i64 v.v.q, .string v.v.str, .int .i64 v.v.ref, .int .i64 v.obj] 28]
       refine h_stepS 6 ?_
       refine s_call [4, 6] (rcallee_s (A := L) (st := (made l).1) (by (try simp only [lnm]); omega) hsm (by omega) (ofS ((made l).2) v)) ?_
       rintro _ _ ⟨cx38, rfl, rfl⟩
       refine s_nil (xs_held [5, 5, 1, 3, 4, 4] ?_)
       refine hp_ 7 [5, 5, 1, 3, 4, 4] (.tuple #[.agg #[.int .i64 (((cal ((made l).1) 32 (ofS ((made l).2) v) L).1).kind), .int .i64 (((cal ((made l).1) 32 (ofS ((made l).2) v) L).1).p), .int .i64 (((cal ((made l).1) 32 (ofS ((made l).2) v) L).1).q), .string (((cal ((made l).1) 32 (ofS ((made l).2) v) L).1).str), .int .i64 (((cal ((made l).1) 32 (ofS ((made l).2) v) L).1).ref)], cx38, .int .i64 ((cal ((made l).1) 32 (ofS ((made l).2) v) L).2.2)]) ?_
       refine hp_ 8 [5, 5, 1, 3, 4, 4] (.agg #[.int .i64 (((cal ((made l).1) 32 (ofS ((made l).2) v) L).1).kind), .int .i64 (((cal ((made l).1) 32 (ofS ((made l).2) v) L).1).p), .int .i64 (((cal ((made l).1) 32 (ofS ((made l).2) v) L).1).q), .string (((cal ((made l).1) 32 (ofS ((made l).2) v) L).1).str), .int .i64 (((cal ((made l).1) 32 (ofS ((made l).2) v) L).1).ref)]) ?_
       refine hp_ 9 [5, 5, 1, 3, 4, 4] cx38 ?_
       refine hp_ 10 [5, 5, 1, 3, 4, 4] (.int .i64 ((cal ((made l).1) 32 (ofS ((made l).2) v) L).2.2)) ?_
       exact h_use hj36 (cx38, g33) (fun _ h => h.re [3, 0, 0, 0, 0, 0, 0, 0, 0, 0] [])
      refine h_stepS2 4 11 ?_ ?_
      ·
       refine s_call [4] (of_s (L := (made l).2) (by (try simp only [lnm]); omega) v) ?_
       rintro _ _ ⟨rfl, rfl⟩
       refine s_nil (xs_held [1, 1, 1, 0, 1, 2] ?_)
       refine h_stepS2 6 11 ?_ ?_
       ·
        refine s_call [3, 5] (rcallee_s (A := L) (st := (made l).1) (by (try simp only [lnm]); omega) hsm (by omega) (ofS ((made l).2) v)) ?_
        rintro _ _ ⟨cx39, rfl, rfl⟩
        refine s_nil (xs_held [4, 4, 1, 2, 3, 3] ?_)
        refine hp_ 7 [4, 4, 1, 2, 3, 3] (.tuple #[.agg #[.int .i64 (((cal ((made l).1) 32 (ofS ((made l).2) v) L).1).kind), .int .i64 (((cal ((made l).1) 32 (ofS ((made l).2) v) L).1).p), .int .i64 (((cal ((made l).1) 32 (ofS ((made l).2) v) L).1).q), .string (((cal ((made l).1) 32 (ofS ((made l).2) v) L).1).str), .int .i64 (((cal ((made l).1) 32 (ofS ((made l).2) v) L).1).ref)], cx39, .int .i64 ((cal ((made l).1) 32 (ofS ((made l).2) v) L).2.2)]) ?_
        refine hp_ 8 [4, 4, 1, 2, 3, 3] (.agg #[.int .i64 (((cal ((made l).1) 32 (ofS ((made l).2) v) L).1).kind), .int .i64 (((cal ((made l).1) 32 (ofS ((made l).2) v) L).1).p), .int .i64 (((cal ((made l).1) 32 (ofS ((made l).2) v) L).1).q), .string (((cal ((made l).1) 32 (ofS ((made l).2) v) L).1).str), .int .i64 (((cal ((made l).1) 32 (ofS ((made l).2) v) L).1).ref)]) ?_
        refine hp_ 9 [4, 4, 1, 2, 3, 3] cx39 ?_
        refine hp_ 10 [4, 4, 1, 2, 3, 3] (.int .i64 ((cal ((made l).1) 32 (ofS ((made l).2) v) L).2.2)) ?_
        refine h_stepS 11 ?_
        refine s_alloc (.agg #[.int .i64 0, .int .i64 0, .int .i64 0, .string ByteArray.empty, .int .i64 0]) #[.int .i64 0, .int .i64 0, .int .i64 0, .string ByteArray.empty, .int .i64 0] (fun g40 => ?_)
        refine s_nil (xs_held [5, 5, 2, 3, 4, 4] ?_)
        exact h_use hj36 (cx39, g40) (fun _ h => h.re [0, 0, 0, 0, 0, 0, 0, 0, 0, 0] [])
       ·
        refine s_alloc (.agg #[.int .i64 0, .int .i64 0, .int .i64 0, .string ByteArray.empty, .int .i64 0]) #[.int .i64 0, .int .i64 0, .int .i64 0, .string ByteArray.empty, .int .i64 0] (fun g41 => ?_)
        refine s_nil (xs_held [2, 2, 2, 1, 2, 3] ?_)
        exact h_use hj37 g41 (fun _ h => h.re [0, 0, 0, 0, 0, 0, 0, 0, 0] [])
      ·
       refine s_alloc (.agg #[.int .i64 0, .int .i64 0, .int .i64 0, .string ByteArray.empty, .int .i64 0]) #[.int .i64 0, .int .i64 0, .int .i64 0, .string ByteArray.empty, .int .i64 0] (fun g42 => ?_)
       refine s_nil (xs_held [1, 1, 1, 2, 2, 3] ?_)
       refine h_stepS 4 ?_
       refine s_call [5] (of_s (L := (made l).2) (by (try simp only [lnm]); omega) v) ?_
       rintro _ _ ⟨rfl, rfl⟩
       refine s_nil (xs_held [2, 2, 2, 0, 2, 3] ?_)
       exact h_use hj37 g42 (fun _ h => h.re [1, 0, 0, 0, 0, 0, 0, 0, 0] [])
     refine h_join (ι := Nat) 8 #[true, true, true, true, true, true, false, false, false, false, false, true, false, false, false] (fun g27 => [(4, pB g1 0), (7, pB g16 0), (8, .bool true), (9, lw), (11, pB g27 0), (53, pB hb12 0), (56, .agg #[.int .i64 ((ofS ((made l).2) v).kind), .int .i64 ((ofS ((made l).2) v).p), .int .i64 ((ofS ((made l).2) v).q), .string ((ofS ((made l).2) v).str), .int .i64 ((ofS ((made l).2) v).ref)]), (57, lw)]) (fun g27 => [blkA g27 #[.int .i64 0, .int .i64 0, .int .i64 0, .string ByteArray.empty, .int .i64 0] 26, own VlT lx14 ((made l).2), own VlT lw L, blkA g16 #[pB hb12 0, pB gb13 0, lx14] 35, hpA hb12 ((made l).1), rhA gb13 ((made l).1), blkA g1 #[.int .i64 v.v.kind, .int .i64 v.v.p, .int .i64 v.v.q, .string v.v.str, .int .i64 v.v.ref, .int .i64 v.obj] 28]) ?_ (fun hj43 => ?_)
     ·
      rintro g27
      show SH _ _ _ _ _ _ _ _ _ [(4, .pointer (some ⟨g1, 0, none⟩)), (7, .pointer (some ⟨g16, 0, none⟩)), (8, .bool true), (9, lw), (11, .pointer (some ⟨g27, 0, none⟩)), (53, .pointer (some ⟨hb12, 0, none⟩)), (56, .agg #[.int .i64 ((ofS ((made l).2) v).kind), .int .i64 ((ofS ((made l).2) v).p), .int .i64 ((ofS ((made l).2) v).q), .string ((ofS ((made l).2) v).str), .int .i64 ((ofS ((made l).2) v).ref)]), (57, lw)] [blkA g27 #[.int .i64 0, .int .i64 0, .int .i64 0, .string ByteArray.empty, .int .i64 0] 26, own VlT lx14 ((made l).2), own VlT lw L, blkA g16 #[.pointer (some ⟨hb12, 0, none⟩), .pointer (some ⟨gb13, 0, none⟩), lx14] 35, hpA hb12 ((made l).1), rhA gb13 ((made l).1), blkA g1 #[.int .i64 v.v.kind, .int .i64 v.v.p, .int .i64 v.v.q, .string v.v.str, .int .i64 v.v.ref, .int .i64 v.obj] 28]
      refine h_stepS 6 ?_
      refine s_call [2, 3] (callee_s (A := L) (st := (made l).1) (by (try simp only [lnm]); omega) hsm (by omega) (ofS ((made l).2) v)) ?_
      rintro _ _ ⟨cx44, rfl, rfl⟩
      refine s_nil (xs_held [1, 4, 3, 4] ?_)
      refine hp_ 7 [1, 4, 3, 4] (.tuple #[.agg #[.int .i64 (((cal ((made l).1) 32 (ofS ((made l).2) v) L).1).kind), .int .i64 (((cal ((made l).1) 32 (ofS ((made l).2) v) L).1).p), .int .i64 (((cal ((made l).1) 32 (ofS ((made l).2) v) L).1).q), .string (((cal ((made l).1) 32 (ofS ((made l).2) v) L).1).str), .int .i64 (((cal ((made l).1) 32 (ofS ((made l).2) v) L).1).ref)], cx44, .int .i64 ((cal ((made l).1) 32 (ofS ((made l).2) v) L).2.2)]) ?_
      refine hp_ 8 [1, 4, 3, 4] (.agg #[.int .i64 (((cal ((made l).1) 32 (ofS ((made l).2) v) L).1).kind), .int .i64 (((cal ((made l).1) 32 (ofS ((made l).2) v) L).1).p), .int .i64 (((cal ((made l).1) 32 (ofS ((made l).2) v) L).1).q), .string (((cal ((made l).1) 32 (ofS ((made l).2) v) L).1).str), .int .i64 (((cal ((made l).1) 32 (ofS ((made l).2) v) L).1).ref)]) ?_
      refine hp_ 9 [1, 4, 3, 4] cx44 ?_
      refine hp_ 10 [1, 4, 3, 4] (.int .i64 ((cal ((made l).1) 32 (ofS ((made l).2) v) L).2.2)) ?_
      exact h_use hj30 (cx44, g27) (fun _ h => h.re [3, 0, 0, 0, 0, 0, 0, 0] [])
     refine h_stepS2 4 11 ?_ ?_
     ·
      refine s_call [4] (of_s (L := (made l).2) (by (try simp only [lnm]); omega) v) ?_
      rintro _ _ ⟨rfl, rfl⟩
      refine s_nil (xs_held [1, 1, 0, 2] ?_)
      refine h_stepS2 6 11 ?_ ?_
      ·
       refine s_call [1, 2] (callee_s (A := L) (st := (made l).1) (by (try simp only [lnm]); omega) hsm (by omega) (ofS ((made l).2) v)) ?_
       rintro _ _ ⟨cx45, rfl, rfl⟩
       refine s_nil (xs_held [1, 3, 2, 3] ?_)
       refine hp_ 7 [1, 3, 2, 3] (.tuple #[.agg #[.int .i64 (((cal ((made l).1) 32 (ofS ((made l).2) v) L).1).kind), .int .i64 (((cal ((made l).1) 32 (ofS ((made l).2) v) L).1).p), .int .i64 (((cal ((made l).1) 32 (ofS ((made l).2) v) L).1).q), .string (((cal ((made l).1) 32 (ofS ((made l).2) v) L).1).str), .int .i64 (((cal ((made l).1) 32 (ofS ((made l).2) v) L).1).ref)], cx45, .int .i64 ((cal ((made l).1) 32 (ofS ((made l).2) v) L).2.2)]) ?_
       refine hp_ 8 [1, 3, 2, 3] (.agg #[.int .i64 (((cal ((made l).1) 32 (ofS ((made l).2) v) L).1).kind), .int .i64 (((cal ((made l).1) 32 (ofS ((made l).2) v) L).1).p), .int .i64 (((cal ((made l).1) 32 (ofS ((made l).2) v) L).1).q), .string (((cal ((made l).1) 32 (ofS ((made l).2) v) L).1).str), .int .i64 (((cal ((made l).1) 32 (ofS ((made l).2) v) L).1).ref)]) ?_
       refine hp_ 9 [1, 3, 2, 3] cx45 ?_
       refine hp_ 10 [1, 3, 2, 3] (.int .i64 ((cal ((made l).1) 32 (ofS ((made l).2) v) L).2.2)) ?_
       refine h_stepS 11 ?_
       refine s_alloc (.agg #[.int .i64 0, .int .i64 0, .int .i64 0, .string ByteArray.empty, .int .i64 0]) #[.int .i64 0, .int .i64 0, .int .i64 0, .string ByteArray.empty, .int .i64 0] (fun g46 => ?_)
       refine s_nil (xs_held [2, 4, 3, 4] ?_)
       exact h_use hj30 (cx45, g46) (fun _ h => h.re [0, 0, 0, 0, 0, 0, 0, 0] [])
      ·
       refine s_alloc (.agg #[.int .i64 0, .int .i64 0, .int .i64 0, .string ByteArray.empty, .int .i64 0]) #[.int .i64 0, .int .i64 0, .int .i64 0, .string ByteArray.empty, .int .i64 0] (fun g47 => ?_)
       refine s_nil (xs_held [2, 2, 1, 3] ?_)
       exact h_use hj43 g47 (fun _ h => h.re [0, 0, 0, 0, 0, 0, 0] [])
     ·
      refine s_alloc (.agg #[.int .i64 0, .int .i64 0, .int .i64 0, .string ByteArray.empty, .int .i64 0]) #[.int .i64 0, .int .i64 0, .int .i64 0, .string ByteArray.empty, .int .i64 0] (fun g48 => ?_)
      refine s_nil (xs_held [1, 1, 3, 3] ?_)
      refine h_stepS 4 ?_
      refine s_call [5] (of_s (L := (made l).2) (by (try simp only [lnm]); omega) v) ?_
      rintro _ _ ⟨rfl, rfl⟩
      refine s_nil (xs_held [2, 2, 0, 3] ?_)
      exact h_use hj43 g48 (fun _ h => h.re [1, 0, 0, 0, 0, 0, 0] [])
end Go.Proofs.Ytplkkhpokodbmaa
