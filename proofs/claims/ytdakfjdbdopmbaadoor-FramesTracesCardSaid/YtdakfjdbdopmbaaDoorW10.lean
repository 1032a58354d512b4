/-
  Raise.
-/
import Derived.Test.YtdakfjdbdopmbaaDoorW9
import Derived.Test.YtdakfjdbdopmbaaDoorSV
set_option linter.unusedSimpArgs false
set_option linter.unusedVariables false
set_option maxRecDepth 100000
namespace Go.Proofs.YtdakfjdbdopmbaaDoor
open Go.Hp Go.J Go.S
open Go.Mem (Ty KTy blk elemAt pre suf blk_pre blk_suf aget aset strK aggDesc)
open Go.Mem
def preT (v : Vl) (l : Int) : ByteArray := itoaB l ++ ⟨#[58, 32]⟩ ++ v.str
def raiseT (v : Vl) (N : Int) (M : List Pl) : Vl := if v.kind = 3 ∧ rposT N M ≠ 0 ∧ (preT v (rposT N M)).size ≤ 4096 then ⟨v.kind, v.p, v.q, preT v (rposT N M), v.ref⟩ else v
def flV (v : Vl) (s : Value) : Value := .agg #[.int .i64 v.kind, .int .i64 v.p, .int .i64 v.q, .string v.str, .int .i64 v.ref, s]
theorem posT_range (M : List Pl) (n : Int) (h : ∀ p ∈ M, okP p) : -9223372036854775808 ≤ posT n M ∧ posT n M ≤ 9223372036854775807 := by
  induction M generalizing n with
  | nil => exact ⟨by show (_ : Int) ≤ 0; decide, by show (0 : Int) ≤ _; decide⟩
  | cons p r ih =>
    have hp := h p (by simp); have hr := fun n => ih n (fun q hq => h q (by simp [hq]))
    rw [posT]; split
    · split
      · exact ⟨hp.1, hp.2.1⟩
      · exact hr _
    · exact hr _
theorem rposT_range (M : List Pl) (n : Int) (h : ∀ p ∈ M, okP p) : -9223372036854775808 ≤ rposT n M ∧ rposT n M ≤ 9223372036854775807 := by
  rw [rposT]; split
  · exact ⟨by decide, by decide⟩
  · exact posT_range M n h
theorem raise_s {Z : Zone} (ht : KnTab Z) {v : Vl} {N : Int} {lv : Value} {M : List Pl} (hM : Kn Z PlT lv M) (hok : ∀ p ∈ M, okP p) (h1 : N ≤ 9223372036854775807) (hl : (M.length : Int) ≤ 400) (hs : (v.str.size : Int) ≤ 4611686018427387904) : SF Tryd.prog 9 #[v.v, .int .i64 N, lv] Z [] fun r Bs => ∃ s, r = flV (raiseT v N M) s ∧ Bs = [own PlT s M] := by
  have hr := rposT_range M N hok
  have hr2 := posT_range M N hok
  refine sf_enter Tryd.func9 43 [(0, .agg #[.int .i64 v.kind, .int .i64 v.p, .int .i64 v.q, .string v.str, .int .i64 v.ref]), (1, .int .i64 N), (2, lv)] (fun w0 => ?_)
  refine k_seq ?_
  refine k_reg ?_
  refine s_box #[.int .i64 v.kind, .int .i64 v.p, .int .i64 v.q, .string v.str, .int .i64 v.ref] (fun g1 => ?_)
  refine s_alloc (.agg #[.int .i64 0, .int .i64 0, .int .i64 0, .string ByteArray.empty, .int .i64 0, (.slice none 0 0)]) #[.int .i64 0, .int .i64 0, .int .i64 0, .string ByteArray.empty, .int .i64 0, (.slice none 0 0)] (fun g2 => ?_)
  refine s_nil ?_
  refine xs_then ?_
  refine k_seq ?_
  refine k_held [blkA g2 #[.int .i64 0, .int .i64 0, .int .i64 0, .string ByteArray.empty, .int .i64 0, (.slice none 0 0)] 41, blkA g1 #[.int .i64 v.kind, .int .i64 v.p, .int .i64 v.q, .string v.str, .int .i64 v.ref] 39] ?_
  refine h_lt 0 rfl (np_then np_finS) [0, 0] (fun _ => (t_loadA 1 #[.int .i64 v.kind, .int .i64 v.p, .int .i64 v.q, .string v.str, .int .i64 v.ref])) ?_
  refine h_lt 1 rfl (np_then np_finS) [0, 0] (fun _ => (t_pure lv)) ?_
  refine h_stepS2 2 4 ?_ ?_
  ·
    refine s_appendN PlT_ok Tryd.underlying26 (.zn hM) (by show _ * 32 ≤ _; (try simp only [List.length_nil, List.length_cons, List.length_append, List.length_take, List.length_drop, List.length_set, List.length_replicate, List.length_reverse, ByteArray.size_append, sz_mk]); omega) (fun v3 => ?_)
    refine s_fact (fun H h => ((Acc.own (T := PlT) (L := M) 0 rfl) H h).form) (fun hf4 => ?_)
    refine s_nil (xs_held [1, 1] ?_)
    refine h_lt 3 rfl (np_then np_finS) [1, 1] (fun _ => (show Lt _ _ _ _ _ (.agg #[.int .i64 v.kind, .int .i64 v.p, .int .i64 v.q, .string v.str, .int .i64 v.ref, v3]) from by obtain ⟨_, _, e⟩ := hf4; rw [e]; clear e; exact t_kern _)) ?_
    refine h_stepS 4 ?_
    refine s_alloc (.agg #[.int .i64 0, .int .i64 0, .int .i64 0, .string ByteArray.empty, .int .i64 0, (.slice none 0 0)]) #[.int .i64 0, .int .i64 0, .int .i64 0, .string ByteArray.empty, .int .i64 0, (.slice none 0 0)] (fun g5 => ?_)
    refine s_nil (xs_held [2, 2] ?_)
    refine h_stepS 5 ?_
    refine s_store (u := .agg #[.int .i64 v.kind, .int .i64 v.p, .int .i64 v.q, .string v.str, .int .i64 v.ref, v3]) (m := 6) 0 #[.int .i64 v.kind, .int .i64 v.p, .int .i64 v.q, .string v.str, .int .i64 v.ref, v3] ?_ (hm := by (obtain ⟨_, _, e⟩ := hf4; rw [e]; rfl)) (h1 := by (obtain ⟨_, _, e⟩ := hf4; rw [e]; rfl)) (ha' := by (obtain ⟨_, _, e⟩ := hf4; rw [e]; rfl))
    refine s_nil (xs_held [2, 2] ?_)
    refine h_doneS ?_
    refine xs_then ?_
    refine k_seq ?_
    refine k_cut (ι := Unit) (fun _ => True) (fun _ => [(1, .int .i64 N), (2, lv), (3, .pointer (some ⟨g1, 0, none⟩)), (6, .pointer (some ⟨g2, 0, none⟩)), (7, .pointer (some ⟨g5, 0, none⟩)), (21, .bool ((decide (v.kind ≠ 3)) || (decide (N < 1))))]) (fun _ => [blkA g5 #[.int .i64 v.kind, .int .i64 v.p, .int .i64 v.q, .string v.str, .int .i64 v.ref, v3] 41, own PlT v3 M, blkA g2 #[.int .i64 0, .int .i64 0, .int .i64 0, .string ByteArray.empty, .int .i64 0, (.slice none 0 0)] 41, blkA g1 #[.int .i64 v.kind, .int .i64 v.p, .int .i64 v.q, .string v.str, .int .i64 v.ref] 39]) ?_ (fun _ _ => ?_)
    ·
      refine k_reg ?_
      refine s_lt (t_pure (.pointer (some ⟨g1, 0, none⟩))) ?_
      refine s_lt (t_load 3 (.int .i64 v.kind)) ?_
      refine s_lt t_cmp ?_
      refine s_lt (t_pure (.bool (decide (v.kind ≠ 3)))) ?_
      refine s_fork 18 (decide (v.kind ≠ 3)) (fun c6 => ?_) (fun c6 => ?_)
      ·
        have p7 := of_decide_eq_true c6
        refine s_skip ?_
        refine s_skip ?_
        refine s_lt (t_pure (.bool true)) ?_
        refine s_nil ?_
        exact xs_cut () trivial (sub_of rfl ⟨⟨rfl, rfl⟩, ⟨⟨rfl, rfl⟩, ⟨⟨rfl, rfl⟩, ⟨⟨rfl, rfl⟩, ⟨⟨rfl, rfl⟩, ⟨⟨rfl, show Value.bool true = Value.bool ((decide (v.kind ≠ 3)) || (decide (N < 1))) by first | (simp only [c6, Bool.true_and, Bool.false_and, Bool.and_true, Bool.and_false, Bool.true_or, Bool.or_true, Bool.false_or, Bool.or_false, Bool.not_true, Bool.not_false]; done) | simp [c6]⟩, trivial⟩⟩⟩⟩⟩⟩) (fun _ h => h.re [0, 0, 0, 0] [])
      ·
        have p8 := Decidable.not_not.1 (of_decide_eq_false c6)
        refine s_lt (t_pure (.int .i64 N)) ?_
        refine s_lt t_cmp ?_
        refine s_lt (t_pure (.bool (decide (N < 1)))) ?_
        refine s_nil ?_
        exact xs_cut () trivial (sub_of rfl ⟨⟨rfl, rfl⟩, ⟨⟨rfl, rfl⟩, ⟨⟨rfl, rfl⟩, ⟨⟨rfl, rfl⟩, ⟨⟨rfl, rfl⟩, ⟨⟨rfl, show Value.bool (decide (N < 1)) = Value.bool ((decide (v.kind ≠ 3)) || (decide (N < 1))) by first | (simp only [c6, Bool.true_and, Bool.false_and, Bool.and_true, Bool.and_false, Bool.true_or, Bool.or_true, Bool.false_or, Bool.or_false, Bool.not_true, Bool.not_false]; done) | simp [c6]⟩, trivial⟩⟩⟩⟩⟩⟩) (fun _ h => h.re [0, 0, 0, 0] [])
    ·
      refine k_cond ((decide (v.kind ≠ 3)) || (decide (N < 1))) (fun c9 => ?_) (fun c9 => ?_)
      ·
        have p10 := c9
        simp only [Bool.and_eq_true, Bool.or_eq_true, Bool.and_eq_false_iff, Bool.or_eq_false_iff, Bool.not_eq_true', Bool.not_eq_false', decide_eq_true_eq, decide_eq_false_iff_not] at p10
        refine k_seq ?_
        refine k_reg ?_
        refine s_lt (t_loadA 0 #[.int .i64 v.kind, .int .i64 v.p, .int .i64 v.q, .string v.str, .int .i64 v.ref, v3]) ?_
        refine s_store (u := .agg #[.int .i64 v.kind, .int .i64 v.p, .int .i64 v.q, .string v.str, .int .i64 v.ref, v3]) (m := 6) 2 #[.int .i64 v.kind, .int .i64 v.p, .int .i64 v.q, .string v.str, .int .i64 v.ref, v3] ?_ (hm := by (obtain ⟨_, _, e⟩ := hf4; rw [e]; rfl)) (h1 := by (obtain ⟨_, _, e⟩ := hf4; rw [e]; rfl)) (ha' := by (obtain ⟨_, _, e⟩ := hf4; rw [e]; rfl))
        refine s_nil ?_
        refine xs_then ?_
        refine k_ret ?_
        refine xs_ret ?_
        have hp : raiseT v N M = v := if_neg (fun ⟨a, b, d⟩ => by first | omega | (rw [rposT] at b; split at b <;> omega) | (simp only [preT, join3, ByteArray.size_append] at *; omega) | (rw [rposT, if_neg (by omega)] at d; simp only [preT, join3, ByteArray.size_append] at *; omega))
        refine xs_fin [.agg #[.int .i64 v.kind, .int .i64 v.p, .int .i64 v.q, .string v.str, .int .i64 v.ref, v3]] [own PlT v3 M] (SI.agg 6 41 2 SI.nil) (fun _ h => h.re [1] [1, 1, 1]) ⟨v3, ?_, rfl⟩
        rw [hp]; rfl
      ·
        obtain ⟨c11, c12⟩ := or_f c9
        have p13 := Decidable.not_not.1 (of_decide_eq_false c11)
        have p14 := of_decide_eq_false c12
        refine k_skip ?_
        refine xs_then ?_
        refine k_seq ?_
        refine k_seq ?_
        refine k_reg ?_
        refine s_lt (t_pure (.int .i64 N)) ?_
        refine s_lt (t_pure lv) ?_
        refine s_vcall (fun _ h => pos_s (N := N) (Acc.kn (.zn hM) h) (by omega) (by omega) (by (try simp only [List.length_nil, List.length_cons, List.length_append, List.length_take, List.length_drop, List.length_set, List.length_replicate, List.length_reverse, ByteArray.size_append, sz_mk]); omega)) ?_
        rintro _ rfl
        refine s_lt (t_pure (.tuple #[.int .i64 (posT N M), .bool (decide (posT N M ≠ 0))])) ?_
        refine s_lt (t_pure (.int .i64 (posT N M))) ?_
        refine s_lt (t_pure (.bool (decide (posT N M ≠ 0)))) ?_
        refine s_lt (t_pure (.int .i64 (posT N M))) ?_
        refine s_lt (t_pure (.bool (decide (posT N M ≠ 0)))) ?_
        refine s_nil ?_
        refine xs_then ?_
        refine k_seq ?_
        refine k_reg ?_
        refine s_lt (t_pure (.bool (decide (posT N M ≠ 0)))) ?_
        refine s_nil ?_
        refine xs_then ?_
        refine k_cond (decide (posT N M ≠ 0)) (fun c15 => ?_) (fun c15 => ?_)
        ·
          have p16 := of_decide_eq_true c15
          refine k_seq ?_
          refine k_held [blkA g5 #[.int .i64 v.kind, .int .i64 v.p, .int .i64 v.q, .string v.str, .int .i64 v.ref, v3] 41, own PlT v3 M, blkA g2 #[.int .i64 0, .int .i64 0, .int .i64 0, .string ByteArray.empty, .int .i64 0, (.slice none 0 0)] 41, blkA g1 #[.int .i64 v.kind, .int .i64 v.p, .int .i64 v.q, .string v.str, .int .i64 v.ref] 39] ?_
          refine h_lt 0 rfl (np_then (np_then np_finS)) [0, 0, 0, 0] (fun _ => (t_pure (.int .i64 (posT N M)))) ?_
          refine h_lt 2 rfl (np_then (np_then np_finS)) [0, 0, 0, 0] (fun _ => (t_pure (.pointer (some ⟨g1, 3, none⟩)))) ?_
          refine h_lt 3 rfl (np_then (np_then np_finS)) [0, 0, 0, 0] (fun _ => (t_load 3 (.string v.str))) ?_
          refine h_stepS 1 ?_
          have z17 := itoaB_size (n := (posT N M)) (by omega) (by omega)
          refine s_vcall (fun _ h => itoa_s (ht.at h) (posT N M) (by omega) (by omega)) ?_
          rintro _ rfl
          refine s_nil (xs_held [0, 0, 0, 0] ?_)
          refine h_stepS 4 ?_
          refine s_buildSlice (e := 9) [(0, .string (itoaB (posT N M))), (1, .string ⟨#[58, 32]⟩), (2, .string v.str)] #[.string (itoaB (posT N M)), .string ⟨#[58, 32]⟩, .string v.str] (fun g18 => ?_) (hb := by kernel_rfl)
          refine s_nil (xs_held [1, 1, 1, 1] ?_)
          refine h_stepS 5 ?_
          refine s_vcall (fun _ h => join_s (Acc.kn (.lit 0 st_ok [(itoaB (posT N M)), ⟨#[58, 32]⟩, v.str]) h) (by simp only [szs3, join3, ByteArray.size_append, sz_mk, List.length_cons, List.length_nil]; omega) (by (try simp only [List.length_nil, List.length_cons, List.length_append, List.length_take, List.length_drop, List.length_set, List.length_replicate, List.length_reverse, ByteArray.size_append, sz_mk]); omega)) ?_
          rintro _ rfl
          refine s_nil (xs_held [1, 1, 1, 1] ?_)
          refine h_lt 6 rfl (np_then (np_then np_finS)) [1, 1, 1, 1] (fun _ => (t_pure (.string (joinT [(itoaB (posT N M)), ⟨#[58, 32]⟩, v.str])))) ?_
          refine h_doneS ?_
          refine xs_then ?_
          refine k_seq ?_
          refine k_reg ?_
          refine s_lt (t_pure (.string (joinT [(itoaB (posT N M)), ⟨#[58, 32]⟩, v.str]))) ?_
          refine s_lt (t_kern (.int .i64 ((joinT [(itoaB (posT N M)), ⟨#[58, 32]⟩, v.str]).size : Int))) ?_
          refine s_lt t_cmp ?_
          refine s_nil ?_
          refine xs_then ?_
          refine k_cond (decide (((joinT [(itoaB (posT N M)), ⟨#[58, 32]⟩, v.str]).size : Int) ≤ 4096)) (fun c20 => ?_) (fun c20 => ?_)
          ·
            have p21 := of_decide_eq_true c20
            refine k_reg ?_
            refine s_lt (t_pure (.string (joinT [(itoaB (posT N M)), ⟨#[58, 32]⟩, v.str]))) ?_
            refine s_lt (t_pure (.pointer (some ⟨g5, 0, none⟩))) ?_
            refine s_lt (t_pure (.pointer (some ⟨g5, 3, none⟩))) ?_
            refine s_store 1 #[.int .i64 v.kind, .int .i64 v.p, .int .i64 v.q, .string (joinT [(itoaB (posT N M)), ⟨#[58, 32]⟩, v.str]), .int .i64 v.ref, v3] ?_
            refine s_nil ?_
            refine xs_then ?_
            refine k_seq ?_
            refine k_reg ?_
            refine s_lt (t_loadA 1 #[.int .i64 v.kind, .int .i64 v.p, .int .i64 v.q, .string (joinT [(itoaB (posT N M)), ⟨#[58, 32]⟩, v.str]), .int .i64 v.ref, v3]) ?_
            refine s_store (u := .agg #[.int .i64 v.kind, .int .i64 v.p, .int .i64 v.q, .string (joinT [(itoaB (posT N M)), ⟨#[58, 32]⟩, v.str]), .int .i64 v.ref, v3]) (m := 6) 3 #[.int .i64 v.kind, .int .i64 v.p, .int .i64 v.q, .string (joinT [(itoaB (posT N M)), ⟨#[58, 32]⟩, v.str]), .int .i64 v.ref, v3] ?_ (hm := by (obtain ⟨_, _, e⟩ := hf4; rw [e]; rfl)) (h1 := by (obtain ⟨_, _, e⟩ := hf4; rw [e]; rfl)) (ha' := by (obtain ⟨_, _, e⟩ := hf4; rw [e]; rfl))
            refine s_nil ?_
            refine xs_then ?_
            refine k_ret ?_
            have hp : raiseT v N M = (⟨v.kind, v.p, v.q, (joinT [(itoaB (posT N M)), ⟨#[58, 32]⟩, v.str]), v.ref⟩ : Vl) := by
              first
              | (rw [raiseT, if_pos ⟨by omega, by omega, by simp only [preT, join3, ByteArray.size_append] at *; omega⟩]; first | rfl | simp [preT, join3])
              | (rw [raiseT, show rposT N M = posT N M from if_neg (by omega), if_pos ⟨by omega, by omega, by simp only [preT, join3, ByteArray.size_append] at *; omega⟩]; first | rfl | simp [preT, join3])
            refine xs_fin [.agg #[.int .i64 v.kind, .int .i64 v.p, .int .i64 v.q, .string (joinT [(itoaB (posT N M)), ⟨#[58, 32]⟩, v.str]), .int .i64 v.ref, v3]] [own PlT v3 M] (SI.agg 6 41 3 SI.nil) (fun _ h => h.re [2] [1, 1, 1, 1]) ⟨v3, ?_, rfl⟩
            rw [hp]; rfl
          ·
            have p22 := of_decide_eq_false c20
            refine k_skip ?_
            refine xs_then ?_
            refine k_seq ?_
            refine k_reg ?_
            refine s_lt (t_loadA 1 #[.int .i64 v.kind, .int .i64 v.p, .int .i64 v.q, .string v.str, .int .i64 v.ref, v3]) ?_
            refine s_store (u := .agg #[.int .i64 v.kind, .int .i64 v.p, .int .i64 v.q, .string v.str, .int .i64 v.ref, v3]) (m := 6) 3 #[.int .i64 v.kind, .int .i64 v.p, .int .i64 v.q, .string v.str, .int .i64 v.ref, v3] ?_ (hm := by (obtain ⟨_, _, e⟩ := hf4; rw [e]; rfl)) (h1 := by (obtain ⟨_, _, e⟩ := hf4; rw [e]; rfl)) (ha' := by (obtain ⟨_, _, e⟩ := hf4; rw [e]; rfl))
            refine s_nil ?_
            refine xs_then ?_
            refine k_ret ?_
            have hp : raiseT v N M = v := if_neg (fun ⟨a, b, d⟩ => by first | omega | (rw [rposT] at b; split at b <;> omega) | (simp only [preT, join3, ByteArray.size_append] at *; omega) | (rw [rposT, if_neg (by omega)] at d; simp only [preT, join3, ByteArray.size_append] at *; omega))
            refine xs_fin [.agg #[.int .i64 v.kind, .int .i64 v.p, .int .i64 v.q, .string v.str, .int .i64 v.ref, v3]] [own PlT v3 M] (SI.agg 6 41 3 SI.nil) (fun _ h => h.re [2] [1, 1, 1, 1]) ⟨v3, ?_, rfl⟩
            rw [hp]; rfl
        ·
          have p23 := Decidable.not_not.1 (of_decide_eq_false c15)
          refine k_skip ?_
          refine xs_then ?_
          refine k_seq ?_
          refine k_reg ?_
          refine s_lt (t_loadA 0 #[.int .i64 v.kind, .int .i64 v.p, .int .i64 v.q, .string v.str, .int .i64 v.ref, v3]) ?_
          refine s_store (u := .agg #[.int .i64 v.kind, .int .i64 v.p, .int .i64 v.q, .string v.str, .int .i64 v.ref, v3]) (m := 6) 2 #[.int .i64 v.kind, .int .i64 v.p, .int .i64 v.q, .string v.str, .int .i64 v.ref, v3] ?_ (hm := by (obtain ⟨_, _, e⟩ := hf4; rw [e]; rfl)) (h1 := by (obtain ⟨_, _, e⟩ := hf4; rw [e]; rfl)) (ha' := by (obtain ⟨_, _, e⟩ := hf4; rw [e]; rfl))
          refine s_nil ?_
          refine xs_then ?_
          refine k_ret ?_
          have hp : raiseT v N M = v := if_neg (fun ⟨a, b, d⟩ => by first | omega | (rw [rposT] at b; split at b <;> omega) | (simp only [preT, join3, ByteArray.size_append] at *; omega) | (rw [rposT, if_neg (by omega)] at d; simp only [preT, join3, ByteArray.size_append] at *; omega))
          refine xs_fin [.agg #[.int .i64 v.kind, .int .i64 v.p, .int .i64 v.q, .string v.str, .int .i64 v.ref, v3]] [own PlT v3 M] (SI.agg 6 41 2 SI.nil) (fun _ h => h.re [1] [1, 1, 1]) ⟨v3, ?_, rfl⟩
          rw [hp]; rfl
  ·
    refine s_alloc (.agg #[.int .i64 0, .int .i64 0, .int .i64 0, .string ByteArray.empty, .int .i64 0, (.slice none 0 0)]) #[.int .i64 0, .int .i64 0, .int .i64 0, .string ByteArray.empty, .int .i64 0, (.slice none 0 0)] (fun g24 => ?_)
    refine s_nil (xs_held [1, 1] ?_)
    refine h_stepS 2 ?_
    refine s_appendN PlT_ok Tryd.underlying26 (.zn hM) (by show _ * 32 ≤ _; (try simp only [List.length_nil, List.length_cons, List.length_append, List.length_take, List.length_drop, List.length_set, List.length_replicate, List.length_reverse, ByteArray.size_append, sz_mk]); omega) (fun v25 => ?_)
    refine s_fact (fun H h => ((Acc.own (T := PlT) (L := M) 0 rfl) H h).form) (fun hf26 => ?_)
    refine s_nil (xs_held [2, 2] ?_)
    refine h_lt 3 rfl (np_then np_finS) [2, 2] (fun _ => (show Lt _ _ _ _ _ (.agg #[.int .i64 v.kind, .int .i64 v.p, .int .i64 v.q, .string v.str, .int .i64 v.ref, v25]) from by obtain ⟨_, _, e⟩ := hf26; rw [e]; clear e; exact t_kern _)) ?_
    refine h_stepS 5 ?_
    refine s_store (u := .agg #[.int .i64 v.kind, .int .i64 v.p, .int .i64 v.q, .string v.str, .int .i64 v.ref, v25]) (m := 6) 1 #[.int .i64 v.kind, .int .i64 v.p, .int .i64 v.q, .string v.str, .int .i64 v.ref, v25] ?_ (hm := by (obtain ⟨_, _, e⟩ := hf26; rw [e]; rfl)) (h1 := by (obtain ⟨_, _, e⟩ := hf26; rw [e]; rfl)) (ha' := by (obtain ⟨_, _, e⟩ := hf26; rw [e]; rfl))
    refine s_nil (xs_held [2, 2] ?_)
    refine h_doneS ?_
    refine xs_then ?_
    refine k_seq ?_
    refine k_cut (ι := Unit) (fun _ => True) (fun _ => [(1, .int .i64 N), (2, lv), (3, .pointer (some ⟨g1, 0, none⟩)), (6, .pointer (some ⟨g2, 0, none⟩)), (7, .pointer (some ⟨g24, 0, none⟩)), (21, .bool ((decide (v.kind ≠ 3)) || (decide (N < 1))))]) (fun _ => [own PlT v25 M, blkA g24 #[.int .i64 v.kind, .int .i64 v.p, .int .i64 v.q, .string v.str, .int .i64 v.ref, v25] 41, blkA g2 #[.int .i64 0, .int .i64 0, .int .i64 0, .string ByteArray.empty, .int .i64 0, (.slice none 0 0)] 41, blkA g1 #[.int .i64 v.kind, .int .i64 v.p, .int .i64 v.q, .string v.str, .int .i64 v.ref] 39]) ?_ (fun _ _ => ?_)
    ·
      refine k_reg ?_
      refine s_lt (t_pure (.pointer (some ⟨g1, 0, none⟩))) ?_
      refine s_lt (t_load 3 (.int .i64 v.kind)) ?_
      refine s_lt t_cmp ?_
      refine s_lt (t_pure (.bool (decide (v.kind ≠ 3)))) ?_
      refine s_fork 18 (decide (v.kind ≠ 3)) (fun c27 => ?_) (fun c27 => ?_)
      ·
        have p28 := of_decide_eq_true c27
        refine s_skip ?_
        refine s_skip ?_
        refine s_lt (t_pure (.bool true)) ?_
        refine s_nil ?_
        exact xs_cut () trivial (sub_of rfl ⟨⟨rfl, rfl⟩, ⟨⟨rfl, rfl⟩, ⟨⟨rfl, rfl⟩, ⟨⟨rfl, rfl⟩, ⟨⟨rfl, rfl⟩, ⟨⟨rfl, show Value.bool true = Value.bool ((decide (v.kind ≠ 3)) || (decide (N < 1))) by first | (simp only [c27, Bool.true_and, Bool.false_and, Bool.and_true, Bool.and_false, Bool.true_or, Bool.or_true, Bool.false_or, Bool.or_false, Bool.not_true, Bool.not_false]; done) | simp [c27]⟩, trivial⟩⟩⟩⟩⟩⟩) (fun _ h => h.re [0, 0, 0, 0] [])
      ·
        have p29 := Decidable.not_not.1 (of_decide_eq_false c27)
        refine s_lt (t_pure (.int .i64 N)) ?_
        refine s_lt t_cmp ?_
        refine s_lt (t_pure (.bool (decide (N < 1)))) ?_
        refine s_nil ?_
        exact xs_cut () trivial (sub_of rfl ⟨⟨rfl, rfl⟩, ⟨⟨rfl, rfl⟩, ⟨⟨rfl, rfl⟩, ⟨⟨rfl, rfl⟩, ⟨⟨rfl, rfl⟩, ⟨⟨rfl, show Value.bool (decide (N < 1)) = Value.bool ((decide (v.kind ≠ 3)) || (decide (N < 1))) by first | (simp only [c27, Bool.true_and, Bool.false_and, Bool.and_true, Bool.and_false, Bool.true_or, Bool.or_true, Bool.false_or, Bool.or_false, Bool.not_true, Bool.not_false]; done) | simp [c27]⟩, trivial⟩⟩⟩⟩⟩⟩) (fun _ h => h.re [0, 0, 0, 0] [])
    ·
      refine k_cond ((decide (v.kind ≠ 3)) || (decide (N < 1))) (fun c30 => ?_) (fun c30 => ?_)
      ·
        have p31 := c30
        simp only [Bool.and_eq_true, Bool.or_eq_true, Bool.and_eq_false_iff, Bool.or_eq_false_iff, Bool.not_eq_true', Bool.not_eq_false', decide_eq_true_eq, decide_eq_false_iff_not] at p31
        refine k_seq ?_
        refine k_reg ?_
        refine s_lt (t_loadA 1 #[.int .i64 v.kind, .int .i64 v.p, .int .i64 v.q, .string v.str, .int .i64 v.ref, v25]) ?_
        refine s_store (u := .agg #[.int .i64 v.kind, .int .i64 v.p, .int .i64 v.q, .string v.str, .int .i64 v.ref, v25]) (m := 6) 2 #[.int .i64 v.kind, .int .i64 v.p, .int .i64 v.q, .string v.str, .int .i64 v.ref, v25] ?_ (hm := by (obtain ⟨_, _, e⟩ := hf26; rw [e]; rfl)) (h1 := by (obtain ⟨_, _, e⟩ := hf26; rw [e]; rfl)) (ha' := by (obtain ⟨_, _, e⟩ := hf26; rw [e]; rfl))
        refine s_nil ?_
        refine xs_then ?_
        refine k_ret ?_
        refine xs_ret ?_
        have hp : raiseT v N M = v := if_neg (fun ⟨a, b, d⟩ => by first | omega | (rw [rposT] at b; split at b <;> omega) | (simp only [preT, join3, ByteArray.size_append] at *; omega) | (rw [rposT, if_neg (by omega)] at d; simp only [preT, join3, ByteArray.size_append] at *; omega))
        refine xs_fin [.agg #[.int .i64 v.kind, .int .i64 v.p, .int .i64 v.q, .string v.str, .int .i64 v.ref, v25]] [own PlT v25 M] (SI.agg 6 41 2 SI.nil) (fun _ h => h.re [0] [1, 1, 1]) ⟨v25, ?_, rfl⟩
        rw [hp]; rfl
      ·
        obtain ⟨c32, c33⟩ := or_f c30
        have p34 := Decidable.not_not.1 (of_decide_eq_false c32)
        have p35 := of_decide_eq_false c33
        refine k_skip ?_
        refine xs_then ?_
        refine k_seq ?_
        refine k_seq ?_
        refine k_reg ?_
        refine s_lt (t_pure (.int .i64 N)) ?_
        refine s_lt (t_pure lv) ?_
        refine s_vcall (fun _ h => pos_s (N := N) (Acc.kn (.zn hM) h) (by omega) (by omega) (by (try simp only [List.length_nil, List.length_cons, List.length_append, List.length_take, List.length_drop, List.length_set, List.length_replicate, List.length_reverse, ByteArray.size_append, sz_mk]); omega)) ?_
        rintro _ rfl
        refine s_lt (t_pure (.tuple #[.int .i64 (posT N M), .bool (decide (posT N M ≠ 0))])) ?_
        refine s_lt (t_pure (.int .i64 (posT N M))) ?_
        refine s_lt (t_pure (.bool (decide (posT N M ≠ 0)))) ?_
        refine s_lt (t_pure (.int .i64 (posT N M))) ?_
        refine s_lt (t_pure (.bool (decide (posT N M ≠ 0)))) ?_
        refine s_nil ?_
        refine xs_then ?_
        refine k_seq ?_
        refine k_reg ?_
        refine s_lt (t_pure (.bool (decide (posT N M ≠ 0)))) ?_
        refine s_nil ?_
        refine xs_then ?_
        refine k_cond (decide (posT N M ≠ 0)) (fun c36 => ?_) (fun c36 => ?_)
        ·
          have p37 := of_decide_eq_true c36
          refine k_seq ?_
          refine k_held [own PlT v25 M, blkA g24 #[.int .i64 v.kind, .int .i64 v.p, .int .i64 v.q, .string v.str, .int .i64 v.ref, v25] 41, blkA g2 #[.int .i64 0, .int .i64 0, .int .i64 0, .string ByteArray.empty, .int .i64 0, (.slice none 0 0)] 41, blkA g1 #[.int .i64 v.kind, .int .i64 v.p, .int .i64 v.q, .string v.str, .int .i64 v.ref] 39] ?_
          refine h_lt 0 rfl (np_then (np_then np_finS)) [0, 0, 0, 0] (fun _ => (t_pure (.int .i64 (posT N M)))) ?_
          refine h_lt 2 rfl (np_then (np_then np_finS)) [0, 0, 0, 0] (fun _ => (t_pure (.pointer (some ⟨g1, 3, none⟩)))) ?_
          refine h_lt 3 rfl (np_then (np_then np_finS)) [0, 0, 0, 0] (fun _ => (t_load 3 (.string v.str))) ?_
          refine h_stepS 1 ?_
          have z38 := itoaB_size (n := (posT N M)) (by omega) (by omega)
          refine s_vcall (fun _ h => itoa_s (ht.at h) (posT N M) (by omega) (by omega)) ?_
          rintro _ rfl
          refine s_nil (xs_held [0, 0, 0, 0] ?_)
          refine h_stepS 4 ?_
          refine s_buildSlice (e := 9) [(0, .string (itoaB (posT N M))), (1, .string ⟨#[58, 32]⟩), (2, .string v.str)] #[.string (itoaB (posT N M)), .string ⟨#[58, 32]⟩, .string v.str] (fun g39 => ?_) (hb := by kernel_rfl)
          refine s_nil (xs_held [1, 1, 1, 1] ?_)
          refine h_stepS 5 ?_
          refine s_vcall (fun _ h => join_s (Acc.kn (.lit 0 st_ok [(itoaB (posT N M)), ⟨#[58, 32]⟩, v.str]) h) (by simp only [szs3, join3, ByteArray.size_append, sz_mk, List.length_cons, List.length_nil]; omega) (by (try simp only [List.length_nil, List.length_cons, List.length_append, List.length_take, List.length_drop, List.length_set, List.length_replicate, List.length_reverse, ByteArray.size_append, sz_mk]); omega)) ?_
          rintro _ rfl
          refine s_nil (xs_held [1, 1, 1, 1] ?_)
          refine h_lt 6 rfl (np_then (np_then np_finS)) [1, 1, 1, 1] (fun _ => (t_pure (.string (joinT [(itoaB (posT N M)), ⟨#[58, 32]⟩, v.str])))) ?_
          refine h_doneS ?_
          refine xs_then ?_
          refine k_seq ?_
          refine k_reg ?_
          refine s_lt (t_pure (.string (joinT [(itoaB (posT N M)), ⟨#[58, 32]⟩, v.str]))) ?_
          refine s_lt (t_kern (.int .i64 ((joinT [(itoaB (posT N M)), ⟨#[58, 32]⟩, v.str]).size : Int))) ?_
          refine s_lt t_cmp ?_
          refine s_nil ?_
          refine xs_then ?_
          refine k_cond (decide (((joinT [(itoaB (posT N M)), ⟨#[58, 32]⟩, v.str]).size : Int) ≤ 4096)) (fun c41 => ?_) (fun c41 => ?_)
          ·
            have p42 := of_decide_eq_true c41
            refine k_reg ?_
            refine s_lt (t_pure (.string (joinT [(itoaB (posT N M)), ⟨#[58, 32]⟩, v.str]))) ?_
            refine s_lt (t_pure (.pointer (some ⟨g24, 0, none⟩))) ?_
            refine s_lt (t_pure (.pointer (some ⟨g24, 3, none⟩))) ?_
            refine s_store 2 #[.int .i64 v.kind, .int .i64 v.p, .int .i64 v.q, .string (joinT [(itoaB (posT N M)), ⟨#[58, 32]⟩, v.str]), .int .i64 v.ref, v25] ?_
            refine s_nil ?_
            refine xs_then ?_
            refine k_seq ?_
            refine k_reg ?_
            refine s_lt (t_loadA 2 #[.int .i64 v.kind, .int .i64 v.p, .int .i64 v.q, .string (joinT [(itoaB (posT N M)), ⟨#[58, 32]⟩, v.str]), .int .i64 v.ref, v25]) ?_
            refine s_store (u := .agg #[.int .i64 v.kind, .int .i64 v.p, .int .i64 v.q, .string (joinT [(itoaB (posT N M)), ⟨#[58, 32]⟩, v.str]), .int .i64 v.ref, v25]) (m := 6) 3 #[.int .i64 v.kind, .int .i64 v.p, .int .i64 v.q, .string (joinT [(itoaB (posT N M)), ⟨#[58, 32]⟩, v.str]), .int .i64 v.ref, v25] ?_ (hm := by (obtain ⟨_, _, e⟩ := hf26; rw [e]; rfl)) (h1 := by (obtain ⟨_, _, e⟩ := hf26; rw [e]; rfl)) (ha' := by (obtain ⟨_, _, e⟩ := hf26; rw [e]; rfl))
            refine s_nil ?_
            refine xs_then ?_
            refine k_ret ?_
            have hp : raiseT v N M = (⟨v.kind, v.p, v.q, (joinT [(itoaB (posT N M)), ⟨#[58, 32]⟩, v.str]), v.ref⟩ : Vl) := by
              first
              | (rw [raiseT, if_pos ⟨by omega, by omega, by simp only [preT, join3, ByteArray.size_append] at *; omega⟩]; first | rfl | simp [preT, join3])
              | (rw [raiseT, show rposT N M = posT N M from if_neg (by omega), if_pos ⟨by omega, by omega, by simp only [preT, join3, ByteArray.size_append] at *; omega⟩]; first | rfl | simp [preT, join3])
            refine xs_fin [.agg #[.int .i64 v.kind, .int .i64 v.p, .int .i64 v.q, .string (joinT [(itoaB (posT N M)), ⟨#[58, 32]⟩, v.str]), .int .i64 v.ref, v25]] [own PlT v25 M] (SI.agg 6 41 3 SI.nil) (fun _ h => h.re [1] [1, 1, 1, 1]) ⟨v25, ?_, rfl⟩
            rw [hp]; rfl
          ·
            have p43 := of_decide_eq_false c41
            refine k_skip ?_
            refine xs_then ?_
            refine k_seq ?_
            refine k_reg ?_
            refine s_lt (t_loadA 2 #[.int .i64 v.kind, .int .i64 v.p, .int .i64 v.q, .string v.str, .int .i64 v.ref, v25]) ?_
            refine s_store (u := .agg #[.int .i64 v.kind, .int .i64 v.p, .int .i64 v.q, .string v.str, .int .i64 v.ref, v25]) (m := 6) 3 #[.int .i64 v.kind, .int .i64 v.p, .int .i64 v.q, .string v.str, .int .i64 v.ref, v25] ?_ (hm := by (obtain ⟨_, _, e⟩ := hf26; rw [e]; rfl)) (h1 := by (obtain ⟨_, _, e⟩ := hf26; rw [e]; rfl)) (ha' := by (obtain ⟨_, _, e⟩ := hf26; rw [e]; rfl))
            refine s_nil ?_
            refine xs_then ?_
            refine k_ret ?_
            have hp : raiseT v N M = v := if_neg (fun ⟨a, b, d⟩ => by first | omega | (rw [rposT] at b; split at b <;> omega) | (simp only [preT, join3, ByteArray.size_append] at *; omega) | (rw [rposT, if_neg (by omega)] at d; simp only [preT, join3, ByteArray.size_append] at *; omega))
            refine xs_fin [.agg #[.int .i64 v.kind, .int .i64 v.p, .int .i64 v.q, .string v.str, .int .i64 v.ref, v25]] [own PlT v25 M] (SI.agg 6 41 3 SI.nil) (fun _ h => h.re [1] [1, 1, 1, 1]) ⟨v25, ?_, rfl⟩
            rw [hp]; rfl
        ·
          have p44 := Decidable.not_not.1 (of_decide_eq_false c36)
          refine k_skip ?_
          refine xs_then ?_
          refine k_seq ?_
          refine k_reg ?_
          refine s_lt (t_loadA 1 #[.int .i64 v.kind, .int .i64 v.p, .int .i64 v.q, .string v.str, .int .i64 v.ref, v25]) ?_
          refine s_store (u := .agg #[.int .i64 v.kind, .int .i64 v.p, .int .i64 v.q, .string v.str, .int .i64 v.ref, v25]) (m := 6) 2 #[.int .i64 v.kind, .int .i64 v.p, .int .i64 v.q, .string v.str, .int .i64 v.ref, v25] ?_ (hm := by (obtain ⟨_, _, e⟩ := hf26; rw [e]; rfl)) (h1 := by (obtain ⟨_, _, e⟩ := hf26; rw [e]; rfl)) (ha' := by (obtain ⟨_, _, e⟩ := hf26; rw [e]; rfl))
          refine s_nil ?_
          refine xs_then ?_
          refine k_ret ?_
          have hp : raiseT v N M = v := if_neg (fun ⟨a, b, d⟩ => by first | omega | (rw [rposT] at b; split at b <;> omega) | (simp only [preT, join3, ByteArray.size_append] at *; omega) | (rw [rposT, if_neg (by omega)] at d; simp only [preT, join3, ByteArray.size_append] at *; omega))
          refine xs_fin [.agg #[.int .i64 v.kind, .int .i64 v.p, .int .i64 v.q, .string v.str, .int .i64 v.ref, v25]] [own PlT v25 M] (SI.agg 6 41 2 SI.nil) (fun _ h => h.re [0] [1, 1, 1]) ⟨v25, ?_, rfl⟩
          rw [hp]; rfl
end Go.Proofs.YtdakfjdbdopmbaaDoor
