/-
  The examples of the chapter hold.
-/
import Derived.Test.YtiddapedgkifoaaDoorW12
set_option linter.unusedSimpArgs false
set_option linter.unusedVariables false
set_option maxRecDepth 100000
namespace Go.Proofs.YtiddapedgkifoaaDoor
open Go.Hp Go.J Go.S
open Go.Mem (Ty KTy blk elemAt pre suf blk_pre blk_suf aget aset strK aggDesc)
open Go.Mem
open Go.Lib (decDigits itoa)
theorem itoa3 : itoaB 3 = ⟨#[51]⟩ := by
  show (⟨(itoa 3).toArray⟩ : ByteArray) = _
  rw [itoa, if_neg (by decide), show (3 : Int).toNat = 3 from rfl, decDigits, dif_pos (by decide)]; rfl
theorem itoa7 : itoaB 7 = ⟨#[55]⟩ := by
  show (⟨(itoa 7).toArray⟩ : ByteArray) = _
  rw [itoa, if_neg (by decide), show (7 : Int).toNat = 7 from rfl, decDigits, dif_pos (by decide)]; rfl
def cA : Vl := ⟨3, 0, 0, ⟨#[55, 58, 32, 110, 111]⟩, 0⟩
def cB : Vl := ⟨3, 0, 0, ⟨#[110, 111]⟩, 0⟩
def cM : Vl := ⟨3, 0, 0, ⟨#[51, 58, 32, 100, 105, 118, 105, 115, 105, 111, 110, 32, 98, 121, 32, 122, 101, 114, 111]⟩, 0⟩
theorem cM_ok : okV cM := ⟨by decide, by decide, by decide⟩
def trA : List Pl := [(⟨⟨#[101, 114, 114, 111, 114]⟩, 0, false⟩ : Pl), (⟨⟨#[102]⟩, 7, true⟩ : Pl)]
def trM : List Pl := [(⟨⟨#[109, 97, 105, 110]⟩, 3, false⟩ : Pl)]
theorem trA_ok : ∀ p ∈ trA, okP p := by
  intro p hp; simp [trA] at hp; rcases hp with rfl | rfl <;> exact ⟨by decide, by decide, by decide⟩
theorem trM_ok : ∀ p ∈ trM, okP p := by
  intro p hp; simp [trM] at hp; subst hp; exact ⟨by decide, by decide, by decide⟩
theorem raise_a : raiseT (strV ⟨#[110, 111]⟩) 1 trA = cA := by
  have e : rposT 1 trA = 7 := by decide
  have e2 : preT (strV ⟨#[110, 111]⟩) 7 = ⟨#[55, 58, 32, 110, 111]⟩ := by rw [preT, itoa7]; rfl
  rw [raiseT, e, e2, if_pos ⟨rfl, by decide, by decide⟩]; rfl
theorem raise_b : raiseT (strV ⟨#[110, 111]⟩) 2 trA = cB := by
  have e : rposT 2 trA = 0 := by decide
  rw [raiseT, e, if_neg (fun h => h.2.1 rfl)]; rfl
theorem raise_m : msgT ⟨#[100, 105, 118, 105, 115, 105, 111, 110, 32, 98, 121, 32, 122, 101, 114, 111]⟩ trM = cM := by
  have e : rposT 1 trM = 3 := by decide
  have e0 : cutT ⟨#[100, 105, 118, 105, 115, 105, 111, 110, 32, 98, 121, 32, 122, 101, 114, 111]⟩ = ⟨#[100, 105, 118, 105, 115, 105, 111, 110, 32, 98, 121, 32, 122, 101, 114, 111]⟩ := if_neg (by decide)
  have e2 : preT (strV ⟨#[100, 105, 118, 105, 115, 105, 111, 110, 32, 98, 121, 32, 122, 101, 114, 111]⟩) 3 = ⟨#[51, 58, 32, 100, 105, 118, 105, 115, 105, 111, 110, 32, 98, 121, 32, 122, 101, 114, 111]⟩ := by rw [preT, itoa3]; rfl
  rw [msgT, e0, raiseT, e, e2, if_pos ⟨rfl, by decide, by decide⟩]; rfl
theorem lines_a : linesT trA = [⟨#[101, 114, 114, 111, 114]⟩, ⟨#[102, 58, 55, 32, 40, 116, 97, 105, 108, 32, 99, 97, 108, 108, 41]⟩] := by
  have e1 : lineT ⟨⟨#[101, 114, 114, 111, 114]⟩, 0, false⟩ = ⟨#[101, 114, 114, 111, 114]⟩ := rfl
  have e2 : lineT ⟨⟨#[102]⟩, 7, true⟩ = ⟨#[102, 58, 55, 32, 40, 116, 97, 105, 108, 32, 99, 97, 108, 108, 41]⟩ := by rw [lineT, if_pos rfl, if_pos (by decide), itoa7]; rfl
  show [lineT ⟨⟨#[101, 114, 114, 111, 114]⟩, 0, false⟩, lineT ⟨⟨#[102]⟩, 7, true⟩] = _
  rw [e1, e2]
theorem raise_ac {Z : Zone} (ht : KnTab Z) {lv : Value} (hM : Kn Z PlT lv trA) : SF Tryd.prog 14 #[(strV ⟨#[110, 111]⟩).v, .int .i64 1, lv] Z [] fun r Bs => ∃ s, r = flV cA s ∧ Bs = [own PlT s trA] := by
  have h := raise_s ht (v := strV ⟨#[110, 111]⟩) (N := 1) hM trA_ok (by decide) (by decide) (by decide)
  rw [raise_a] at h; exact h
theorem raise_bc {Z : Zone} (ht : KnTab Z) {lv : Value} (hM : Kn Z PlT lv trA) : SF Tryd.prog 14 #[(strV ⟨#[110, 111]⟩).v, .int .i64 2, lv] Z [] fun r Bs => ∃ s, r = flV cB s ∧ Bs = [own PlT s trA] := by
  have h := raise_s ht (v := strV ⟨#[110, 111]⟩) (N := 2) hM trA_ok (by decide) (by decide) (by decide)
  rw [raise_b] at h; exact h
theorem msg_mc {Z : Zone} (ht : KnTab Z) {lv : Value} (hM : Kn Z PlT lv trM) : SF Tryd.prog 16 #[.string ⟨#[100, 105, 118, 105, 115, 105, 111, 110, 32, 98, 121, 32, 122, 101, 114, 111]⟩, lv] Z [] fun r Bs => ∃ s, r = flV cM s ∧ Bs = [own PlT s trM] := by
  have h := msg_s ht (s := ⟨#[100, 105, 118, 105, 115, 105, 111, 110, 32, 98, 121, 32, 122, 101, 114, 111]⟩) hM trM_ok (by decide)
  rw [raise_m] at h; exact h
def lnA : List ByteArray := [⟨#[101, 114, 114, 111, 114]⟩, ⟨#[102, 58, 55, 32, 40, 116, 97, 105, 108, 32, 99, 97, 108, 108, 41]⟩]
theorem lines_ac {Z : Zone} (ht : KnTab Z) {v : Vl} {lv : Value} (hM : Kn Z PlT lv trA) : SF Tryd.prog 20 #[flV v lv] Z [] fun r Bs => Bs = [own (strT 9) r lnA] := by
  have h := lines_s ht (v := v) hM trA_ok (by decide)
  rw [lines_a] at h; exact h
theorem awake_s {Z : Zone} (ht : KnTab Z) : SF Tryd.prog 12 #[] Z [] fun r Bs => r = .bool true ∧ Bs = [] := by
  have hla : lnA.length = 2 := rfl
  refine sf_enter Tryd.func12 74 [] (fun w0 => ?_)
  refine k_seq ?_
  refine k_reg ?_
  refine s_lt (t_pure (.bool false)) ?_
  refine s_nil ?_
  refine xs_then ?_
  refine k_seq ?_
  refine k_reg ?_
  refine s_lt (t_kern (.agg #[.string ⟨#[101, 114, 114, 111, 114]⟩, .int .i64 0, .bool false])) ?_
  refine s_lt (t_kern (.agg #[.string ⟨#[102]⟩, .int .i64 7, .bool true])) ?_
  refine s_buildSlice (e := 44) [(0, .agg #[.string ⟨#[101, 114, 114, 111, 114]⟩, .int .i64 0, .bool false]), (1, .agg #[.string ⟨#[102]⟩, .int .i64 7, .bool true])] #[.string ⟨#[101, 114, 114, 111, 114]⟩, .int .i64 0, .bool false, .string ⟨#[102]⟩, .int .i64 7, .bool true] (fun g1 => ?_) (hb := by kernel_rfl)
  refine s_lt (t_pure (.slice (some ⟨g1, 0, none⟩) 2 2)) ?_
  refine s_nil ?_
  refine xs_then ?_
  refine k_seq ?_
  refine k_reg ?_
  refine s_vcall (fun _ h => str_s ⟨#[110, 111]⟩) ?_
  rintro _ rfl
  refine s_lt (t_pure (.slice (some ⟨g1, 0, none⟩) 2 2)) ?_
  refine s_pcall (fun _ h => raise_ac (ht.at h) (Acc.kn (.lit 0 PlT_ok [(⟨⟨#[101, 114, 114, 111, 114]⟩, 0, false⟩ : Pl), (⟨⟨#[102]⟩, 7, true⟩ : Pl)]) h)) ?_
  rintro _ _ ⟨s2, rfl, rfl⟩
  refine s_fact (fun H h => ((Acc.own (T := PlT) (L := trA) 0 rfl) H h).form) (fun hf3 => ?_)
  refine s_alloc (.agg #[.int .i64 0, .int .i64 0, .int .i64 0, .string ByteArray.empty, .int .i64 0, (.slice none 0 0)]) #[.int .i64 0, .int .i64 0, .int .i64 0, .string ByteArray.empty, .int .i64 0, (.slice none 0 0)] (fun g4 => ?_)
  refine s_store (u := .agg #[.int .i64 cA.kind, .int .i64 cA.p, .int .i64 cA.q, .string cA.str, .int .i64 cA.ref, s2]) (m := 6) 0 #[.int .i64 cA.kind, .int .i64 cA.p, .int .i64 cA.q, .string cA.str, .int .i64 cA.ref, s2] ?_ (hm := by (obtain ⟨_, _, e⟩ := hf3; rw [e]; rfl)) (h1 := by (obtain ⟨_, _, e⟩ := hf3; rw [e]; rfl)) (ha' := by (obtain ⟨_, _, e⟩ := hf3; rw [e]; rfl))
  refine s_nil ?_
  refine xs_then ?_
  refine k_seq ?_
  refine k_reg ?_
  refine s_vcall (fun _ h => str_s ⟨#[110, 111]⟩) ?_
  rintro _ rfl
  refine s_lt (t_pure (.slice (some ⟨g1, 0, none⟩) 2 2)) ?_
  refine s_pcall (fun _ h => raise_bc (ht.at h) (Acc.kn (.lit 2 PlT_ok [(⟨⟨#[101, 114, 114, 111, 114]⟩, 0, false⟩ : Pl), (⟨⟨#[102]⟩, 7, true⟩ : Pl)]) h)) ?_
  rintro _ _ ⟨s5, rfl, rfl⟩
  refine s_fact (fun H h => ((Acc.own (T := PlT) (L := trA) 0 rfl) H h).form) (fun hf6 => ?_)
  refine s_alloc (.agg #[.int .i64 0, .int .i64 0, .int .i64 0, .string ByteArray.empty, .int .i64 0, (.slice none 0 0)]) #[.int .i64 0, .int .i64 0, .int .i64 0, .string ByteArray.empty, .int .i64 0, (.slice none 0 0)] (fun g7 => ?_)
  refine s_store (u := .agg #[.int .i64 cB.kind, .int .i64 cB.p, .int .i64 cB.q, .string cB.str, .int .i64 cB.ref, s5]) (m := 6) 0 #[.int .i64 cB.kind, .int .i64 cB.p, .int .i64 cB.q, .string cB.str, .int .i64 cB.ref, s5] ?_ (hm := by (obtain ⟨_, _, e⟩ := hf6; rw [e]; rfl)) (h1 := by (obtain ⟨_, _, e⟩ := hf6; rw [e]; rfl)) (ha' := by (obtain ⟨_, _, e⟩ := hf6; rw [e]; rfl))
  refine s_nil ?_
  refine xs_then ?_
  refine k_seq ?_
  refine k_reg ?_
  refine s_lt (t_kern (.agg #[.string ⟨#[109, 97, 105, 110]⟩, .int .i64 3, .bool false])) ?_
  refine s_buildSlice (e := 44) [(0, .agg #[.string ⟨#[109, 97, 105, 110]⟩, .int .i64 3, .bool false])] #[.string ⟨#[109, 97, 105, 110]⟩, .int .i64 3, .bool false] (fun g8 => ?_) (hb := by kernel_rfl)
  refine s_pcall (fun _ h => msg_mc (ht.at h) (Acc.kn (.lit 0 PlT_ok [(⟨⟨#[109, 97, 105, 110]⟩, 3, false⟩ : Pl)]) h)) ?_
  rintro _ _ ⟨s9, rfl, rfl⟩
  refine s_fact (fun H h => ((Acc.own (T := PlT) (L := trM) 0 rfl) H h).form) (fun hf10 => ?_)
  refine s_alloc (.agg #[.int .i64 0, .int .i64 0, .int .i64 0, .string ByteArray.empty, .int .i64 0, (.slice none 0 0)]) #[.int .i64 0, .int .i64 0, .int .i64 0, .string ByteArray.empty, .int .i64 0, (.slice none 0 0)] (fun g11 => ?_)
  refine s_store (u := .agg #[.int .i64 cM.kind, .int .i64 cM.p, .int .i64 cM.q, .string cM.str, .int .i64 cM.ref, s9]) (m := 6) 0 #[.int .i64 cM.kind, .int .i64 cM.p, .int .i64 cM.q, .string cM.str, .int .i64 cM.ref, s9] ?_ (hm := by (obtain ⟨_, _, e⟩ := hf10; rw [e]; rfl)) (h1 := by (obtain ⟨_, _, e⟩ := hf10; rw [e]; rfl)) (ha' := by (obtain ⟨_, _, e⟩ := hf10; rw [e]; rfl))
  refine s_nil ?_
  refine xs_then ?_
  refine k_seq ?_
  refine k_reg ?_
  refine s_lt (t_loadA 5 #[.int .i64 cA.kind, .int .i64 cA.p, .int .i64 cA.q, .string cA.str, .int .i64 cA.ref, s2]) ?_
  refine s_pcall (fun _ h => lines_ac (ht.at h) (v := cA) (Acc.kn (.own 6) h)) ?_
  rintro v12 _ rfl
  refine s_fact (fun H h => ((Acc.own (T := (strT 9)) (L := lnA) 0 rfl) H h).form) (fun hf13 => ?_)
  refine s_lt (t_pure v12) ?_
  refine s_nil ?_
  refine xs_then ?_
  refine k_seq ?_
  refine k_held [own (strT 9) v12 lnA, blkA g11 #[.int .i64 cM.kind, .int .i64 cM.p, .int .i64 cM.q, .string cM.str, .int .i64 cM.ref, s9] 31, own PlT s9 trM, blkA g8 #[.string ⟨#[109, 97, 105, 110]⟩, .int .i64 3, .bool false] 44, blkA g7 #[.int .i64 cB.kind, .int .i64 cB.p, .int .i64 cB.q, .string cB.str, .int .i64 cB.ref, s5] 31, own PlT s5 trA, blkA g4 #[.int .i64 cA.kind, .int .i64 cA.p, .int .i64 cA.q, .string cA.str, .int .i64 cA.ref, s2] 31, own PlT s2 trA, blkA g1 #[.string ⟨#[101, 114, 114, 111, 114]⟩, .int .i64 0, .bool false, .string ⟨#[102]⟩, .int .i64 7, .bool true] 44] ?_
  refine h_lt 0 rfl (np_then np_finS) [0, 0, 0, 0, 0, 0, 0, 0, 0] (fun _ => (t_pure (.pointer (some ⟨g4, 0, none⟩)))) ?_
  refine h_lt 1 rfl (np_then np_finS) [0, 0, 0, 0, 0, 0, 0, 0, 0] (fun _ => (t_loadA 6 #[.int .i64 cA.kind, .int .i64 cA.p, .int .i64 cA.q, .string cA.str, .int .i64 cA.ref])) ?_
  refine h_stepS 2 ?_
  refine s_vcall (fun _ h => str_s ⟨#[55, 58, 32, 110, 111]⟩) ?_
  rintro _ rfl
  refine s_nil (xs_held [0, 0, 0, 0, 0, 0, 0, 0, 0] ?_)
  refine h_lt 3 rfl (np_then np_finS) [0, 0, 0, 0, 0, 0, 0, 0, 0] (fun _ => (Lt.to (t_eqS (fun w => (eqVlT cA (strV ⟨#[55, 58, 32, 110, 111]⟩) w).1)) (congrArg Value.bool (by decide : (decide (cA = (strV ⟨#[55, 58, 32, 110, 111]⟩))) = true)))) ?_
  refine h_lt 4 rfl (np_then np_finS) [0, 0, 0, 0, 0, 0, 0, 0, 0] (fun _ => (t_pure (.bool true))) ?_
  refine h_lt 5 rfl (np_then np_finS) [0, 0, 0, 0, 0, 0, 0, 0, 0] (fun _ => (t_pure (.pointer (some ⟨g7, 0, none⟩)))) ?_
  refine h_lt 6 rfl (np_then np_finS) [0, 0, 0, 0, 0, 0, 0, 0, 0] (fun _ => (t_loadA 4 #[.int .i64 cB.kind, .int .i64 cB.p, .int .i64 cB.q, .string cB.str, .int .i64 cB.ref])) ?_
  refine h_stepS 7 ?_
  refine s_vcall (fun _ h => str_s ⟨#[110, 111]⟩) ?_
  rintro _ rfl
  refine s_nil (xs_held [0, 0, 0, 0, 0, 0, 0, 0, 0] ?_)
  refine h_lt 8 rfl (np_then np_finS) [0, 0, 0, 0, 0, 0, 0, 0, 0] (fun _ => (Lt.to (t_eqS (fun w => (eqVlT cB (strV ⟨#[110, 111]⟩) w).1)) (congrArg Value.bool (by decide : (decide (cB = (strV ⟨#[110, 111]⟩))) = true)))) ?_
  refine h_lt 9 rfl (np_then np_finS) [0, 0, 0, 0, 0, 0, 0, 0, 0] (fun _ => (t_pure (.bool true))) ?_
  refine h_lt 10 rfl (np_then np_finS) [0, 0, 0, 0, 0, 0, 0, 0, 0] (fun _ => (t_pure (.bool true))) ?_
  refine h_lt 11 rfl (np_then np_finS) [0, 0, 0, 0, 0, 0, 0, 0, 0] (fun _ => (t_pure (.pointer (some ⟨g4, 5, none⟩)))) ?_
  refine h_lt 12 rfl (np_then np_finS) [0, 0, 0, 0, 0, 0, 0, 0, 0] (fun _ => (t_load 6 s2)) ?_
  refine h_lt 13 rfl (np_then np_finS) [0, 0, 0, 0, 0, 0, 0, 0, 0] (fun _ => (t_len PlT_ok Tryd.underlying26 (.own 7))) ?_
  refine h_lt 14 rfl (np_then np_finS) [0, 0, 0, 0, 0, 0, 0, 0, 0] (fun _ => (Lt.to t_cmp (congrArg Value.bool (decide_eq_true rfl : (decide ((trA.length : Int) = 2)) = true)))) ?_
  refine h_lt 15 rfl (np_then np_finS) [0, 0, 0, 0, 0, 0, 0, 0, 0] (fun _ => (t_pure (.bool true))) ?_
  refine h_lt 16 rfl (np_then np_finS) [0, 0, 0, 0, 0, 0, 0, 0, 0] (fun _ => (t_pure (.bool true))) ?_
  refine h_lt 17 rfl (np_then np_finS) [0, 0, 0, 0, 0, 0, 0, 0, 0] (fun _ => (t_loadA 1 #[.int .i64 cM.kind, .int .i64 cM.p, .int .i64 cM.q, .string cM.str, .int .i64 cM.ref, s9])) ?_
  refine h_stepS 18 ?_
  refine s_vcall (fun _ h => ftext_s (ht.at h) (v := cM) (lv := s9) cM_ok) ?_
  rintro _ rfl
  refine s_nil (xs_held [0, 0, 0, 0, 0, 0, 0, 0, 0] ?_)
  refine h_lt 19 rfl (np_then np_finS) [0, 0, 0, 0, 0, 0, 0, 0, 0] (fun _ => (Lt.to t_cmpS (congrArg Value.bool (decide_eq_true rfl : (decide ((textT cM) = ⟨#[51, 58, 32, 100, 105, 118, 105, 115, 105, 111, 110, 32, 98, 121, 32, 122, 101, 114, 111]⟩)) = true)))) ?_
  refine h_lt 20 rfl (np_then np_finS) [0, 0, 0, 0, 0, 0, 0, 0, 0] (fun _ => (t_pure (.bool true))) ?_
  refine h_lt 21 rfl (np_then np_finS) [0, 0, 0, 0, 0, 0, 0, 0, 0] (fun _ => (t_pure (.bool true))) ?_
  refine h_lt 22 rfl (np_then np_finS) [0, 0, 0, 0, 0, 0, 0, 0, 0] (fun _ => (t_pure v12)) ?_
  refine h_lt 23 rfl (np_then np_finS) [0, 0, 0, 0, 0, 0, 0, 0, 0] (fun _ => (t_len st_ok Tryd.underlying38 (.own 0))) ?_
  refine h_lt 24 rfl (np_then np_finS) [0, 0, 0, 0, 0, 0, 0, 0, 0] (fun _ => (Lt.to t_cmp (congrArg Value.bool (decide_eq_true rfl : (decide ((lnA.length : Int) = 2)) = true)))) ?_
  refine h_lt 25 rfl (np_then np_finS) [0, 0, 0, 0, 0, 0, 0, 0, 0] (fun _ => (t_pure (.bool true))) ?_
  refine h_lt 26 rfl (np_then np_finS) [0, 0, 0, 0, 0, 0, 0, 0, 0] (fun _ => (t_pure (.bool true))) ?_
  refine h_lt 27 rfl (np_then np_finS) [0, 0, 0, 0, 0, 0, 0, 0, 0] (fun _ => (t_pure v12)) ?_
  refine h_lt 28 rfl (np_then np_finS) [0, 0, 0, 0, 0, 0, 0, 0, 0] (fun _ => (t_index st_ok Tryd.underlying38 (.own 0) 0 0 (by omega) (by (try simp only [List.length_nil, List.length_cons, List.length_append, List.length_take, List.length_drop, List.length_set, List.length_replicate, List.length_reverse, ByteArray.size_append, sz_mk]); omega) (by omega))) ?_
  obtain ⟨y14, hy15⟩ : ∃ y, lnA[0]? = some y := ⟨_, List.getElem?_eq_getElem (by (try simp only [List.length_nil, List.length_cons, List.length_append, List.length_take, List.length_drop, List.length_set, List.length_replicate, List.length_reverse, ByteArray.size_append, sz_mk]); omega)⟩
  refine h_lt 29 rfl (np_then np_finS) [0, 0, 0, 0, 0, 0, 0, 0, 0] (fun _ => (t_loadE st_ok (.own 0) hy15)) ?_
  refine h_lt 30 rfl (np_then np_finS) [0, 0, 0, 0, 0, 0, 0, 0, 0] (fun _ => (Lt.to t_cmpS (congrArg Value.bool (decide_eq_true (Option.some.inj (show some ⟨#[101, 114, 114, 111, 114]⟩ = some y14 from hy15)).symm : (decide (y14 = ⟨#[101, 114, 114, 111, 114]⟩)) = true)))) ?_
  refine h_lt 31 rfl (np_then np_finS) [0, 0, 0, 0, 0, 0, 0, 0, 0] (fun _ => (t_pure (.bool true))) ?_
  refine h_lt 32 rfl (np_then np_finS) [0, 0, 0, 0, 0, 0, 0, 0, 0] (fun _ => (t_pure (.bool true))) ?_
  refine h_lt 33 rfl (np_then np_finS) [0, 0, 0, 0, 0, 0, 0, 0, 0] (fun _ => (t_pure v12)) ?_
  refine h_lt 34 rfl (np_then np_finS) [0, 0, 0, 0, 0, 0, 0, 0, 0] (fun _ => (t_index st_ok Tryd.underlying38 (.own 0) 1 1 (by omega) (by (try simp only [List.length_nil, List.length_cons, List.length_append, List.length_take, List.length_drop, List.length_set, List.length_replicate, List.length_reverse, ByteArray.size_append, sz_mk]); omega) (by omega))) ?_
  obtain ⟨y16, hy17⟩ : ∃ y, lnA[1]? = some y := ⟨_, List.getElem?_eq_getElem (by (try simp only [List.length_nil, List.length_cons, List.length_append, List.length_take, List.length_drop, List.length_set, List.length_replicate, List.length_reverse, ByteArray.size_append, sz_mk]); omega)⟩
  refine h_lt 35 rfl (np_then np_finS) [0, 0, 0, 0, 0, 0, 0, 0, 0] (fun _ => (t_loadE st_ok (.own 0) hy17)) ?_
  refine h_lt 36 rfl (np_then np_finS) [0, 0, 0, 0, 0, 0, 0, 0, 0] (fun _ => (Lt.to t_cmpS (congrArg Value.bool (decide_eq_true (Option.some.inj (show some ⟨#[102, 58, 55, 32, 40, 116, 97, 105, 108, 32, 99, 97, 108, 108, 41]⟩ = some y16 from hy17)).symm : (decide (y16 = ⟨#[102, 58, 55, 32, 40, 116, 97, 105, 108, 32, 99, 97, 108, 108, 41]⟩)) = true)))) ?_
  refine h_lt 37 rfl (np_then np_finS) [0, 0, 0, 0, 0, 0, 0, 0, 0] (fun _ => (t_pure (.bool true))) ?_
  refine h_lt 38 rfl (np_then np_finS) [0, 0, 0, 0, 0, 0, 0, 0, 0] (fun _ => (t_pure (.bool true))) ?_
  refine h_lt 39 rfl (np_then np_finS) [0, 0, 0, 0, 0, 0, 0, 0, 0] (fun _ => (t_loadA 6 #[.int .i64 cA.kind, .int .i64 cA.p, .int .i64 cA.q, .string cA.str, .int .i64 cA.ref, s2])) ?_
  refine h_lt 40 rfl (np_then np_finS) [0, 0, 0, 0, 0, 0, 0, 0, 0] (fun _ => (t_loadA 6 #[.int .i64 cA.kind, .int .i64 cA.p, .int .i64 cA.q, .string cA.str, .int .i64 cA.ref, s2])) ?_
  refine h_stepS 41 ?_
  refine s_vcall (fun _ h => Same_s (u := cA) (v := cA) (Acc.kn (.own 7) h) (Acc.kn (.own 7) h)) ?_
  rintro u19 e18
  obtain rfl : u19 = .bool true := e18.trans (congrArg Value.bool (by decide))
  refine s_nil (xs_held [0, 0, 0, 0, 0, 0, 0, 0, 0] ?_)
  refine h_lt 42 rfl (np_then np_finS) [0, 0, 0, 0, 0, 0, 0, 0, 0] (fun _ => (t_pure (.bool true))) ?_
  refine h_lt 43 rfl (np_then np_finS) [0, 0, 0, 0, 0, 0, 0, 0, 0] (fun _ => (t_pure (.bool true))) ?_
  refine h_lt 44 rfl (np_then np_finS) [0, 0, 0, 0, 0, 0, 0, 0, 0] (fun _ => (t_loadA 6 #[.int .i64 cA.kind, .int .i64 cA.p, .int .i64 cA.q, .string cA.str, .int .i64 cA.ref, s2])) ?_
  refine h_lt 45 rfl (np_then np_finS) [0, 0, 0, 0, 0, 0, 0, 0, 0] (fun _ => (t_loadA 4 #[.int .i64 cB.kind, .int .i64 cB.p, .int .i64 cB.q, .string cB.str, .int .i64 cB.ref, s5])) ?_
  refine h_stepS 46 ?_
  refine s_vcall (fun _ h => Same_s (u := cA) (v := cB) (Acc.kn (.own 7) h) (Acc.kn (.own 5) h)) ?_
  rintro u21 e20
  obtain rfl : u21 = .bool false := e20.trans (congrArg Value.bool (by decide))
  refine s_nil (xs_held [0, 0, 0, 0, 0, 0, 0, 0, 0] ?_)
  refine h_lt 47 rfl (np_then np_finS) [0, 0, 0, 0, 0, 0, 0, 0, 0] (fun _ => (t_pure (.bool true))) ?_
  refine h_lt 48 rfl (np_then np_finS) [0, 0, 0, 0, 0, 0, 0, 0, 0] (fun _ => (t_pure (.bool true))) ?_
  refine h_lt 49 rfl (np_then np_finS) [0, 0, 0, 0, 0, 0, 0, 0, 0] (fun _ => (t_pure (.bool true))) ?_
  refine h_lt 50 rfl (np_then np_finS) [0, 0, 0, 0, 0, 0, 0, 0, 0] (fun _ => (t_kern (.agg #[.int .i64 0, .int .i64 0, .int .i64 0, .string ByteArray.empty, .int .i64 0]))) ?_
  refine h_stepS 51 ?_
  refine s_vcall (fun _ h => desc_s 8 (⟨0, 0, 0, ByteArray.empty, 0⟩ : Vl)) ?_
  rintro _ rfl
  refine s_nil (xs_held [0, 0, 0, 0, 0, 0, 0, 0, 0] ?_)
  refine h_lt 52 rfl (np_then np_finS) [0, 0, 0, 0, 0, 0, 0, 0, 0] (fun _ => (Lt.to t_cmpS (congrArg Value.bool (decide_eq_true rfl : (decide ((descT 8 (⟨0, 0, 0, ByteArray.empty, 0⟩ : Vl).kind) = ⟨#[97, 116, 116, 101, 109, 112, 116, 32, 116, 111, 32, 99, 97, 108, 108, 32, 97, 32, 110, 105, 108, 32, 118, 97, 108, 117, 101]⟩)) = true)))) ?_
  refine h_lt 53 rfl (np_then np_finS) [0, 0, 0, 0, 0, 0, 0, 0, 0] (fun _ => (t_pure (.bool true))) ?_
  refine h_lt 54 rfl (np_then np_finS) [0, 0, 0, 0, 0, 0, 0, 0, 0] (fun _ => (t_pure (.bool true))) ?_
  refine h_doneS ?_
  refine xs_then ?_
  refine k_ret ?_
  exact xs_fin [.bool true] [] (SI.tmp 0 SI.nil) (fun _ h => h.re [] [0, 0, 0, 0, 0, 0, 0, 0, 0]) ⟨rfl, rfl⟩
end Go.Proofs.YtiddapedgkifoaaDoor
