/-
  The names of types, by the program and by the reference.
-/
import Derived.Test.YtdakfjdbdopmbaaDoorW3
set_option linter.unusedSimpArgs false
set_option linter.unusedVariables false
set_option maxRecDepth 100000
namespace Go.Proofs.YtdakfjdbdopmbaaDoor
open Go.Hp Go.J Go.S
open Go.Mem (Ty KTy blk elemAt pre suf blk_pre blk_suf aget aset strK aggDesc)
open Go.Mem
def sV (s : ByteArray) : Value := .string s
def namesM : List (Int × ByteArray) := (aset (aset (aset (aset (aset (aset (aset (aset (aset [] 0 ⟨#[110, 105, 108]⟩) 1 ⟨#[98, 111, 111, 108, 101, 97, 110]⟩) 2 ⟨#[110, 117, 109, 98, 101, 114]⟩) 3 ⟨#[115, 116, 114, 105, 110, 103]⟩) 4 ⟨#[116, 97, 98, 108, 101]⟩) 5 ⟨#[102, 117, 110, 99, 116, 105, 111, 110]⟩) 6 ⟨#[102, 117, 110, 99, 116, 105, 111, 110]⟩) 7 ⟨#[116, 104, 114, 101, 97, 100]⟩) 8 ⟨#[117, 115, 101, 114, 100, 97, 116, 97]⟩)
def typeT (k : Int) : ByteArray := (if k = 0 then ⟨#[110, 105, 108]⟩ else (if k = 1 then ⟨#[98, 111, 111, 108, 101, 97, 110]⟩ else (if k = 2 then ⟨#[110, 117, 109, 98, 101, 114]⟩ else (if k = 3 then ⟨#[115, 116, 114, 105, 110, 103]⟩ else (if k = 4 then ⟨#[116, 97, 98, 108, 101]⟩ else (if k = 5 then ⟨#[102, 117, 110, 99, 116, 105, 111, 110]⟩ else (if k = 6 then ⟨#[102, 117, 110, 99, 116, 105, 111, 110]⟩ else (if k = 7 then ⟨#[116, 104, 114, 101, 97, 100]⟩ else (if k = 8 then ⟨#[117, 115, 101, 114, 100, 97, 116, 97]⟩ else ByteArray.empty)))))))))
theorem names_at (k : Int) : ((aget namesM k).map sV).getD (.string ByteArray.empty) = .string (typeT k) := by
  by_cases h : 0 ≤ k ∧ k ≤ 8
  · obtain ⟨a, b⟩ := h
    have : k = 0 ∨ k = 1 ∨ k = 2 ∨ k = 3 ∨ k = 4 ∨ k = 5 ∨ k = 6 ∨ k = 7 ∨ k = 8 := by omega
    rcases this with rfl | rfl | rfl | rfl | rfl | rfl | rfl | rfl | rfl <;> rfl
  · have e : aget namesM k = none := by
      show (if (0 : Int) = k then _ else if (1 : Int) = k then _ else if (2 : Int) = k then _ else if (3 : Int) = k then _ else if (4 : Int) = k then _ else if (5 : Int) = k then _ else if (6 : Int) = k then _ else if (7 : Int) = k then _ else if (8 : Int) = k then _ else _) = _
      rw [if_neg (by omega), if_neg (by omega), if_neg (by omega), if_neg (by omega), if_neg (by omega), if_neg (by omega), if_neg (by omega), if_neg (by omega), if_neg (by omega)]; rfl
    rw [e, typeT]
    rw [if_neg (by omega), if_neg (by omega), if_neg (by omega), if_neg (by omega), if_neg (by omega), if_neg (by omega), if_neg (by omega), if_neg (by omega), if_neg (by omega)]; rfl
theorem nmOk : KTy.Ok (β := ByteArray) (intK 3) Tryd.prog := intK_ok Tryd.underlying3
theorem names_s {Z : Zone} : SF Tryd.prog 49 #[] Z [] fun v Bs => ∃ b, v = .map (some b) ∧ Bs = [mpA (intK 3) sV b namesM] := by
  refine sf_enter Tryd.func49 3 [] (fun w0 => ?_)
  refine k_seq ?_
  refine k_reg ?_
  refine s_lt (t_pure (.map none)) ?_
  refine s_nil ?_
  refine xs_then ?_
  refine k_seq ?_
  refine k_reg ?_
  refine s_makeMap (intK 3) sV (fun b1 => ?_)
  refine s_insert 0 nmOk Tryd.underlying89 0 ⟨#[110, 105, 108]⟩ ?_
  refine s_insert 0 nmOk Tryd.underlying89 1 ⟨#[98, 111, 111, 108, 101, 97, 110]⟩ ?_
  refine s_insert 0 nmOk Tryd.underlying89 2 ⟨#[110, 117, 109, 98, 101, 114]⟩ ?_
  refine s_insert 0 nmOk Tryd.underlying89 3 ⟨#[115, 116, 114, 105, 110, 103]⟩ ?_
  refine s_insert 0 nmOk Tryd.underlying89 4 ⟨#[116, 97, 98, 108, 101]⟩ ?_
  refine s_insert 0 nmOk Tryd.underlying89 5 ⟨#[102, 117, 110, 99, 116, 105, 111, 110]⟩ ?_
  refine s_insert 0 nmOk Tryd.underlying89 6 ⟨#[102, 117, 110, 99, 116, 105, 111, 110]⟩ ?_
  refine s_insert 0 nmOk Tryd.underlying89 7 ⟨#[116, 104, 114, 101, 97, 100]⟩ ?_
  refine s_insert 0 nmOk Tryd.underlying89 8 ⟨#[117, 115, 101, 114, 100, 97, 116, 97]⟩ ?_
  refine s_lt (t_pure (.map (some b1))) ?_
  refine s_lt (t_pure (.map (some b1))) ?_
  refine s_nil ?_
  refine xs_then ?_
  refine k_ret ?_
  exact xs_fin [.map (some b1)] [mpA (intK 3) sV b1 namesM] (SI.tmp 0 SI.nil) (fun _ h => h) ⟨_, rfl, rfl⟩
theorem type_s {Z : Zone} (v : Vl) : SF Tryd.prog 44 #[v.v] Z [] fun r Bs => r = .string (typeT v.kind) ∧ Bs = [] := by
  refine sf_enter Tryd.func44 7 [(0, .agg #[.int .i64 v.kind, .int .i64 v.p, .int .i64 v.q, .string v.str, .int .i64 v.ref])] (fun w0 => ?_)
  refine k_seq ?_
  refine k_reg ?_
  refine s_box #[.int .i64 v.kind, .int .i64 v.p, .int .i64 v.q, .string v.str, .int .i64 v.ref] (fun g1 => ?_)
  refine s_lt (t_pure (.string ByteArray.empty)) ?_
  refine s_nil ?_
  refine xs_then ?_
  refine k_seq ?_
  refine k_held [blkA g1 #[.int .i64 v.kind, .int .i64 v.p, .int .i64 v.q, .string v.str, .int .i64 v.ref] 39] ?_
  refine h_lt 1 rfl (np_then np_finS) [0] (fun _ => (t_pure (.pointer (some ⟨g1, 0, none⟩)))) ?_
  refine h_lt 2 rfl (np_then np_finS) [0] (fun _ => (t_load 0 (.int .i64 v.kind))) ?_
  refine h_stepS 0 ?_
  refine s_pcall (fun _ h => names_s) ?_
  rintro _ _ ⟨b2, rfl, rfl⟩
  refine s_nil (xs_held [1] ?_)
  refine h_stepS 3 ?_
  refine s_lt (Lt.to (v' := .string (typeT v.kind)) (t_lookup 0 nmOk Tryd.underlying89 (.string ByteArray.empty) v.kind) (names_at v.kind)) ?_
  refine s_nil (xs_held [1] ?_)
  refine h_lt 4 rfl (np_then np_finS) [1] (fun _ => (t_pure (.string (typeT v.kind)))) ?_
  refine h_doneS ?_
  refine xs_then ?_
  refine k_ret ?_
  refine xs_fin [.string (typeT v.kind)] [] (SI.tmp 2 SI.nil) (fun _ h => h.re [] [0, 0]) ⟨?_, rfl⟩
  first | rfl | (refine congrArg Value.string ?_; simp [typeT]; done) | (simp_all [typeT, pack]; done)
end Go.Proofs.YtdakfjdbdopmbaaDoor
