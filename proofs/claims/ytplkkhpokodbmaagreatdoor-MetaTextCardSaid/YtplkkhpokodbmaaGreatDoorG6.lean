/-
  Layer 15: needs, the texts of types. Each law says its conditions.
-/
import Derived.Test.YtplkkhpokodbmaaGreatDoorG5
import Derived.Test.YtplkkhpokodbmaaGreatDoorG2
import Derived.Lib.ItoaNum
import Derived.Shelf.Strconv.Itoa3
import Derived.Test.YtplkkhpokodbmaaGreatDoorProg
import Derived.Test.YtplkkhpokodbmaaGreatDoorG1
import Derived.Test.YtplkkhpokodbmaaGreatDoorG4
import Derived.Test.YtplkkhpokodbmaaGreatDoorRows
import Derived.Lib.LaidTab
import Derived.Stop.LaidErr
import Derived.Test.YtplkkhpokodbmaaGreatDoorCards
import Derived.Test.YtplkkhpokodbmaaGreatDoorTie
import Derived.WalkKit
import Derived.ProofKit
import Derived.OpenShut
import Derived.Deep.DeepHandedRow
section
set_option linter.unusedSimpArgs false
set_option linter.unusedVariables false
set_option maxRecDepth 100000
set_option maxHeartbeats 2000000
namespace Go.Proofs.YtplkkhpokodbmaaGreatDoor
open Go.Hp Go.J Go.S
open Go.Mem (Ty KTy blk elemAt pre suf blk_pre blk_suf aget aset strK aggDesc)
open Go.Mem (adel apos aget_aset aget_adel)
def strW (s : ByteArray) : Value := .string s
def typeB (n : Int) : ByteArray := if n = 8 then ⟨#[117, 115, 101, 114, 100, 97, 116, 97]⟩ else if n = 7 then ⟨#[116, 104, 114, 101, 97, 100]⟩ else if n = 6 then ⟨#[102, 117, 110, 99, 116, 105, 111, 110]⟩ else if n = 5 then ⟨#[102, 117, 110, 99, 116, 105, 111, 110]⟩ else if n = 4 then ⟨#[116, 97, 98, 108, 101]⟩ else if n = 3 then ⟨#[115, 116, 114, 105, 110, 103]⟩ else if n = 2 then ⟨#[110, 117, 109, 98, 101, 114]⟩ else if n = 1 then ⟨#[98, 111, 111, 108, 101, 97, 110]⟩ else if n = 0 then ⟨#[110, 105, 108]⟩ else ByteArray.empty
def namesL : List (Int × ByteArray) := (aset (aset (aset (aset (aset (aset (aset (aset (aset [] 0 ⟨#[110, 105, 108]⟩) 1 ⟨#[98, 111, 111, 108, 101, 97, 110]⟩) 2 ⟨#[110, 117, 109, 98, 101, 114]⟩) 3 ⟨#[115, 116, 114, 105, 110, 103]⟩) 4 ⟨#[116, 97, 98, 108, 101]⟩) 5 ⟨#[102, 117, 110, 99, 116, 105, 111, 110]⟩) 6 ⟨#[102, 117, 110, 99, 116, 105, 111, 110]⟩) 7 ⟨#[116, 104, 114, 101, 97, 100]⟩) 8 ⟨#[117, 115, 101, 114, 100, 97, 116, 97]⟩)
theorem names_get (n : Int) : ((aget namesL n).map strW).getD (.string ByteArray.empty) = .string (typeB n) := by
  by_cases h8 : n = 8
  · subst h8; rfl
  by_cases h7 : n = 7
  · subst h7; rfl
  by_cases h6 : n = 6
  · subst h6; rfl
  by_cases h5 : n = 5
  · subst h5; rfl
  by_cases h4 : n = 4
  · subst h4; rfl
  by_cases h3 : n = 3
  · subst h3; rfl
  by_cases h2 : n = 2
  · subst h2; rfl
  by_cases h1 : n = 1
  · subst h1; rfl
  by_cases h0 : n = 0
  · subst h0; rfl
  simp [namesL, typeB, aget_aset, h0, h1, h2, h3, h4, h5, h6, h7, h8, Ne.symm h0, Ne.symm h1, Ne.symm h2, Ne.symm h3, Ne.symm h4, Ne.symm h5, Ne.symm h6, Ne.symm h7, Ne.symm h8]
  rfl
theorem typeB_size (n : Int) : (typeB n).size ≤ 10 := by
  unfold typeB
  repeat' split
  all_goals decide
theorem cat_le {a b : ByteArray} {n m : Nat} (ha : a.size ≤ n) (hb : b.size ≤ m) : (a ++ b).size ≤ n + m := by rw [ByteArray.size_append]; omega
theorem cat_ok {a b : ByteArray} {n m : Nat} (ha : a.size ≤ n) (hb : b.size ≤ m) (h : n + m ≤ 100000) : ((a.size : Int) + b.size) ≤ 9223372036854775807 := by omega
theorem names_s {Z : Zone} : SF Tryz.prog 114 #[] Z [] fun r Bs => ∃ b, r = .map (some b) ∧ Bs = [mpA iK strW b namesL] := by
 refine sf_enter Tryz.func114 3 [] (fun w0 => ?_)
 refine k_sr ?_
 refine sp (.map none) ?_
 refine s_nr ?_
 refine s_makeMap iK strW (fun b1 => ?_)
 refine s_insert 0 intOk Tryz.underlying130 0 (⟨#[110, 105, 108]⟩ : ByteArray) ?_
 refine s_insert 0 intOk Tryz.underlying130 1 (⟨#[98, 111, 111, 108, 101, 97, 110]⟩ : ByteArray) ?_
 refine s_insert 0 intOk Tryz.underlying130 2 (⟨#[110, 117, 109, 98, 101, 114]⟩ : ByteArray) ?_
 refine s_insert 0 intOk Tryz.underlying130 3 (⟨#[115, 116, 114, 105, 110, 103]⟩ : ByteArray) ?_
 refine s_insert 0 intOk Tryz.underlying130 4 (⟨#[116, 97, 98, 108, 101]⟩ : ByteArray) ?_
 refine s_insert 0 intOk Tryz.underlying130 5 (⟨#[102, 117, 110, 99, 116, 105, 111, 110]⟩ : ByteArray) ?_
 refine s_insert 0 intOk Tryz.underlying130 6 (⟨#[102, 117, 110, 99, 116, 105, 111, 110]⟩ : ByteArray) ?_
 refine s_insert 0 intOk Tryz.underlying130 7 (⟨#[116, 104, 114, 101, 97, 100]⟩ : ByteArray) ?_
 refine s_insert 0 intOk Tryz.underlying130 8 (⟨#[117, 115, 101, 114, 100, 97, 116, 97]⟩ : ByteArray) ?_
 refine sp (.map (some b1)) ?_
 refine sp (.map (some b1)) ?_
 refine s_nt ?_
 refine k_ret ?_
 exact xs_fin [.map (some b1)] [mpA iK strW b1 namesL] (SI.tmp 0 SI.nil) (fun _ h => h.re [0] []) ⟨b1, rfl, rfl⟩
theorem type_s {Z : Zone} (v : Vl) : SF Tryz.prog 88 #[v.v] Z [] fun r Bs => r = .string (typeB v.kind) ∧ Bs = [] := by
 refine sf_enter Tryz.func88 7 [(0, .agg #[.int .i64 v.kind, .int .i64 v.p, .int .i64 v.q, .string v.str, .int .i64 v.ref])] (fun w0 => ?_)
 refine k_sr ?_
 refine s_box #[.int .i64 v.kind, .int .i64 v.p, .int .i64 v.q, .string v.str, .int .i64 v.ref] (fun g1 => ?_)
 refine sp (.string ByteArray.empty) ?_
 refine s_nt ?_
 refine k_seq ?_
 refine k_held [blkA g1 #[.int .i64 v.kind, .int .i64 v.p, .int .i64 v.q, .string v.str, .int .i64 v.ref] 26] ?_
 refine hp_ 1 [0] (pB g1 0) ?_
 refine h_l 2 rfl [0] (fun _ => (t_load 0 (.int .i64 v.kind))) ?_
 refine h_stepS 0 ?_
 refine s_pcall (fun _ h => names_s) ?_
 rintro _ _ ⟨nb2, rfl, rfl⟩
 refine s_nil (xs_held [1] ?_)
 refine h_stepS 3 ?_
 refine s_lt (Lt.to (t_lookup 0 intOk Tryz.underlying130 (.string ByteArray.empty) v.kind) (names_get _)) ?_
 refine s_nil (xs_held [1] ?_)
 refine hp_ 4 [1] (.string (typeB v.kind)) ?_
 refine h_doneS ?_
 refine xs_then ?_
 refine k_ret ?_
 exact xs_fin [.string (typeB v.kind)] [] (SI.tmp 2 SI.nil) (fun _ h => h.re [] [0, 0]) ⟨rfl, rfl⟩
theorem rtype_s {Z : Zone} (v : Vl) : SF Tryz.prog 54 #[v.v] Z [] fun r Bs => r = .string (typeB v.kind) ∧ Bs = [] := by
 refine sf_enter Tryz.func54 22 [(0, .agg #[.int .i64 v.kind, .int .i64 v.p, .int .i64 v.q, .string v.str, .int .i64 v.ref])] (fun w0 => ?_)
 refine k_sr ?_
 refine s_box #[.int .i64 v.kind, .int .i64 v.p, .int .i64 v.q, .string v.str, .int .i64 v.ref] (fun g1 => ?_)
 refine sp (.string ByteArray.empty) ?_
 refine s_nt ?_
 refine k_seq ?_
 refine k_sr ?_
 refine sp (pB g1 0) ?_
 refine s_lt (t_load 0 (.int .i64 v.kind)) ?_
 refine s_nt ?_
 refine k_block ?_
 refine k_sr ?_
 refine s_lt t_cmp ?_
 refine sp (.bool (decide (v.kind = 0))) ?_
 refine s_nt ?_
 refine k_cond (decide (v.kind = 0)) (fun c2 => ?_) (fun c2 => ?_)
 ·
  have p3 := of_decide_eq_true c2
  refine k_sr ?_
  refine sp (.string ⟨#[110, 105, 108]⟩) ?_
  refine s_nt ?_
  refine k_ret ?_
  refine xs_retBlock ?_
  refine xs_ret ?_
  refine xs_fin [.string ⟨#[110, 105, 108]⟩] [] (SI.tmp 2 SI.nil) (fun _ h => h.re [] [0]) ⟨congrArg Value.string ?_, rfl⟩
  unfold typeB; simp_all
 ·
  have p4 := of_decide_eq_false c2
  refine k_sr ?_
  refine s_lt t_cmp ?_
  refine sp (.bool (decide (v.kind = 1))) ?_
  refine s_nt ?_
  refine k_cond (decide (v.kind = 1)) (fun c5 => ?_) (fun c5 => ?_)
  ·
   have p6 := of_decide_eq_true c5
   refine k_sr ?_
   refine sp (.string ⟨#[98, 111, 111, 108, 101, 97, 110]⟩) ?_
   refine s_nt ?_
   refine k_ret ?_
   refine xs_retBlock ?_
   refine xs_ret ?_
   refine xs_fin [.string ⟨#[98, 111, 111, 108, 101, 97, 110]⟩] [] (SI.tmp 2 SI.nil) (fun _ h => h.re [] [0]) ⟨congrArg Value.string ?_, rfl⟩
   unfold typeB; simp_all
  ·
   have p7 := of_decide_eq_false c5
   refine k_sr ?_
   refine s_lt t_cmp ?_
   refine sp (.bool (decide (v.kind = 2))) ?_
   refine s_nt ?_
   refine k_cond (decide (v.kind = 2)) (fun c8 => ?_) (fun c8 => ?_)
   ·
    have p9 := of_decide_eq_true c8
    refine k_sr ?_
    refine sp (.string ⟨#[110, 117, 109, 98, 101, 114]⟩) ?_
    refine s_nt ?_
    refine k_ret ?_
    refine xs_retBlock ?_
    refine xs_ret ?_
    refine xs_fin [.string ⟨#[110, 117, 109, 98, 101, 114]⟩] [] (SI.tmp 2 SI.nil) (fun _ h => h.re [] [0]) ⟨congrArg Value.string ?_, rfl⟩
    unfold typeB; simp_all
   ·
    have p10 := of_decide_eq_false c8
    refine k_sr ?_
    refine s_lt t_cmp ?_
    refine sp (.bool (decide (v.kind = 3))) ?_
    refine s_nt ?_
    refine k_cond (decide (v.kind = 3)) (fun c11 => ?_) (fun c11 => ?_)
    ·
     have p12 := of_decide_eq_true c11
     refine k_sr ?_
     refine sp (.string ⟨#[115, 116, 114, 105, 110, 103]⟩) ?_
     refine s_nt ?_
     refine k_ret ?_
     refine xs_retBlock ?_
     refine xs_ret ?_
     refine xs_fin [.string ⟨#[115, 116, 114, 105, 110, 103]⟩] [] (SI.tmp 2 SI.nil) (fun _ h => h.re [] [0]) ⟨congrArg Value.string ?_, rfl⟩
     unfold typeB; simp_all
    ·
     have p13 := of_decide_eq_false c11
     refine k_sr ?_
     refine s_lt t_cmp ?_
     refine sp (.bool (decide (v.kind = 4))) ?_
     refine s_nt ?_
     refine k_cond (decide (v.kind = 4)) (fun c14 => ?_) (fun c14 => ?_)
     ·
      have p15 := of_decide_eq_true c14
      refine k_sr ?_
      refine sp (.string ⟨#[116, 97, 98, 108, 101]⟩) ?_
      refine s_nt ?_
      refine k_ret ?_
      refine xs_retBlock ?_
      refine xs_ret ?_
      refine xs_fin [.string ⟨#[116, 97, 98, 108, 101]⟩] [] (SI.tmp 2 SI.nil) (fun _ h => h.re [] [0]) ⟨congrArg Value.string ?_, rfl⟩
      unfold typeB; simp_all
     ·
      have p16 := of_decide_eq_false c14
      refine k_seq ?_
      refine k_sr ?_
      refine s_lt t_cmp ?_
      refine sp (.bool (decide (v.kind = 5))) ?_
      refine s_nt ?_
      refine k_cond (decide (v.kind = 5)) (fun c17 => ?_) (fun c17 => ?_)
      ·
       have p18 := of_decide_eq_true c17
       refine k_st ?_
       refine k_true (hv := congrArg Value.bool c17) ?_
       refine k_sr ?_
       refine sp (.string ⟨#[102, 117, 110, 99, 116, 105, 111, 110]⟩) ?_
       refine s_nt ?_
       refine k_ret ?_
       refine xs_retBlock ?_
       refine xs_ret ?_
       refine xs_fin [.string ⟨#[102, 117, 110, 99, 116, 105, 111, 110]⟩] [] (SI.tmp 2 SI.nil) (fun _ h => h.re [] [0]) ⟨congrArg Value.string ?_, rfl⟩
       unfold typeB; simp_all
      ·
       have p19 := of_decide_eq_false c17
       refine k_reg ?_
       refine s_lt t_cmp ?_
       refine sp (.bool (decide (v.kind = 6))) ?_
       refine s_nt ?_
       refine k_cond (decide (v.kind = 6)) (fun c20 => ?_) (fun c20 => ?_)
       ·
        have p21 := of_decide_eq_true c20
        refine k_sr ?_
        refine sp (.string ⟨#[102, 117, 110, 99, 116, 105, 111, 110]⟩) ?_
        refine s_nt ?_
        refine k_ret ?_
        refine xs_retBlock ?_
        refine xs_ret ?_
        refine xs_fin [.string ⟨#[102, 117, 110, 99, 116, 105, 111, 110]⟩] [] (SI.tmp 2 SI.nil) (fun _ h => h.re [] [0]) ⟨congrArg Value.string ?_, rfl⟩
        unfold typeB; simp_all
       ·
        have p22 := of_decide_eq_false c20
        refine k_sr ?_
        refine s_lt t_cmp ?_
        refine sp (.bool (decide (v.kind = 7))) ?_
        refine s_nt ?_
        refine k_cond (decide (v.kind = 7)) (fun c23 => ?_) (fun c23 => ?_)
        ·
         have p24 := of_decide_eq_true c23
         refine k_sr ?_
         refine sp (.string ⟨#[116, 104, 114, 101, 97, 100]⟩) ?_
         refine s_nt ?_
         refine k_ret ?_
         refine xs_retBlock ?_
         refine xs_ret ?_
         refine xs_fin [.string ⟨#[116, 104, 114, 101, 97, 100]⟩] [] (SI.tmp 2 SI.nil) (fun _ h => h.re [] [0]) ⟨congrArg Value.string ?_, rfl⟩
         unfold typeB; simp_all
        ·
         have p25 := of_decide_eq_false c23
         refine k_sr ?_
         refine s_lt t_cmp ?_
         refine sp (.bool (decide (v.kind = 8))) ?_
         refine s_nt ?_
         refine k_cond (decide (v.kind = 8)) (fun c26 => ?_) (fun c26 => ?_)
         ·
          have p27 := of_decide_eq_true c26
          refine k_sr ?_
          refine sp (.string ⟨#[117, 115, 101, 114, 100, 97, 116, 97]⟩) ?_
          refine s_nt ?_
          refine k_ret ?_
          refine xs_retBlock ?_
          refine xs_ret ?_
          refine xs_fin [.string ⟨#[117, 115, 101, 114, 100, 97, 116, 97]⟩] [] (SI.tmp 2 SI.nil) (fun _ h => h.re [] [0]) ⟨congrArg Value.string ?_, rfl⟩
          unfold typeB; simp_all
         ·
          have p28 := of_decide_eq_false c26
          refine k_skip ?_
          refine xs_block ?_
          refine xs_then ?_
          refine k_sr ?_
          refine sp (.string ByteArray.empty) ?_
          refine s_nt ?_
          refine k_ret ?_
          refine xs_fin [.string ByteArray.empty] [] (SI.tmp 2 SI.nil) (fun _ h => h.re [] [0]) ⟨congrArg Value.string ?_, rfl⟩
          unfold typeB; simp_all
def lenB (n : Int) : ByteArray := (⟨#[97, 116, 116, 101, 109, 112, 116, 32, 116, 111, 32, 103, 101, 116, 32, 108, 101, 110, 103, 116, 104, 32, 111, 102, 32, 97, 32]⟩ ++ typeB n) ++ ⟨#[32, 118, 97, 108, 117, 101]⟩
theorem attempt2_s {Z : Zone} (v : Vl) : SF Tryz.prog 49 #[.string ⟨#[103, 101, 116, 32, 108, 101, 110, 103, 116, 104, 32, 111, 102]⟩, v.v] Z [] fun r Bs => r = .string (lenB v.kind) ∧ Bs = [] := by
 refine sf_enter Tryz.func49 12 [(0, .string ⟨#[103, 101, 116, 32, 108, 101, 110, 103, 116, 104, 32, 111, 102]⟩), (1, .agg #[.int .i64 v.kind, .int .i64 v.p, .int .i64 v.q, .string v.str, .int .i64 v.ref])] (fun w0 => ?_)
 refine k_sr ?_
 refine s_box #[.int .i64 v.kind, .int .i64 v.p, .int .i64 v.q, .string v.str, .int .i64 v.ref] (fun g1 => ?_)
 refine sp (.string ByteArray.empty) ?_
 refine s_nr ?_
 refine sp (.string ⟨#[103, 101, 116, 32, 108, 101, 110, 103, 116, 104, 32, 111, 102]⟩) ?_
 refine s_lt (Lt.to (v' := .string ⟨#[97, 116, 116, 101, 109, 112, 116, 32, 116, 111, 32, 103, 101, 116, 32, 108, 101, 110, 103, 116, 104, 32, 111, 102]⟩) (t_cat ⟨#[97, 116, 116, 101, 109, 112, 116, 32, 116, 111, 32]⟩ ⟨#[103, 101, 116, 32, 108, 101, 110, 103, 116, 104, 32, 111, 102]⟩ (cat_ok (by decide : (⟨#[97, 116, 116, 101, 109, 112, 116, 32, 116, 111, 32]⟩ : ByteArray).size ≤ 11) (by decide : (⟨#[103, 101, 116, 32, 108, 101, 110, 103, 116, 104, 32, 111, 102]⟩ : ByteArray).size ≤ 13) (by decide))) (by kernel_rfl)) ?_
 refine s_lt (Lt.to (v' := .string ⟨#[97, 116, 116, 101, 109, 112, 116, 32, 116, 111, 32, 103, 101, 116, 32, 108, 101, 110, 103, 116, 104, 32, 111, 102, 32, 97, 32]⟩) (t_cat ⟨#[97, 116, 116, 101, 109, 112, 116, 32, 116, 111, 32, 103, 101, 116, 32, 108, 101, 110, 103, 116, 104, 32, 111, 102]⟩ ⟨#[32, 97, 32]⟩ (cat_ok (by decide : (⟨#[97, 116, 116, 101, 109, 112, 116, 32, 116, 111, 32, 103, 101, 116, 32, 108, 101, 110, 103, 116, 104, 32, 111, 102]⟩ : ByteArray).size ≤ 24) (by decide : (⟨#[32, 97, 32]⟩ : ByteArray).size ≤ 3) (by decide))) (by kernel_rfl)) ?_
 refine s_lt (t_loadA 0 #[.int .i64 v.kind, .int .i64 v.p, .int .i64 v.q, .string v.str, .int .i64 v.ref]) ?_
 refine s_vcall (fun _ h => type_s v) ?_
 rintro _ rfl
 refine s_lt (t_cat ⟨#[97, 116, 116, 101, 109, 112, 116, 32, 116, 111, 32, 103, 101, 116, 32, 108, 101, 110, 103, 116, 104, 32, 111, 102, 32, 97, 32]⟩ (typeB v.kind) (cat_ok (by decide : (⟨#[97, 116, 116, 101, 109, 112, 116, 32, 116, 111, 32, 103, 101, 116, 32, 108, 101, 110, 103, 116, 104, 32, 111, 102, 32, 97, 32]⟩ : ByteArray).size ≤ 27) (typeB_size _) (by decide))) ?_
 refine s_lt (t_cat (⟨#[97, 116, 116, 101, 109, 112, 116, 32, 116, 111, 32, 103, 101, 116, 32, 108, 101, 110, 103, 116, 104, 32, 111, 102, 32, 97, 32]⟩ ++ (typeB v.kind)) ⟨#[32, 118, 97, 108, 117, 101]⟩ (cat_ok (cat_le (by decide : (⟨#[97, 116, 116, 101, 109, 112, 116, 32, 116, 111, 32, 103, 101, 116, 32, 108, 101, 110, 103, 116, 104, 32, 111, 102, 32, 97, 32]⟩ : ByteArray).size ≤ 27) (typeB_size _)) (by decide : (⟨#[32, 118, 97, 108, 117, 101]⟩ : ByteArray).size ≤ 6) (by decide))) ?_
 refine sp (.string ((⟨#[97, 116, 116, 101, 109, 112, 116, 32, 116, 111, 32, 103, 101, 116, 32, 108, 101, 110, 103, 116, 104, 32, 111, 102, 32, 97, 32]⟩ ++ (typeB v.kind)) ++ ⟨#[32, 118, 97, 108, 117, 101]⟩)) ?_
 refine s_nt ?_
 refine k_ret ?_
 exact xs_fin [.string ((⟨#[97, 116, 116, 101, 109, 112, 116, 32, 116, 111, 32, 103, 101, 116, 32, 108, 101, 110, 103, 116, 104, 32, 111, 102, 32, 97, 32]⟩ ++ (typeB v.kind)) ++ ⟨#[32, 118, 97, 108, 117, 101]⟩)] [] (SI.tmp 4 SI.nil) (fun _ h => h.re [] [0]) ⟨rfl, rfl⟩
structure Nd where
  kind : Int
  val : Vl
  fn : Vl
  args : List Vl
  after : Int
  str : ByteArray
def Nd.w (x : Nd) (av : Value) : Value := .agg #[.int .i64 x.kind, .int .i64 x.val.kind, .int .i64 x.val.p, .int .i64 x.val.q, .string x.val.str, .int .i64 x.val.ref, .int .i64 x.fn.kind, .int .i64 x.fn.p, .int .i64 x.fn.q, .string x.fn.str, .int .i64 x.fn.ref, av, .int .i64 x.after, .string x.str]
def giveN (v : Vl) : Nd := ⟨1, v, zVl, [], 0, ByteArray.empty⟩
def failN (s : ByteArray) : Nd := ⟨3, zVl, zVl, [], 0, s⟩
def callN (f : Vl) (after : Int) (l : List Vl) : Nd := ⟨2, zVl, f, l, after, ByteArray.empty⟩
theorem given_s {Z : Zone} (v : Vl) : SF Tryz.prog 38 #[v.v] Z [] fun r Bs => r = (giveN v).w (.slice none 0 0) ∧ Bs = [] := by
 refine sf_enter Tryz.func38 5 [(0, .agg #[.int .i64 v.kind, .int .i64 v.p, .int .i64 v.q, .string v.str, .int .i64 v.ref])] (fun w0 => ?_)
 refine k_sr ?_
 refine s_box #[.int .i64 v.kind, .int .i64 v.p, .int .i64 v.q, .string v.str, .int .i64 v.ref] (fun g1 => ?_)
 refine s_alloc (.agg #[.int .i64 0, .int .i64 0, .int .i64 0, .int .i64 0, .string ByteArray.empty, .int .i64 0, .int .i64 0, .int .i64 0, .int .i64 0, .string ByteArray.empty, .int .i64 0, (.slice none 0 0), .int .i64 0, .string ByteArray.empty]) #[.int .i64 0, .int .i64 0, .int .i64 0, .int .i64 0, .string ByteArray.empty, .int .i64 0, .int .i64 0, .int .i64 0, .int .i64 0, .string ByteArray.empty, .int .i64 0, (.slice none 0 0), .int .i64 0, .string ByteArray.empty] (fun g2 => ?_)
 refine s_nr ?_
 refine s_lt (t_loadA 1 #[.int .i64 v.kind, .int .i64 v.p, .int .i64 v.q, .string v.str, .int .i64 v.ref]) ?_
 refine s_lt (t_kern (.agg #[.int .i64 1, .int .i64 v.kind, .int .i64 v.p, .int .i64 v.q, .string v.str, .int .i64 v.ref, .int .i64 0, .int .i64 0, .int .i64 0, .string ByteArray.empty, .int .i64 0, (.slice none 0 0), .int .i64 0, .string ByteArray.empty])) ?_
 refine s_store 0 #[.int .i64 1, .int .i64 v.kind, .int .i64 v.p, .int .i64 v.q, .string v.str, .int .i64 v.ref, .int .i64 0, .int .i64 0, .int .i64 0, .string ByteArray.empty, .int .i64 0, (.slice none 0 0), .int .i64 0, .string ByteArray.empty] ?_
 refine s_nt ?_
 refine k_ret ?_
 exact xs_fin [.agg #[.int .i64 1, .int .i64 v.kind, .int .i64 v.p, .int .i64 v.q, .string v.str, .int .i64 v.ref, .int .i64 0, .int .i64 0, .int .i64 0, .string ByteArray.empty, .int .i64 0, (.slice none 0 0), .int .i64 0, .string ByteArray.empty]] [] (SI.agg 2 41 0 SI.nil) (fun _ h => h.re [] [0, 0]) ⟨rfl, rfl⟩
theorem give_s {Z : Zone} (v : Vl) : SF Tryz.prog 50 #[v.v] Z [] fun r Bs => r = (giveN v).w (.slice none 0 0) ∧ Bs = [] := by
 refine sf_enter Tryz.func50 5 [(0, .agg #[.int .i64 v.kind, .int .i64 v.p, .int .i64 v.q, .string v.str, .int .i64 v.ref])] (fun w0 => ?_)
 refine k_sr ?_
 refine s_box #[.int .i64 v.kind, .int .i64 v.p, .int .i64 v.q, .string v.str, .int .i64 v.ref] (fun g1 => ?_)
 refine s_alloc (.agg #[.int .i64 0, .int .i64 0, .int .i64 0, .int .i64 0, .string ByteArray.empty, .int .i64 0, .int .i64 0, .int .i64 0, .int .i64 0, .string ByteArray.empty, .int .i64 0, (.slice none 0 0), .int .i64 0, .string ByteArray.empty]) #[.int .i64 0, .int .i64 0, .int .i64 0, .int .i64 0, .string ByteArray.empty, .int .i64 0, .int .i64 0, .int .i64 0, .int .i64 0, .string ByteArray.empty, .int .i64 0, (.slice none 0 0), .int .i64 0, .string ByteArray.empty] (fun g2 => ?_)
 refine s_nr ?_
 refine s_lt (t_loadA 1 #[.int .i64 v.kind, .int .i64 v.p, .int .i64 v.q, .string v.str, .int .i64 v.ref]) ?_
 refine s_lt (t_kern (.agg #[.int .i64 1, .int .i64 v.kind, .int .i64 v.p, .int .i64 v.q, .string v.str, .int .i64 v.ref, .int .i64 0, .int .i64 0, .int .i64 0, .string ByteArray.empty, .int .i64 0, (.slice none 0 0), .int .i64 0, .string ByteArray.empty])) ?_
 refine s_store 0 #[.int .i64 1, .int .i64 v.kind, .int .i64 v.p, .int .i64 v.q, .string v.str, .int .i64 v.ref, .int .i64 0, .int .i64 0, .int .i64 0, .string ByteArray.empty, .int .i64 0, (.slice none 0 0), .int .i64 0, .string ByteArray.empty] ?_
 refine s_nt ?_
 refine k_ret ?_
 exact xs_fin [.agg #[.int .i64 1, .int .i64 v.kind, .int .i64 v.p, .int .i64 v.q, .string v.str, .int .i64 v.ref, .int .i64 0, .int .i64 0, .int .i64 0, .string ByteArray.empty, .int .i64 0, (.slice none 0 0), .int .i64 0, .string ByteArray.empty]] [] (SI.agg 2 41 0 SI.nil) (fun _ h => h.re [] [0, 0]) ⟨rfl, rfl⟩
theorem failed_s {Z : Zone} (s : ByteArray) : SF Tryz.prog 48 #[.string s] Z [] fun r Bs => r = (failN s).w (.slice none 0 0) ∧ Bs = [] := by
 refine sf_enter Tryz.func48 5 [(0, .string s)] (fun w0 => ?_)
 refine k_sr ?_
 refine s_alloc (.agg #[.int .i64 0, .int .i64 0, .int .i64 0, .int .i64 0, .string ByteArray.empty, .int .i64 0, .int .i64 0, .int .i64 0, .int .i64 0, .string ByteArray.empty, .int .i64 0, (.slice none 0 0), .int .i64 0, .string ByteArray.empty]) #[.int .i64 0, .int .i64 0, .int .i64 0, .int .i64 0, .string ByteArray.empty, .int .i64 0, .int .i64 0, .int .i64 0, .int .i64 0, .string ByteArray.empty, .int .i64 0, (.slice none 0 0), .int .i64 0, .string ByteArray.empty] (fun g1 => ?_)
 refine s_nr ?_
 refine sp (.string s) ?_
 refine s_lt (t_kern (.agg #[.int .i64 3, .int .i64 0, .int .i64 0, .int .i64 0, .string ByteArray.empty, .int .i64 0, .int .i64 0, .int .i64 0, .int .i64 0, .string ByteArray.empty, .int .i64 0, (.slice none 0 0), .int .i64 0, .string s])) ?_
 refine s_store 0 #[.int .i64 3, .int .i64 0, .int .i64 0, .int .i64 0, .string ByteArray.empty, .int .i64 0, .int .i64 0, .int .i64 0, .int .i64 0, .string ByteArray.empty, .int .i64 0, (.slice none 0 0), .int .i64 0, .string s] ?_
 refine s_nt ?_
 refine k_ret ?_
 exact xs_fin [.agg #[.int .i64 3, .int .i64 0, .int .i64 0, .int .i64 0, .string ByteArray.empty, .int .i64 0, .int .i64 0, .int .i64 0, .int .i64 0, .string ByteArray.empty, .int .i64 0, (.slice none 0 0), .int .i64 0, .string s]] [] (SI.agg 2 41 0 SI.nil) (fun _ h => h.re [] [0]) ⟨rfl, rfl⟩
theorem fail_s {Z : Zone} (s : ByteArray) : SF Tryz.prog 53 #[.string s] Z [] fun r Bs => r = (failN s).w (.slice none 0 0) ∧ Bs = [] := by
 refine sf_enter Tryz.func53 5 [(0, .string s)] (fun w0 => ?_)
 refine k_sr ?_
 refine s_alloc (.agg #[.int .i64 0, .int .i64 0, .int .i64 0, .int .i64 0, .string ByteArray.empty, .int .i64 0, .int .i64 0, .int .i64 0, .int .i64 0, .string ByteArray.empty, .int .i64 0, (.slice none 0 0), .int .i64 0, .string ByteArray.empty]) #[.int .i64 0, .int .i64 0, .int .i64 0, .int .i64 0, .string ByteArray.empty, .int .i64 0, .int .i64 0, .int .i64 0, .int .i64 0, .string ByteArray.empty, .int .i64 0, (.slice none 0 0), .int .i64 0, .string ByteArray.empty] (fun g1 => ?_)
 refine s_nr ?_
 refine sp (.string s) ?_
 refine s_lt (t_kern (.agg #[.int .i64 3, .int .i64 0, .int .i64 0, .int .i64 0, .string ByteArray.empty, .int .i64 0, .int .i64 0, .int .i64 0, .int .i64 0, .string ByteArray.empty, .int .i64 0, (.slice none 0 0), .int .i64 0, .string s])) ?_
 refine s_store 0 #[.int .i64 3, .int .i64 0, .int .i64 0, .int .i64 0, .string ByteArray.empty, .int .i64 0, .int .i64 0, .int .i64 0, .int .i64 0, .string ByteArray.empty, .int .i64 0, (.slice none 0 0), .int .i64 0, .string s] ?_
 refine s_nt ?_
 refine k_ret ?_
 exact xs_fin [.agg #[.int .i64 3, .int .i64 0, .int .i64 0, .int .i64 0, .string ByteArray.empty, .int .i64 0, .int .i64 0, .int .i64 0, .int .i64 0, .string ByteArray.empty, .int .i64 0, (.slice none 0 0), .int .i64 0, .string s]] [] (SI.agg 2 41 0 SI.nil) (fun _ h => h.re [] [0]) ⟨rfl, rfl⟩
theorem called_s {Z : Zone} (f : Vl) (n : Int) (p : Option Addr) (l q : Nat) (L : List Vl) : SF Tryz.prog 34 #[f.v, .int .i64 n, .slice p l q] Z [] fun r Bs => r = (callN f n L).w (.slice p l q) ∧ Bs = [] := by
 refine sf_enter Tryz.func34 11 [(0, .agg #[.int .i64 f.kind, .int .i64 f.p, .int .i64 f.q, .string f.str, .int .i64 f.ref]), (1, .int .i64 n), (2, (.slice p l q))] (fun w0 => ?_)
 refine k_sr ?_
 refine s_box #[.int .i64 f.kind, .int .i64 f.p, .int .i64 f.q, .string f.str, .int .i64 f.ref] (fun g1 => ?_)
 refine s_alloc (.agg #[.int .i64 0, .int .i64 0, .int .i64 0, .int .i64 0, .string ByteArray.empty, .int .i64 0, .int .i64 0, .int .i64 0, .int .i64 0, .string ByteArray.empty, .int .i64 0, (.slice none 0 0), .int .i64 0, .string ByteArray.empty]) #[.int .i64 0, .int .i64 0, .int .i64 0, .int .i64 0, .string ByteArray.empty, .int .i64 0, .int .i64 0, .int .i64 0, .int .i64 0, .string ByteArray.empty, .int .i64 0, (.slice none 0 0), .int .i64 0, .string ByteArray.empty] (fun g2 => ?_)
 refine s_nr ?_
 refine s_lt (t_loadA 1 #[.int .i64 f.kind, .int .i64 f.p, .int .i64 f.q, .string f.str, .int .i64 f.ref]) ?_
 refine sp (.slice p l q) ?_
 refine sp (.int .i64 n) ?_
 refine s_lt (t_kern (.agg #[.int .i64 2, .int .i64 0, .int .i64 0, .int .i64 0, .string ByteArray.empty, .int .i64 0, .int .i64 f.kind, .int .i64 f.p, .int .i64 f.q, .string f.str, .int .i64 f.ref, (.slice p l q), .int .i64 n, .string ByteArray.empty])) ?_
 refine s_store 0 #[.int .i64 2, .int .i64 0, .int .i64 0, .int .i64 0, .string ByteArray.empty, .int .i64 0, .int .i64 f.kind, .int .i64 f.p, .int .i64 f.q, .string f.str, .int .i64 f.ref, (.slice p l q), .int .i64 n, .string ByteArray.empty] ?_
 refine s_nt ?_
 refine k_ret ?_
 exact xs_fin [.agg #[.int .i64 2, .int .i64 0, .int .i64 0, .int .i64 0, .string ByteArray.empty, .int .i64 0, .int .i64 f.kind, .int .i64 f.p, .int .i64 f.q, .string f.str, .int .i64 f.ref, (.slice p l q), .int .i64 n, .string ByteArray.empty]] [] (SI.agg 6 41 0 SI.nil) (fun _ h => h.re [] [0, 0]) ⟨rfl, rfl⟩
theorem rcall_s {Z : Zone} (f : Vl) (n : Int) (p : Option Addr) (l q : Nat) (L : List Vl) : SF Tryz.prog 41 #[f.v, .int .i64 n, .slice p l q] Z [] fun r Bs => r = (callN f n L).w (.slice p l q) ∧ Bs = [] := by
 refine sf_enter Tryz.func41 11 [(0, .agg #[.int .i64 f.kind, .int .i64 f.p, .int .i64 f.q, .string f.str, .int .i64 f.ref]), (1, .int .i64 n), (2, (.slice p l q))] (fun w0 => ?_)
 refine k_sr ?_
 refine s_box #[.int .i64 f.kind, .int .i64 f.p, .int .i64 f.q, .string f.str, .int .i64 f.ref] (fun g1 => ?_)
 refine s_alloc (.agg #[.int .i64 0, .int .i64 0, .int .i64 0, .int .i64 0, .string ByteArray.empty, .int .i64 0, .int .i64 0, .int .i64 0, .int .i64 0, .string ByteArray.empty, .int .i64 0, (.slice none 0 0), .int .i64 0, .string ByteArray.empty]) #[.int .i64 0, .int .i64 0, .int .i64 0, .int .i64 0, .string ByteArray.empty, .int .i64 0, .int .i64 0, .int .i64 0, .int .i64 0, .string ByteArray.empty, .int .i64 0, (.slice none 0 0), .int .i64 0, .string ByteArray.empty] (fun g2 => ?_)
 refine s_nr ?_
 refine s_lt (t_loadA 1 #[.int .i64 f.kind, .int .i64 f.p, .int .i64 f.q, .string f.str, .int .i64 f.ref]) ?_
 refine sp (.slice p l q) ?_
 refine sp (.int .i64 n) ?_
 refine s_lt (t_kern (.agg #[.int .i64 2, .int .i64 0, .int .i64 0, .int .i64 0, .string ByteArray.empty, .int .i64 0, .int .i64 f.kind, .int .i64 f.p, .int .i64 f.q, .string f.str, .int .i64 f.ref, (.slice p l q), .int .i64 n, .string ByteArray.empty])) ?_
 refine s_store 0 #[.int .i64 2, .int .i64 0, .int .i64 0, .int .i64 0, .string ByteArray.empty, .int .i64 0, .int .i64 f.kind, .int .i64 f.p, .int .i64 f.q, .string f.str, .int .i64 f.ref, (.slice p l q), .int .i64 n, .string ByteArray.empty] ?_
 refine s_nt ?_
 refine k_ret ?_
 exact xs_fin [.agg #[.int .i64 2, .int .i64 0, .int .i64 0, .int .i64 0, .string ByteArray.empty, .int .i64 0, .int .i64 f.kind, .int .i64 f.p, .int .i64 f.q, .string f.str, .int .i64 f.ref, (.slice p l q), .int .i64 n, .string ByteArray.empty]] [] (SI.agg 6 41 0 SI.nil) (fun _ h => h.re [] [0, 0]) ⟨rfl, rfl⟩
section
variable {S : Vl → Vl → Nd × Bool} {C : Vl → Vl → Nd} {H : Vl → Vl} {i : Nat} {q : Vl}
end
end Go.Proofs.YtplkkhpokodbmaaGreatDoor
end
section
set_option linter.unusedSimpArgs false
set_option linter.unusedVariables false
namespace Go.Proofs.YtplkkhpokodbmaaGreatDoor
open Go.Lib (decDigits itoa)
theorem u64_wrap {z : Int} (h0 : 0 ≤ z) (h1 : z < 18446744073709551616) : IntKind.u64.wrap z = z := by
  simp [IntKind.wrap, IntKind.bits, IntKind.signed]; omega
theorem u64_neg {n : Int} (h0 : -9223372036854775808 ≤ n) (h1 : n < 0) : IntKind.u64.wrap (-(IntKind.u64.wrap n)) = -n := by
  simp [IntKind.wrap, IntKind.bits, IntKind.signed]; omega
def names36 : ByteArray := ⟨#[48, 49, 50, 51, 52, 53, 54, 55, 56, 57, 97, 98, 99, 100, 101, 102, 103, 104, 105, 106, 107, 108, 109, 110, 111, 112, 113, 114, 115, 116, 117, 118, 119, 120, 121, 122]⟩
theorem names_get36 (d : Nat) (h : d < 10) : names36[d]? = some (UInt8.ofNat (48 + d)) := by
  have : ∀ d : Fin 10, names36[d.1]? = some (UInt8.ofNat (48 + d.1)) := by decide
  exact this ⟨d, h⟩
/-- What is still to come. -/
def left (u : Nat) (l : List UInt8) : List UInt8 := if u = 0 ∧ l ≠ [] then [] else decDigits u
theorem left_step (u : Nat) (l : List UInt8) (h : u ≠ 0 ∨ l = []) : left u l ++ l.reverse = left (u / 10) (l ++ [UInt8.ofNat (48 + u % 10)]) ++ (l ++ [UInt8.ofNat (48 + u % 10)]).reverse := by
  have h1 : left u l = decDigits u := by
    unfold left; rw [if_neg]; rintro ⟨a, b⟩; rcases h with h | h
    · exact h a
    · exact b h
  rw [h1, List.reverse_append]
  by_cases hs : u < 10
  · have e : u / 10 = 0 := by omega
    rw [decDigits, dif_pos hs, left, if_pos ⟨e, by simp⟩, show u % 10 = u by omega]; simp
  · have e : ¬ u / 10 = 0 := by omega
    rw [decDigits, dif_neg hs, left, if_neg (fun q => e q.1)]; simp
theorem left_end {U u : Nat} {l : List UInt8} (h : decDigits U = left u l ++ l.reverse) (h0 : u = 0) (h1 : 0 < l.length) : decDigits U = l.reverse := by
  rw [h, left, if_pos ⟨h0, by rintro rfl; cases h1⟩]; rfl
theorem left_len {U u : Nat} {l : List UInt8} (h : decDigits U = left u l ++ l.reverse) : l.length ≤ (decDigits U).length := by rw [h]; simp
theorem dec_len {U : Nat} (h : U < 18446744073709551616) : (decDigits U).length ≤ 20 := by
  rw [Go.Lib.decDigits_length]
  by_cases h0 : 1 ≤ U
  · have := Go.Lib.numDigits_eq U h0 h; split at this <;> omega
  · obtain rfl : U = 0 := by omega
    rw [Go.Lib.nDigits_small (by omega)]; omega
end Go.Proofs.YtplkkhpokodbmaaGreatDoor
end
section
set_option linter.unusedSimpArgs false
set_option linter.unusedVariables false
namespace Go.Proofs
open Go.Shelf
def Tryz.laysM171_ren : Go.Shelf.Ren := ⟨fun | 171 => 37 | 243 => 89 | 246 => 115 | 283 => 132 | 284 => 133 | 285 => 134 | 286 => 135 | 129 => 141 | 317 => 140 | 318 => 142 | 319 => 143 | 320 => 144 | 337 => 147 | 338 => 148 | n => n, fun | 3 => 3 | 9 => 9 | 2 => 2 | 4 => 4 | 171 => 152 | 0 => 0 | 53 => 153 | 37 => 156 | 5 => 5 | 173 => 157 | 212 => 162 | 51 => 163 | 20 => 20 | 213 => 164 | 46 => 160 | 232 => 170 | 233 => 171 | n => n, fun | 17 => 1 | 18 => 2 | 19 => 3 | n => n⟩
theorem Tryz.laysM171 : Go.Proofs.LaysM.n171 Tryz.prog Tryz.laysM171_ren := {
  mixed := by kernel_rfl
  f129 := Tryz.func141.trans (congrArg some (by kernel_rfl))
  f171 := Tryz.func37.trans (congrArg some (by kernel_rfl))
  f243 := Tryz.func89.trans (congrArg some (by kernel_rfl))
  f246 := Tryz.func115.trans (congrArg some (by kernel_rfl))
  f283 := Tryz.func132.trans (congrArg some (by kernel_rfl))
  f284 := Tryz.func133.trans (congrArg some (by kernel_rfl))
  f285 := Tryz.func134.trans (congrArg some (by kernel_rfl))
  f286 := Tryz.func135.trans (congrArg some (by kernel_rfl))
  f317 := Tryz.func140.trans (congrArg some (by kernel_rfl))
  f318 := Tryz.func142.trans (congrArg some (by kernel_rfl))
  f319 := Tryz.func143.trans (congrArg some (by kernel_rfl))
  f320 := Tryz.func144.trans (congrArg some (by kernel_rfl))
  f337 := Tryz.func147.trans (congrArg some (by kernel_rfl))
  f338 := Tryz.func148.trans (congrArg some (by kernel_rfl))
  t0 := Tryz.underlying0
  a0 := Tryz.isAgg0
  z0 := Tryz.sizeOf0
  v0 := Tryz.zeroValue0
  t2 := Tryz.underlying2
  a2 := Tryz.isAgg2
  z2 := Tryz.sizeOf2
  v2 := Tryz.zeroValue2
  t3 := Tryz.underlying3
  a3 := Tryz.isAgg3
  z3 := Tryz.sizeOf3
  v3 := Tryz.zeroValue3
  t4 := Tryz.underlying4
  a4 := Tryz.isAgg4
  z4 := Tryz.sizeOf4
  v4 := Tryz.zeroValue4
  t5 := Tryz.underlying5
  a5 := Tryz.isAgg5
  z5 := Tryz.sizeOf5
  v5 := Tryz.zeroValue5
  t9 := Tryz.underlying9
  a9 := Tryz.isAgg9
  z9 := Tryz.sizeOf9
  v9 := Tryz.zeroValue9
  t20 := Tryz.underlying20
  a20 := Tryz.isAgg20
  z20 := Tryz.sizeOf20
  v20 := Tryz.zeroValue20
  t37 := Tryz.underlying156
  a37 := Tryz.isAgg156
  z37 := Tryz.sizeOf156
  v37 := Tryz.zeroValue156
  t46 := Tryz.underlying160
  a46 := Tryz.isAgg160
  z46 := Tryz.sizeOf160
  v46 := Tryz.zeroValue160
  t51 := Tryz.underlying163
  a51 := Tryz.isAgg163
  z51 := Tryz.sizeOf163
  v51 := Tryz.zeroValue163
  t53 := Tryz.underlying153
  a53 := Tryz.isAgg153
  z53 := Tryz.sizeOf153
  v53 := Tryz.zeroValue153
  t171 := Tryz.underlying152
  a171 := Tryz.isAgg152
  z171 := Tryz.sizeOf152
  v171 := Tryz.zeroValue152
  t173 := Tryz.underlying157
  a173 := Tryz.isAgg157
  z173 := Tryz.sizeOf157
  v173 := Tryz.zeroValue157
  t212 := Tryz.underlying162
  a212 := Tryz.isAgg162
  z212 := Tryz.sizeOf162
  v212 := Tryz.zeroValue162
  t213 := Tryz.underlying164
  a213 := Tryz.isAgg164
  z213 := Tryz.sizeOf164
  t232 := Tryz.underlying170
  a232 := Tryz.isAgg170
  z232 := Tryz.sizeOf170
  v232 := Tryz.zeroValue170
  t233 := Tryz.underlying171
  a233 := Tryz.isAgg171
  z233 := Tryz.sizeOf171
  v233 := Tryz.zeroValue171
  g17 := by kernel_rfl
  g18 := by kernel_rfl
  g19 := by kernel_rfl
  i0 := by kernel_rfl
  i2 := by kernel_rfl
  i3 := by kernel_rfl
  i4 := by kernel_rfl
  i5 := by kernel_rfl
  i9 := by kernel_rfl
  i20 := by kernel_rfl
  i37 := by kernel_rfl
  i46 := by kernel_rfl
  i51 := by kernel_rfl
  i53 := by kernel_rfl
  i171 := by kernel_rfl
  i173 := by kernel_rfl
  i212 := by kernel_rfl
  i232 := by kernel_rfl
  i233 := by kernel_rfl
  m17 := by kernel_rfl
  m18 := by kernel_rfl
  m19 := by kernel_rfl }
open Go.RowKit Go.Sort Go.Lib in
theorem Tryz.strconv_Itoa (n : Int) (h0 : -9223372036854775808 ≤ n) (h1 : n ≤ 9223372036854775807) (w : World) (htab : Lib.TabIs Tryz.prog w "internal/strconv.uint64pow10" .u64 Lib.pow10Tab) :
    Calls Tryz.prog 37 #[.int .i64 n] w fun e w' => e = .returned (.string ⟨(Lib.itoa n).toArray⟩) ∧ ∃ k os, w' = grow (w.drewN k) os := Any.strconv_Itoa Tryz.laysM171 n h0 h1 w htab
namespace YtplkkhpokodbmaaGreatDoor
open Go.Hp Go.J Go.S
/-- The table lies as it should, in this memory. -/
def Tab (H : Heap) : Prop := ∀ w : World, w.heap = H → Lib.TabIs Tryz.prog w "internal/strconv.uint64pow10" .u64 Lib.pow10Tab
def KnTab (Z : Zone) : Prop := ∀ H : Heap, (∀ k, Z.dom k → H[k]? = Z.heap[k]? ∧ k < H.size) → Tab H
def itoaB (n : Int) : ByteArray := ⟨(Lib.itoa n).toArray⟩
theorem KnTab.get {Z : Zone} {As : List Asr} {H : Heap} (k : KnTab Z) (h : Holds Z As H) : Tab H := k H h.zone
theorem KnTab.at {Z : Zone} {As : List Asr} {H : Heap} (k : KnTab Z) (h : Holds Z As H) : KnTab (zoneOf H) :=
  fun H' q => k H' fun j hj => ⟨(q j (h.zone j hj).2).1.trans (h.zone j hj).1, (q j (h.zone j hj).2).2⟩
theorem chg_grow (w : World) (k : Nat) (os : Array Obj) : Chg (fun _ => False) w.heap (Sort.grow (w.drewN k) os).heap := by
  refine ⟨by show w.heap.size ≤ (w.heap ++ os).size; simp, fun j hj _ => ?_⟩
  show (w.heap ++ os)[j]? = w.heap[j]?
  rw [Array.getElem?_append_left hj]
theorem itoa_s {Z : Zone} (ht : KnTab Z) (n : Int) (h0 : -9223372036854775808 ≤ n) (h1 : n ≤ 9223372036854775807) : SF Tryz.prog 37 #[.int .i64 n] Z [] fun v Bs => v = .string (itoaB n) ∧ Bs = [] :=
  sf_val fun H hH w hw => (Tryz.strconv_Itoa n h0 h1 w (ht.get hH w hw)).mono fun e w' ⟨he, k, os, hw'⟩ => ⟨_, he, by subst hw'; exact ⟨rfl, rfl, rfl, rfl⟩, rfl, by subst hw'; rw [← hw]; exact chg_grow w k os⟩
end YtplkkhpokodbmaaGreatDoor
end Go.Proofs
end
section
set_option linter.unusedSimpArgs false
set_option linter.unusedVariables false
set_option maxRecDepth 100000
set_option maxHeartbeats 2000000
namespace Go.Proofs.YtplkkhpokodbmaaGreatDoor
open Go.Hp Go.J Go.S
open Go.Mem (Ty KTy blk elemAt pre suf blk_pre blk_suf aget aset strK aggDesc)
open Go.Mem (adel apos aget_aset aget_adel)
open Go.Lib (decDigits itoa)
theorem bt_ok : (byteT 5).Ok Tryz.prog := byteT_ok (i := Tryz.t5) Tryz.underlying5 (by kernel_rfl) (by kernel_rfl) (by kernel_rfl) (by kernel_rfl)
theorem u64_quo (a b : Nat) (hb : 0 < b) (ha : a < 18446744073709551616) : IntKind.u64.wrap (Int.tdiv (a : Int) (b : Int)) = ((a / b : Nat) : Int) := by
  have e : Int.tdiv (a : Int) (b : Int) = ((a / b : Nat) : Int) := rfl
  have : a / b ≤ a := Nat.div_le_self _ _
  rw [e, u64_wrap (Int.natCast_nonneg _) (Int.ofNat_lt.2 (Nat.lt_of_le_of_lt this ha))]
theorem drop_rev {D : List UInt8} {i : Nat} {y : UInt8} (hi : 0 < i) (hy : D[i - 1]? = some y) : (D.drop (i - 1)).reverse = (D.drop i).reverse ++ [y] := by
  have hlt := (List.getElem?_eq_some_iff.1 hy).1
  rw [List.drop_eq_getElem_cons hlt, show i - 1 + 1 = i by omega, List.reverse_cons, (List.getElem?_eq_some_iff.1 hy).2]
theorem itoaB_size {n : Int} (h0 : -9223372036854775808 ≤ n) (h1 : n ≤ 9223372036854775807) : (itoaB n).size ≤ 21 := by
  show (itoa n).toArray.size ≤ 21
  rw [List.size_toArray, itoa]; split
  · rw [List.length_cons]; have := dec_len (U := n.natAbs) (by omega); omega
  · have := dec_len (U := n.toNat) (by omega); omega
theorem sz_mk (l : List UInt8) : (ByteArray.mk l.toArray).size = l.length := rfl
theorem base_s {Z : Zone} (n : Int) (h0 : -9223372036854775808 ≤ n) (h1 : n ≤ 9223372036854775807) : SF Tryz.prog 116 #[.int .i64 n, .int .i64 10] Z [] fun v Bs => v = .tuple #[.string ⟨(itoa n).toArray⟩, .int .i64 0] ∧ Bs = [] := by
 refine sf_enter Tryz.func116 66 [(0, .int .i64 n), (1, .int .i64 10)] (fun w0 => ?_)
 refine k_sr ?_
 refine sp (.string ByteArray.empty) ?_
 refine sp (.int .i64 0) ?_
 refine s_nt ?_
 refine k_seq ?_
 refine k_sr ?_
 refine sp (.int .i64 10) ?_
 refine s_lt (t_cmp (c := false)) ?_
 refine sp (.bool false) ?_
 refine sp (.int .i64 10) ?_
 refine s_lt (t_cmp (c := false)) ?_
 refine sp (.bool false) ?_
 refine s_nt ?_
 refine k_false ?_
 refine k_st ?_
 refine k_sr ?_
 refine sp (.int .i64 n) ?_
 refine s_lt (t_convK n Tryz.underlying3 Tryz.underlying153) ?_
 refine sp (.int .u64 (IntKind.u64.wrap n)) ?_
 refine s_nt ?_
 refine k_seq ?_
 refine k_sr ?_
 refine sp (.int .i64 n) ?_
 refine s_lt t_cmp ?_
 refine s_nt ?_
 refine k_cond (decide (n < 0)) (fun c1 => ?_) (fun c1 => ?_)
 ·
  have p2 := of_decide_eq_true c1
  refine k_reg ?_
  refine sp (.int .u64 (IntKind.u64.wrap n)) ?_
  refine s_lt (t_negK (IntKind.u64.wrap n)) ?_
  refine sp (.int .u64 (IntKind.u64.wrap (-(IntKind.u64.wrap n)))) ?_
  refine s_nr ?_
  refine sp (.string ⟨#[48, 49, 50, 51, 52, 53, 54, 55, 56, 57, 97, 98, 99, 100, 101, 102, 103, 104, 105, 106, 107, 108, 109, 110, 111, 112, 113, 114, 115, 116, 117, 118, 119, 120, 121, 122]⟩) ?_
  refine s_nt ?_
  refine k_seq ?_
  obtain ⟨U, hU, hU2⟩ : ∃ U : Nat, (U : Int) = (IntKind.u64.wrap (-(IntKind.u64.wrap n))) ∧ U = n.natAbs := ⟨n.natAbs, by rw [u64_neg (by omega) (by omega)]; omega, rfl⟩
  rw [← hU]
  have hU3 : U < 18446744073709551616 := by omega
  have hd := dec_len hU3
  refine k_reg ?_
  refine s_buildSlice (e := 5) [] #[] (fun g3 => ?_) (hb := by kernel_rfl)
  refine sp (.slice (some ⟨g3, 0, none⟩) 0 0) ?_
  refine s_nt ?_
  refine k_seq ?_
  refine k_block ?_
  refine k_mem (fun _ h => Holds.slice 0 h bt_ok []) ?_
  refine k_loop (ι := Value × Nat × List UInt8) (fun (sx, u, l) => u < 18446744073709551616 ∧ decDigits U = left u l ++ l.reverse) (fun (sx, u, l) => [(0, .int .i64 n), (1, .int .i64 10), (6, .int .u64 (u : Int)), (7, .string ⟨#[48, 49, 50, 51, 52, 53, 54, 55, 56, 57, 97, 98, 99, 100, 101, 102, 103, 104, 105, 106, 107, 108, 109, 110, 111, 112, 113, 114, 115, 116, 117, 118, 119, 120, 121, 122]⟩), (8, sx)]) (fun (sx, u, l) => [own (byteT 5) sx l]) (fun (sx, u, l) => u + (1 - l.length)) ((.slice (some ⟨g3, 0, none⟩) 0 0), U, []) ⟨by omega, by simp [left]⟩ (sub_of rfl ⟨⟨rfl, rfl⟩, ⟨⟨rfl, rfl⟩, ⟨⟨rfl, rfl⟩, ⟨⟨rfl, rfl⟩, ⟨⟨rfl, rfl⟩, trivial⟩⟩⟩⟩⟩) (fun _ h => h.re [0] []) ?_
  rintro ⟨sx, u, l⟩ hi4
  replace hi4 : u < 18446744073709551616 ∧ decDigits U = left u l ++ l.reverse := hi4
  show SK _ _ _ _ _ [(0, .int .i64 n), (1, .int .i64 10), (6, .int .u64 (u : Int)), (7, .string ⟨#[48, 49, 50, 51, 52, 53, 54, 55, 56, 57, 97, 98, 99, 100, 101, 102, 103, 104, 105, 106, 107, 108, 109, 110, 111, 112, 113, 114, 115, 116, 117, 118, 119, 120, 121, 122]⟩), (8, sx)] _ [own (byteT 5) sx l]
  obtain ⟨hl1, hl2⟩ := hi4
  have hl3 := left_len hl2
  refine k_seq ?_
  refine k_cut (ι := Unit) (fun _ => True) (fun _ => [(0, .int .i64 n), (1, .int .i64 10), (6, .int .u64 (u : Int)), (7, .string ⟨#[48, 49, 50, 51, 52, 53, 54, 55, 56, 57, 97, 98, 99, 100, 101, 102, 103, 104, 105, 106, 107, 108, 109, 110, 111, 112, 113, 114, 115, 116, 117, 118, 119, 120, 121, 122]⟩), (8, sx), (30, .bool ((decide ((0 : Int) < (u : Int))) || (decide ((l.length : Int) = 0))))]) (fun _ => [own (byteT 5) sx l]) ?_ (fun _ _ => ?_)
  ·
   refine k_reg ?_
   refine sp (.int .u64 (u : Int)) ?_
   refine s_lt t_cmp ?_
   refine sp (.bool (decide ((0 : Int) < (u : Int)))) ?_
   refine s_fork 26 (decide ((0 : Int) < (u : Int))) (fun c5 => ?_) (fun c5 => ?_)
   ·
    have p6 := of_decide_eq_true c5
    refine s_skip ?_
    refine s_skip ?_
    refine s_skip ?_
    refine sp (.bool true) ?_
    refine s_nil ?_
    exact xs_cut () trivial (sub_of rfl ⟨⟨rfl, rfl⟩, ⟨⟨rfl, rfl⟩, ⟨⟨rfl, rfl⟩, ⟨⟨rfl, rfl⟩, ⟨⟨rfl, rfl⟩, ⟨⟨rfl, show Value.bool true = Value.bool ((decide ((0 : Int) < (u : Int))) || (decide ((l.length : Int) = 0))) by first | (simp only [c5, bls]; done) | simp [c5]⟩, trivial⟩⟩⟩⟩⟩⟩) (fun _ h => h.re [0] [])
   ·
    have p7 := of_decide_eq_false c5
    refine sp sx ?_
    refine s_lt (t_len bt_ok Tryz.underlying156 (.own 0)) ?_
    refine s_lt t_cmp ?_
    refine sp (.bool (decide ((l.length : Int) = 0))) ?_
    refine s_nil ?_
    exact xs_cut () trivial (sub_of rfl ⟨⟨rfl, rfl⟩, ⟨⟨rfl, rfl⟩, ⟨⟨rfl, rfl⟩, ⟨⟨rfl, rfl⟩, ⟨⟨rfl, rfl⟩, ⟨⟨rfl, show Value.bool (decide ((l.length : Int) = 0)) = Value.bool ((decide ((0 : Int) < (u : Int))) || (decide ((l.length : Int) = 0))) by first | (simp only [c5, bls]; done) | simp [c5]⟩, trivial⟩⟩⟩⟩⟩⟩) (fun _ h => h.re [0] [])
  ·
   refine k_cond ((decide ((0 : Int) < (u : Int))) || (decide ((l.length : Int) = 0))) (fun c8 => ?_) (fun c8 => ?_)
   ·
    have p9 := c8
    simp only [Bool.and_eq_true, Bool.or_eq_true, Bool.and_eq_false_iff, Bool.or_eq_false_iff, Bool.not_eq_true', Bool.not_eq_false', decide_eq_true_eq, decide_eq_false_iff_not] at p9
    have hcond := p9
    refine k_st ?_
    refine k_block ?_
    refine k_sr ?_
    refine sp sx ?_
    refine sp (.string ⟨#[48, 49, 50, 51, 52, 53, 54, 55, 56, 57, 97, 98, 99, 100, 101, 102, 103, 104, 105, 106, 107, 108, 109, 110, 111, 112, 113, 114, 115, 116, 117, 118, 119, 120, 121, 122]⟩) ?_
    refine sp (.int .u64 (u : Int)) ?_
    refine sp (.int .i64 10) ?_
    refine s_lt (t_conv 10 (by decide) Tryz.underlying3 Tryz.underlying153) ?_
    refine s_lt (Lt.to (v' := .int .u64 ((u % 10 : Nat) : Int)) (t_rem (u : Int) 10 (by omega)) rfl) ?_
    refine s_lt (t_idxS Tryz.underlying9 names36 ((u % 10 : Nat) : Int) (UInt8.ofNat (48 + u % 10)) (by omega) (names_get36 _ (by omega))) ?_
    refine s_buildSlice (e := 5) [(0, .int .u8 ((UInt8.ofNat (48 + u % 10)).toNat : Int))] #[.int .u8 ((UInt8.ofNat (48 + u % 10)).toNat : Int)] (fun g10 => ?_) (hb := by kernel_rfl)
    refine s_append (L := l) 1 bt_ok Tryz.underlying156 (.lit 0 bt_ok [(UInt8.ofNat (48 + u % 10))]) (by show _ * 1 ≤ _; (try simp only [lnm]); omega) (by (try simp only [lnm]); omega) (fun v11 => ?_)
    refine sp v11 ?_
    refine s_nt ?_
    refine k_reg ?_
    refine sp (.int .u64 (u : Int)) ?_
    refine sp (.int .i64 10) ?_
    refine s_lt (t_conv 10 (by decide) Tryz.underlying3 Tryz.underlying153) ?_
    refine s_lt (Lt.to (v' := .int .u64 ((u / 10 : Nat) : Int)) (t_quoK (u : Int) 10 (by omega)) (congrArg (Value.int .u64) (u64_quo u 10 (by omega) (by omega)))) ?_
    refine sp (.int .u64 ((u / 10 : Nat) : Int)) ?_
    refine s_nil ?_
    refine xs_block ?_
    exact xs_round (v11, u / 10, (l ++ [(UInt8.ofNat (48 + u % 10))])) (by show u / 10 + (1 - (l ++ [_]).length) < u + (1 - l.length); simp only [List.length_append, List.length_cons, List.length_nil]; omega) (by refine ⟨by omega, ?_⟩; rw [hl2]; exact left_step u l (by rcases hcond with h | h; exact .inl (by omega); exact .inr (List.eq_nil_of_length_eq_zero (by omega)))) (sub_of rfl ⟨⟨rfl, rfl⟩, ⟨⟨rfl, rfl⟩, ⟨⟨rfl, rfl⟩, ⟨⟨rfl, rfl⟩, ⟨⟨rfl, rfl⟩, trivial⟩⟩⟩⟩⟩) (fun _ h => h.re [1] [1])
   ·
    obtain ⟨c12, c13⟩ := or_f c8
    have p14 := of_decide_eq_false c12
    have p15 := of_decide_eq_false c13
    have hfin := left_end hl2 (by omega) (by omega)
    refine k_exit ?_
    refine xs_exit ?_
    refine xs_exit ?_
    refine xs_here ?_
    refine xs_then ?_
    refine k_seq ?_
    refine k_sr ?_
    refine sp (.int .i64 n) ?_
    refine s_lt (Lt.to t_cmp (congrArg Value.bool (c1 : (decide (n < 0)) = true))) ?_
    refine s_nt ?_
    refine k_true ?_
    refine k_reg ?_
    refine sp sx ?_
    refine s_buildSlice (e := 5) [(0, .int .u8 45)] #[.int .u8 45] (fun g16 => ?_) (hb := by kernel_rfl)
    refine s_append (L := l) 1 bt_ok Tryz.underlying156 (.lit 0 bt_ok [45]) (by show _ * 1 ≤ _; (try simp only [lnm]); omega) (by (try simp only [lnm]); omega) (fun v17 => ?_)
    refine sp v17 ?_
    refine s_nr ?_
    refine s_buildSlice (e := 5) [] #[] (fun g18 => ?_) (hb := by kernel_rfl)
    refine sp (.slice (some ⟨g18, 0, none⟩) 0 0) ?_
    refine s_nt ?_
    refine k_seq ?_
    refine k_sr ?_
    refine sp v17 ?_
    refine s_lt (t_len bt_ok Tryz.underlying156 (.own 2)) ?_
    refine s_lt (t_sub ((l ++ [45]).length : Int) 1 (by (try simp only [lnm]); omega)) ?_
    refine sp (.int .i64 (((l ++ [45]).length : Int) - 1)) ?_
    refine s_nt ?_
    refine k_block ?_
    refine k_mem (fun _ h => Holds.slice 0 h bt_ok []) ?_
    obtain ⟨D, hD⟩ : ∃ x, x = (l ++ [45]) := ⟨_, rfl⟩
    rw [← hD]
    have hDl : D.length ≤ 30 := by rw [hD]; (try simp only [lnm]); omega
    refine k_loop (ι := Value × Nat) (fun (sy, i) => i ≤ D.length) (fun (sy, i) => [(8, v17), (9, sy), (10, .int .i64 ((i : Int) - 1))]) (fun (sy, i) => [own (byteT 5) sy ((D.drop i).reverse), own (byteT 5) v17 D]) (fun (sy, i) => i) ((.slice (some ⟨g18, 0, none⟩) 0 0), D.length) (Nat.le_refl _) (sub_of rfl ⟨⟨rfl, rfl⟩, ⟨⟨rfl, rfl⟩, ⟨⟨rfl, rfl⟩, trivial⟩⟩⟩) (fun _ h => by show Holds _ [own _ _ (D.drop D.length).reverse, _] _; rw [List.drop_length]; exact h.re [0, 1] [2]) ?_
    rintro ⟨sy, i⟩ hi19
    replace hi19 : i ≤ D.length := hi19
    show SK _ _ _ _ _ [(8, v17), (9, sy), (10, .int .i64 ((i : Int) - 1))] _ [own (byteT 5) sy ((D.drop i).reverse), own (byteT 5) v17 D]
    refine k_seq ?_
    refine k_sr ?_
    refine sp (.int .i64 ((i : Int) - 1)) ?_
    refine s_lt t_cmp ?_
    refine s_nt ?_
    refine k_cond (decide ((0 : Int) ≤ ((i : Int) - 1))) (fun c20 => ?_) (fun c20 => ?_)
    ·
     have p21 := of_decide_eq_true c20
     refine k_st ?_
     refine k_seq ?_
     refine k_block ?_
     refine k_reg ?_
     refine sp sy ?_
     refine sp v17 ?_
     refine sp (.int .i64 ((i : Int) - 1)) ?_
     refine s_lt (t_index bt_ok Tryz.underlying156 (.own 1) ((i : Int) - 1) (i - 1) (by omega) (by (try simp only [lnm]); omega) (by omega)) ?_
     obtain ⟨y22, hy23⟩ : ∃ y, D[(i - 1)]? = some y := ⟨_, List.getElem?_eq_getElem (by (try simp only [lnm]); omega)⟩
     refine s_lt (t_loadE bt_ok (.own 1) hy23) ?_
     refine s_buildSlice (e := 5) [(0, .int .u8 (y22.toNat : Int))] #[.int .u8 (y22.toNat : Int)] (fun g24 => ?_) (hb := by kernel_rfl)
     refine s_append (L := (D.drop i).reverse) 1 bt_ok Tryz.underlying156 (.lit 0 bt_ok [y22]) (by show _ * 1 ≤ _; (try simp only [lnm]); omega) (by (try simp only [lnm]); omega) (fun v25 => ?_)
     refine sp v25 ?_
     refine s_nil ?_
     refine xs_block ?_
     refine xs_then ?_
     refine k_reg ?_
     refine sp (.int .i64 ((i : Int) - 1)) ?_
     refine s_lt (t_sub ((i : Int) - 1) 1 (by (try simp only [lnm]); omega)) ?_
     refine sp (.int .i64 (((i : Int) - 1) - 1)) ?_
     refine s_nil ?_
     rw [show (i : Int) - 1 - 1 = ((i - 1 : Nat) : Int) - 1 by omega]
     exact xs_round (v25, i - 1) (by show i - 1 < i; omega) (by show i - 1 ≤ D.length; omega) (sub_of rfl ⟨⟨rfl, rfl⟩, ⟨⟨rfl, rfl⟩, ⟨⟨rfl, rfl⟩, trivial⟩⟩⟩) (fun _ h => by show Holds _ [own _ _ (D.drop (i - 1)).reverse, _] _; rw [drop_rev (by omega) (by first | exact hy23 | (rw [← hy23]; congr 1; omega))]; exact h.re [1, 1] [2])
    ·
     have p26 := of_decide_eq_false c20
     refine k_exit ?_
     refine xs_exit ?_
     refine xs_exit ?_
     refine xs_here ?_
     refine xs_then ?_
     refine k_sr ?_
     refine sp sy ?_
     refine s_lt (t_bytes bt_ok Tryz.underlying156 Tryz.underlying5 Tryz.underlying9 (.own 0)) ?_
     refine sp (.string ⟨((D.drop i).reverse).toArray⟩) ?_
     refine sp (.int .i64 0) ?_
     refine s_nt ?_
     refine k_ret ?_
     have hi0 : i = 0 := by omega
     have he : itoa n = (D.drop i).reverse := by
      rw [hi0, List.drop_zero, itoa]
      first
      | (rw [if_pos (by omega), ← hU2, hfin, hD]; simp)
      | rw [if_neg (by omega), show n.toNat = U by omega, hfin, hD]
     exact xs_fin [.string ⟨((D.drop i).reverse).toArray⟩, .int .i64 0] [] (SI.tmp 4 (SI.tmp 5 SI.nil)) (fun _ h => h.re [] [0, 0]) ⟨by rw [he]; rfl, rfl⟩
 ·
  have p27 := of_decide_eq_false c1
  refine k_st ?_
  refine k_sr ?_
  refine sp (.string ⟨#[48, 49, 50, 51, 52, 53, 54, 55, 56, 57, 97, 98, 99, 100, 101, 102, 103, 104, 105, 106, 107, 108, 109, 110, 111, 112, 113, 114, 115, 116, 117, 118, 119, 120, 121, 122]⟩) ?_
  refine s_nt ?_
  refine k_seq ?_
  obtain ⟨U, hU, hU2⟩ : ∃ U : Nat, (U : Int) = (IntKind.u64.wrap n) ∧ U = n.natAbs := ⟨n.natAbs, by rw [u64_wrap (by omega) (by omega)]; omega, rfl⟩
  rw [← hU]
  have hU3 : U < 18446744073709551616 := by omega
  have hd := dec_len hU3
  refine k_reg ?_
  refine s_buildSlice (e := 5) [] #[] (fun g28 => ?_) (hb := by kernel_rfl)
  refine sp (.slice (some ⟨g28, 0, none⟩) 0 0) ?_
  refine s_nt ?_
  refine k_seq ?_
  refine k_block ?_
  refine k_mem (fun _ h => Holds.slice 0 h bt_ok []) ?_
  refine k_loop (ι := Value × Nat × List UInt8) (fun (sx, u, l) => u < 18446744073709551616 ∧ decDigits U = left u l ++ l.reverse) (fun (sx, u, l) => [(0, .int .i64 n), (1, .int .i64 10), (6, .int .u64 (u : Int)), (7, .string ⟨#[48, 49, 50, 51, 52, 53, 54, 55, 56, 57, 97, 98, 99, 100, 101, 102, 103, 104, 105, 106, 107, 108, 109, 110, 111, 112, 113, 114, 115, 116, 117, 118, 119, 120, 121, 122]⟩), (8, sx)]) (fun (sx, u, l) => [own (byteT 5) sx l]) (fun (sx, u, l) => u + (1 - l.length)) ((.slice (some ⟨g28, 0, none⟩) 0 0), U, []) ⟨by omega, by simp [left]⟩ (sub_of rfl ⟨⟨rfl, rfl⟩, ⟨⟨rfl, rfl⟩, ⟨⟨rfl, rfl⟩, ⟨⟨rfl, rfl⟩, ⟨⟨rfl, rfl⟩, trivial⟩⟩⟩⟩⟩) (fun _ h => h.re [0] []) ?_
  rintro ⟨sx, u, l⟩ hi29
  replace hi29 : u < 18446744073709551616 ∧ decDigits U = left u l ++ l.reverse := hi29
  show SK _ _ _ _ _ [(0, .int .i64 n), (1, .int .i64 10), (6, .int .u64 (u : Int)), (7, .string ⟨#[48, 49, 50, 51, 52, 53, 54, 55, 56, 57, 97, 98, 99, 100, 101, 102, 103, 104, 105, 106, 107, 108, 109, 110, 111, 112, 113, 114, 115, 116, 117, 118, 119, 120, 121, 122]⟩), (8, sx)] _ [own (byteT 5) sx l]
  obtain ⟨hl1, hl2⟩ := hi29
  have hl3 := left_len hl2
  refine k_seq ?_
  refine k_cut (ι := Unit) (fun _ => True) (fun _ => [(0, .int .i64 n), (1, .int .i64 10), (6, .int .u64 (u : Int)), (7, .string ⟨#[48, 49, 50, 51, 52, 53, 54, 55, 56, 57, 97, 98, 99, 100, 101, 102, 103, 104, 105, 106, 107, 108, 109, 110, 111, 112, 113, 114, 115, 116, 117, 118, 119, 120, 121, 122]⟩), (8, sx), (30, .bool ((decide ((0 : Int) < (u : Int))) || (decide ((l.length : Int) = 0))))]) (fun _ => [own (byteT 5) sx l]) ?_ (fun _ _ => ?_)
  ·
   refine k_reg ?_
   refine sp (.int .u64 (u : Int)) ?_
   refine s_lt t_cmp ?_
   refine sp (.bool (decide ((0 : Int) < (u : Int)))) ?_
   refine s_fork 26 (decide ((0 : Int) < (u : Int))) (fun c30 => ?_) (fun c30 => ?_)
   ·
    have p31 := of_decide_eq_true c30
    refine s_skip ?_
    refine s_skip ?_
    refine s_skip ?_
    refine sp (.bool true) ?_
    refine s_nil ?_
    exact xs_cut () trivial (sub_of rfl ⟨⟨rfl, rfl⟩, ⟨⟨rfl, rfl⟩, ⟨⟨rfl, rfl⟩, ⟨⟨rfl, rfl⟩, ⟨⟨rfl, rfl⟩, ⟨⟨rfl, show Value.bool true = Value.bool ((decide ((0 : Int) < (u : Int))) || (decide ((l.length : Int) = 0))) by first | (simp only [c30, bls]; done) | simp [c30]⟩, trivial⟩⟩⟩⟩⟩⟩) (fun _ h => h.re [0] [])
   ·
    have p32 := of_decide_eq_false c30
    refine sp sx ?_
    refine s_lt (t_len bt_ok Tryz.underlying156 (.own 0)) ?_
    refine s_lt t_cmp ?_
    refine sp (.bool (decide ((l.length : Int) = 0))) ?_
    refine s_nil ?_
    exact xs_cut () trivial (sub_of rfl ⟨⟨rfl, rfl⟩, ⟨⟨rfl, rfl⟩, ⟨⟨rfl, rfl⟩, ⟨⟨rfl, rfl⟩, ⟨⟨rfl, rfl⟩, ⟨⟨rfl, show Value.bool (decide ((l.length : Int) = 0)) = Value.bool ((decide ((0 : Int) < (u : Int))) || (decide ((l.length : Int) = 0))) by first | (simp only [c30, bls]; done) | simp [c30]⟩, trivial⟩⟩⟩⟩⟩⟩) (fun _ h => h.re [0] [])
  ·
   refine k_cond ((decide ((0 : Int) < (u : Int))) || (decide ((l.length : Int) = 0))) (fun c33 => ?_) (fun c33 => ?_)
   ·
    have p34 := c33
    simp only [Bool.and_eq_true, Bool.or_eq_true, Bool.and_eq_false_iff, Bool.or_eq_false_iff, Bool.not_eq_true', Bool.not_eq_false', decide_eq_true_eq, decide_eq_false_iff_not] at p34
    have hcond := p34
    refine k_st ?_
    refine k_block ?_
    refine k_sr ?_
    refine sp sx ?_
    refine sp (.string ⟨#[48, 49, 50, 51, 52, 53, 54, 55, 56, 57, 97, 98, 99, 100, 101, 102, 103, 104, 105, 106, 107, 108, 109, 110, 111, 112, 113, 114, 115, 116, 117, 118, 119, 120, 121, 122]⟩) ?_
    refine sp (.int .u64 (u : Int)) ?_
    refine sp (.int .i64 10) ?_
    refine s_lt (t_conv 10 (by decide) Tryz.underlying3 Tryz.underlying153) ?_
    refine s_lt (Lt.to (v' := .int .u64 ((u % 10 : Nat) : Int)) (t_rem (u : Int) 10 (by omega)) rfl) ?_
    refine s_lt (t_idxS Tryz.underlying9 names36 ((u % 10 : Nat) : Int) (UInt8.ofNat (48 + u % 10)) (by omega) (names_get36 _ (by omega))) ?_
    refine s_buildSlice (e := 5) [(0, .int .u8 ((UInt8.ofNat (48 + u % 10)).toNat : Int))] #[.int .u8 ((UInt8.ofNat (48 + u % 10)).toNat : Int)] (fun g35 => ?_) (hb := by kernel_rfl)
    refine s_append (L := l) 1 bt_ok Tryz.underlying156 (.lit 0 bt_ok [(UInt8.ofNat (48 + u % 10))]) (by show _ * 1 ≤ _; (try simp only [lnm]); omega) (by (try simp only [lnm]); omega) (fun v36 => ?_)
    refine sp v36 ?_
    refine s_nt ?_
    refine k_reg ?_
    refine sp (.int .u64 (u : Int)) ?_
    refine sp (.int .i64 10) ?_
    refine s_lt (t_conv 10 (by decide) Tryz.underlying3 Tryz.underlying153) ?_
    refine s_lt (Lt.to (v' := .int .u64 ((u / 10 : Nat) : Int)) (t_quoK (u : Int) 10 (by omega)) (congrArg (Value.int .u64) (u64_quo u 10 (by omega) (by omega)))) ?_
    refine sp (.int .u64 ((u / 10 : Nat) : Int)) ?_
    refine s_nil ?_
    refine xs_block ?_
    exact xs_round (v36, u / 10, (l ++ [(UInt8.ofNat (48 + u % 10))])) (by show u / 10 + (1 - (l ++ [_]).length) < u + (1 - l.length); simp only [List.length_append, List.length_cons, List.length_nil]; omega) (by refine ⟨by omega, ?_⟩; rw [hl2]; exact left_step u l (by rcases hcond with h | h; exact .inl (by omega); exact .inr (List.eq_nil_of_length_eq_zero (by omega)))) (sub_of rfl ⟨⟨rfl, rfl⟩, ⟨⟨rfl, rfl⟩, ⟨⟨rfl, rfl⟩, ⟨⟨rfl, rfl⟩, ⟨⟨rfl, rfl⟩, trivial⟩⟩⟩⟩⟩) (fun _ h => h.re [1] [1])
   ·
    obtain ⟨c37, c38⟩ := or_f c33
    have p39 := of_decide_eq_false c37
    have p40 := of_decide_eq_false c38
    have hfin := left_end hl2 (by omega) (by omega)
    refine k_exit ?_
    refine xs_exit ?_
    refine xs_exit ?_
    refine xs_here ?_
    refine xs_then ?_
    refine k_seq ?_
    refine k_sr ?_
    refine sp (.int .i64 n) ?_
    refine s_lt (Lt.to t_cmp (congrArg Value.bool (c1 : (decide (n < 0)) = false))) ?_
    refine s_nt ?_
    refine k_false ?_
    refine k_st ?_
    refine k_sr ?_
    refine s_buildSlice (e := 5) [] #[] (fun g41 => ?_) (hb := by kernel_rfl)
    refine sp (.slice (some ⟨g41, 0, none⟩) 0 0) ?_
    refine s_nt ?_
    refine k_seq ?_
    refine k_sr ?_
    refine sp sx ?_
    refine s_lt (t_len bt_ok Tryz.underlying156 (.own 1)) ?_
    refine s_lt (t_sub (l.length : Int) 1 (by (try simp only [lnm]); omega)) ?_
    refine sp (.int .i64 ((l.length : Int) - 1)) ?_
    refine s_nt ?_
    refine k_block ?_
    refine k_mem (fun _ h => Holds.slice 0 h bt_ok []) ?_
    obtain ⟨D, hD⟩ : ∃ x, x = l := ⟨_, rfl⟩
    rw [← hD]
    have hDl : D.length ≤ 30 := by rw [hD]; (try simp only [lnm]); omega
    refine k_loop (ι := Value × Nat) (fun (sy, i) => i ≤ D.length) (fun (sy, i) => [(8, sx), (9, sy), (10, .int .i64 ((i : Int) - 1))]) (fun (sy, i) => [own (byteT 5) sy ((D.drop i).reverse), own (byteT 5) sx D]) (fun (sy, i) => i) ((.slice (some ⟨g41, 0, none⟩) 0 0), D.length) (Nat.le_refl _) (sub_of rfl ⟨⟨rfl, rfl⟩, ⟨⟨rfl, rfl⟩, ⟨⟨rfl, rfl⟩, trivial⟩⟩⟩) (fun _ h => by show Holds _ [own _ _ (D.drop D.length).reverse, _] _; rw [List.drop_length]; exact h.re [0, 0] []) ?_
    rintro ⟨sy, i⟩ hi42
    replace hi42 : i ≤ D.length := hi42
    show SK _ _ _ _ _ [(8, sx), (9, sy), (10, .int .i64 ((i : Int) - 1))] _ [own (byteT 5) sy ((D.drop i).reverse), own (byteT 5) sx D]
    refine k_seq ?_
    refine k_sr ?_
    refine sp (.int .i64 ((i : Int) - 1)) ?_
    refine s_lt t_cmp ?_
    refine s_nt ?_
    refine k_cond (decide ((0 : Int) ≤ ((i : Int) - 1))) (fun c43 => ?_) (fun c43 => ?_)
    ·
     have p44 := of_decide_eq_true c43
     refine k_st ?_
     refine k_seq ?_
     refine k_block ?_
     refine k_reg ?_
     refine sp sy ?_
     refine sp sx ?_
     refine sp (.int .i64 ((i : Int) - 1)) ?_
     refine s_lt (t_index bt_ok Tryz.underlying156 (.own 1) ((i : Int) - 1) (i - 1) (by omega) (by (try simp only [lnm]); omega) (by omega)) ?_
     obtain ⟨y45, hy46⟩ : ∃ y, D[(i - 1)]? = some y := ⟨_, List.getElem?_eq_getElem (by (try simp only [lnm]); omega)⟩
     refine s_lt (t_loadE bt_ok (.own 1) hy46) ?_
     refine s_buildSlice (e := 5) [(0, .int .u8 (y45.toNat : Int))] #[.int .u8 (y45.toNat : Int)] (fun g47 => ?_) (hb := by kernel_rfl)
     refine s_append (L := (D.drop i).reverse) 1 bt_ok Tryz.underlying156 (.lit 0 bt_ok [y45]) (by show _ * 1 ≤ _; (try simp only [lnm]); omega) (by (try simp only [lnm]); omega) (fun v48 => ?_)
     refine sp v48 ?_
     refine s_nil ?_
     refine xs_block ?_
     refine xs_then ?_
     refine k_reg ?_
     refine sp (.int .i64 ((i : Int) - 1)) ?_
     refine s_lt (t_sub ((i : Int) - 1) 1 (by (try simp only [lnm]); omega)) ?_
     refine sp (.int .i64 (((i : Int) - 1) - 1)) ?_
     refine s_nil ?_
     rw [show (i : Int) - 1 - 1 = ((i - 1 : Nat) : Int) - 1 by omega]
     exact xs_round (v48, i - 1) (by show i - 1 < i; omega) (by show i - 1 ≤ D.length; omega) (sub_of rfl ⟨⟨rfl, rfl⟩, ⟨⟨rfl, rfl⟩, ⟨⟨rfl, rfl⟩, trivial⟩⟩⟩) (fun _ h => by show Holds _ [own _ _ (D.drop (i - 1)).reverse, _] _; rw [drop_rev (by omega) (by first | exact hy46 | (rw [← hy46]; congr 1; omega))]; exact h.re [1, 1] [2])
    ·
     have p49 := of_decide_eq_false c43
     refine k_exit ?_
     refine xs_exit ?_
     refine xs_exit ?_
     refine xs_here ?_
     refine xs_then ?_
     refine k_sr ?_
     refine sp sy ?_
     refine s_lt (t_bytes bt_ok Tryz.underlying156 Tryz.underlying5 Tryz.underlying9 (.own 0)) ?_
     refine sp (.string ⟨((D.drop i).reverse).toArray⟩) ?_
     refine sp (.int .i64 0) ?_
     refine s_nt ?_
     refine k_ret ?_
     have hi0 : i = 0 := by omega
     have he : itoa n = (D.drop i).reverse := by
      rw [hi0, List.drop_zero, itoa]
      first
      | (rw [if_pos (by omega), ← hU2, hfin, hD]; simp)
      | rw [if_neg (by omega), show n.toNat = U by omega, hfin, hD]
     exact xs_fin [.string ⟨((D.drop i).reverse).toArray⟩, .int .i64 0] [] (SI.tmp 4 (SI.tmp 5 SI.nil)) (fun _ h => h.re [] [0, 0]) ⟨by rw [he]; rfl, rfl⟩
theorem decimal_s {Z : Zone} (n : Int) (h0 : -9223372036854775808 ≤ n) (h1 : n ≤ 9223372036854775807) : SF Tryz.prog 93 #[.int .i64 n] Z [] fun v Bs => v = .string (itoaB n) ∧ Bs = [] := by
 refine sf_enter Tryz.func93 11 [(0, .int .i64 n)] (fun w0 => ?_)
 refine k_sr ?_
 refine sp (.string ByteArray.empty) ?_
 refine s_nr ?_
 refine sp (.int .i64 n) ?_
 refine s_vcall (fun _ h => base_s n (by omega) (by omega)) ?_
 rintro _ rfl
 refine sp (.tuple #[.string ⟨(itoa n).toArray⟩, .int .i64 0]) ?_
 refine sp (.string ⟨(itoa n).toArray⟩) ?_
 refine sp (.int .i64 0) ?_
 refine sp (.string ⟨(itoa n).toArray⟩) ?_
 refine sp (.int .i64 0) ?_
 refine s_nr ?_
 refine sp (.string ⟨(itoa n).toArray⟩) ?_
 refine sp (.string ⟨(itoa n).toArray⟩) ?_
 refine s_nt ?_
 refine k_ret ?_
 exact xs_fin [.string ⟨(itoa n).toArray⟩] [] (SI.tmp 2 SI.nil) (fun _ h => h.re [] []) ⟨rfl, rfl⟩
def numT (p q : Int) : ByteArray := if validN p q then (if q = 1 then itoaB p else itoaB p ++ ⟨#[47]⟩ ++ itoaB q) else ⟨#[110, 97, 110]⟩
theorem validN_b {p q : Int} (h : validN p q = true) : 1 ≤ q ∧ q ≤ 2147483647 ∧ -2147483647 ≤ p ∧ p ≤ 2147483647 := by
  simp only [validN, Bool.and_eq_true, decide_eq_true_eq] at h; exact ⟨h.1, h.2.1, h.2.2.1, h.2.2.2.1⟩
theorem rntext_s {Z : Zone} (p q : Int) : SF Tryz.prog 92 #[.agg #[.int .i64 p, .int .i64 q]] Z [] fun v Bs => v = .string (numT p q) ∧ Bs = [] := by
 refine sf_enter Tryz.func92 20 [(0, .agg #[.int .i64 p, .int .i64 q])] (fun w0 => ?_)
 refine k_sr ?_
 refine s_box #[.int .i64 p, .int .i64 q] (fun g1 => ?_)
 refine sp (.string ByteArray.empty) ?_
 refine s_nt ?_
 refine k_seq ?_
 refine k_sr ?_
 refine s_lt (t_loadA 0 #[.int .i64 p, .int .i64 q]) ?_
 refine s_vcall (fun _ h => rvnum_s p q) ?_
 rintro _ rfl
 refine sp (.bool (!(validN p q))) ?_
 refine s_nt ?_
 refine k_cond (!(validN p q)) (fun c2 => ?_) (fun c2 => ?_)
 ·
  have c3 := not_t c2
  refine k_sr ?_
  refine sp (.string ⟨#[110, 97, 110]⟩) ?_
  refine s_nt ?_
  refine k_ret ?_
  refine xs_ret ?_
  refine xs_fin [.string ⟨#[110, 97, 110]⟩] [] (SI.tmp 2 SI.nil) (fun _ h => h.re [] [0]) ⟨?_, rfl⟩
  first | (rw [numT, if_pos c3, if_pos c3]; rfl) | (rw [numT, if_pos c3, if_neg c3]; rfl) | (rw [numT, if_neg (by simp [c3])]; rfl)
 ·
  have c4 := not_f c2
  refine k_st ?_
  refine k_seq ?_
  refine k_seq ?_
  have hb := validN_b (p := p) (q := q) (by first | exact c4 | simpa using c4)
  refine k_reg ?_
  refine sp (pB g1 1) ?_
  refine s_lt (t_load 0 (.int .i64 q)) ?_
  refine s_lt t_cmp ?_
  refine s_nt ?_
  refine k_cond (decide (q = 1)) (fun c5 => ?_) (fun c5 => ?_)
  ·
   have p6 := of_decide_eq_true c5
   refine k_sr ?_
   refine sp (pB g1 0) ?_
   refine s_lt (t_load 0 (.int .i64 p)) ?_
   have z7 := itoaB_size (n := p) (by omega) (by omega)
   refine s_vcall (fun _ h => decimal_s p (by omega) (by omega)) ?_
   rintro _ rfl
   refine sp (.string (itoaB p)) ?_
   refine s_nt ?_
   refine k_ret ?_
   refine xs_ret ?_
   refine xs_fin [.string (itoaB p)] [] (SI.tmp 2 SI.nil) (fun _ h => h.re [] [0]) ⟨?_, rfl⟩
   first | (rw [numT, if_pos c4, if_pos c4]; rfl) | (rw [numT, if_pos c4, if_neg c4]; rfl) | (rw [numT, if_neg (by simp [c4])]; rfl) | (rw [numT, if_pos c4, if_pos p6]; rfl) | (rw [numT, if_pos c4, if_neg p6]; rfl) | (rw [numT, if_neg (by simp [c4])]; rfl) | (rw [numT, if_pos p6, if_pos c4]; rfl) | (rw [numT, if_pos p6, if_neg c4]; rfl) | (rw [numT, if_neg (by simp [p6])]; rfl) | (rw [numT, if_pos p6, if_pos p6]; rfl) | (rw [numT, if_pos p6, if_neg p6]; rfl) | (rw [numT, if_neg (by simp [p6])]; rfl)
  ·
   have p8 := of_decide_eq_false c5
   refine k_st ?_
   refine k_seq ?_
   refine k_held [blkA g1 #[.int .i64 p, .int .i64 q] 24] ?_
   refine hp_ 0 [0] (pB g1 0) ?_
   refine h_l 1 rfl [0] (fun _ => (t_load 0 (.int .i64 p))) ?_
   refine hp_ 4 [0] (pB g1 1) ?_
   refine h_l 5 rfl [0] (fun _ => (t_load 0 (.int .i64 q))) ?_
   refine h_stepS 2 ?_
   have z9 := itoaB_size (n := p) (by omega) (by omega)
   refine s_vcall (fun _ h => decimal_s p (by omega) (by omega)) ?_
   rintro _ rfl
   refine s_nil (xs_held [0] ?_)
   refine h_l 3 rfl [0] (fun _ => (t_cat (itoaB p) ⟨#[47]⟩ (by simp only [ByteArray.size_append, sz_mk, List.length_cons, List.length_nil]; omega))) ?_
   refine h_stepS 6 ?_
   have z10 := itoaB_size (n := q) (by omega) (by omega)
   refine s_vcall (fun _ h => decimal_s q (by omega) (by omega)) ?_
   rintro _ rfl
   refine s_nil (xs_held [0] ?_)
   refine h_l 7 rfl [0] (fun _ => (t_cat ((itoaB p) ++ ⟨#[47]⟩) (itoaB q) (by simp only [ByteArray.size_append, sz_mk, List.length_cons, List.length_nil]; omega))) ?_
   refine hp_ 8 [0] (.string (((itoaB p) ++ ⟨#[47]⟩) ++ (itoaB q))) ?_
   refine h_doneS ?_
   refine xs_then ?_
   refine k_ret ?_
   refine xs_fin [.string (((itoaB p) ++ ⟨#[47]⟩) ++ (itoaB q))] [] (SI.tmp 2 SI.nil) (fun _ h => h.re [] [0]) ⟨?_, rfl⟩
   first | (rw [numT, if_pos c4, if_pos c4]; rfl) | (rw [numT, if_pos c4, if_neg c4]; rfl) | (rw [numT, if_neg (by simp [c4])]; rfl) | (rw [numT, if_pos c4, if_pos p8]; rfl) | (rw [numT, if_pos c4, if_neg p8]; rfl) | (rw [numT, if_neg (by simp [c4])]; rfl) | (rw [numT, if_pos p8, if_pos c4]; rfl) | (rw [numT, if_pos p8, if_neg c4]; rfl) | (rw [numT, if_neg (by simp [p8])]; rfl) | (rw [numT, if_pos p8, if_pos p8]; rfl) | (rw [numT, if_pos p8, if_neg p8]; rfl) | (rw [numT, if_neg (by simp [p8])]; rfl)
theorem ntext_s {Z : Zone} (ht : KnTab Z) (p q : Int) : SF Tryz.prog 87 #[.agg #[.int .i64 p, .int .i64 q]] Z [] fun v Bs => v = .string (numT p q) ∧ Bs = [] := by
 refine sf_enter Tryz.func87 20 [(0, .agg #[.int .i64 p, .int .i64 q])] (fun w0 => ?_)
 refine k_sr ?_
 refine s_box #[.int .i64 p, .int .i64 q] (fun g1 => ?_)
 refine sp (.string ByteArray.empty) ?_
 refine s_nt ?_
 refine k_seq ?_
 refine k_sr ?_
 refine s_lt (t_loadA 0 #[.int .i64 p, .int .i64 q]) ?_
 refine s_vcall (fun _ h => vnum_s p q) ?_
 rintro _ rfl
 refine sp (.bool (!(validN p q))) ?_
 refine s_nt ?_
 refine k_cond (!(validN p q)) (fun c2 => ?_) (fun c2 => ?_)
 ·
  have c3 := not_t c2
  refine k_sr ?_
  refine sp (.string ⟨#[110, 97, 110]⟩) ?_
  refine s_nt ?_
  refine k_ret ?_
  refine xs_ret ?_
  refine xs_fin [.string ⟨#[110, 97, 110]⟩] [] (SI.tmp 2 SI.nil) (fun _ h => h.re [] [0]) ⟨?_, rfl⟩
  first | (rw [numT, if_pos c3, if_pos c3]; rfl) | (rw [numT, if_pos c3, if_neg c3]; rfl) | (rw [numT, if_neg (by simp [c3])]; rfl)
 ·
  have c4 := not_f c2
  refine k_st ?_
  refine k_seq ?_
  refine k_seq ?_
  have hb := validN_b (p := p) (q := q) (by first | exact c4 | simpa using c4)
  refine k_reg ?_
  refine sp (pB g1 1) ?_
  refine s_lt (t_load 0 (.int .i64 q)) ?_
  refine s_lt t_cmp ?_
  refine s_nt ?_
  refine k_cond (decide (q = 1)) (fun c5 => ?_) (fun c5 => ?_)
  ·
   have p6 := of_decide_eq_true c5
   refine k_sr ?_
   refine sp (pB g1 0) ?_
   refine s_lt (t_load 0 (.int .i64 p)) ?_
   have z7 := itoaB_size (n := p) (by omega) (by omega)
   refine s_vcall (fun _ h => itoa_s (ht.at h) p (by omega) (by omega)) ?_
   rintro _ rfl
   refine sp (.string (itoaB p)) ?_
   refine s_nt ?_
   refine k_ret ?_
   refine xs_ret ?_
   refine xs_fin [.string (itoaB p)] [] (SI.tmp 2 SI.nil) (fun _ h => h.re [] [0]) ⟨?_, rfl⟩
   first | (rw [numT, if_pos c4, if_pos c4]; rfl) | (rw [numT, if_pos c4, if_neg c4]; rfl) | (rw [numT, if_neg (by simp [c4])]; rfl) | (rw [numT, if_pos c4, if_pos p6]; rfl) | (rw [numT, if_pos c4, if_neg p6]; rfl) | (rw [numT, if_neg (by simp [c4])]; rfl) | (rw [numT, if_pos p6, if_pos c4]; rfl) | (rw [numT, if_pos p6, if_neg c4]; rfl) | (rw [numT, if_neg (by simp [p6])]; rfl) | (rw [numT, if_pos p6, if_pos p6]; rfl) | (rw [numT, if_pos p6, if_neg p6]; rfl) | (rw [numT, if_neg (by simp [p6])]; rfl)
  ·
   have p8 := of_decide_eq_false c5
   refine k_st ?_
   refine k_seq ?_
   refine k_held [blkA g1 #[.int .i64 p, .int .i64 q] 24] ?_
   refine hp_ 0 [0] (pB g1 0) ?_
   refine h_l 1 rfl [0] (fun _ => (t_load 0 (.int .i64 p))) ?_
   refine hp_ 4 [0] (pB g1 1) ?_
   refine h_l 5 rfl [0] (fun _ => (t_load 0 (.int .i64 q))) ?_
   refine h_stepS 2 ?_
   have z9 := itoaB_size (n := p) (by omega) (by omega)
   refine s_vcall (fun _ h => itoa_s (ht.at h) p (by omega) (by omega)) ?_
   rintro _ rfl
   refine s_nil (xs_held [0] ?_)
   refine h_l 3 rfl [0] (fun _ => (t_cat (itoaB p) ⟨#[47]⟩ (by simp only [ByteArray.size_append, sz_mk, List.length_cons, List.length_nil]; omega))) ?_
   refine h_stepS 6 ?_
   have z10 := itoaB_size (n := q) (by omega) (by omega)
   refine s_vcall (fun _ h => itoa_s (ht.at h) q (by omega) (by omega)) ?_
   rintro _ rfl
   refine s_nil (xs_held [0] ?_)
   refine h_l 7 rfl [0] (fun _ => (t_cat ((itoaB p) ++ ⟨#[47]⟩) (itoaB q) (by simp only [ByteArray.size_append, sz_mk, List.length_cons, List.length_nil]; omega))) ?_
   refine hp_ 8 [0] (.string (((itoaB p) ++ ⟨#[47]⟩) ++ (itoaB q))) ?_
   refine h_doneS ?_
   refine xs_then ?_
   refine k_ret ?_
   refine xs_fin [.string (((itoaB p) ++ ⟨#[47]⟩) ++ (itoaB q))] [] (SI.tmp 2 SI.nil) (fun _ h => h.re [] [0]) ⟨?_, rfl⟩
   first | (rw [numT, if_pos c4, if_pos c4]; rfl) | (rw [numT, if_pos c4, if_neg c4]; rfl) | (rw [numT, if_neg (by simp [c4])]; rfl) | (rw [numT, if_pos c4, if_pos p8]; rfl) | (rw [numT, if_pos c4, if_neg p8]; rfl) | (rw [numT, if_neg (by simp [c4])]; rfl) | (rw [numT, if_pos p8, if_pos c4]; rfl) | (rw [numT, if_pos p8, if_neg c4]; rfl) | (rw [numT, if_neg (by simp [p8])]; rfl) | (rw [numT, if_pos p8, if_pos p8]; rfl) | (rw [numT, if_pos p8, if_neg p8]; rfl) | (rw [numT, if_neg (by simp [p8])]; rfl)
def textT (v : Vl) : ByteArray :=
  if v.kind = 0 then ⟨#[110, 105, 108]⟩ else if v.kind = 1 then (if v.ref = 0 then ⟨#[102, 97, 108, 115, 101]⟩ else ⟨#[116, 114, 117, 101]⟩) else if v.kind = 2 then numT v.p v.q else if v.kind = 3 then v.str else if v.kind = 6 then ⟨#[98, 117, 105, 108, 116, 105, 110, 58, 32]⟩ ++ v.str else
  if v.kind = 4 ∨ v.kind = 5 ∨ v.kind = 7 ∨ v.kind = 8 then typeB v.kind ++ ⟨#[58, 32]⟩ ++ itoaB v.ref else ByteArray.empty
theorem text_s {Z : Zone} (ht : KnTab Z) (v : Vl) (h0 : -9223372036854775808 ≤ v.ref) (h1 : v.ref ≤ 9223372036854775807) (hs : (v.str.size : Int) ≤ 4611686018427387904) : SF Tryz.prog 35 #[v.v] Z [] fun r Bs => r = .string (textT v) ∧ Bs = [] := by
 have hts := typeB_size v.kind
 refine sf_enter Tryz.func35 38 [(0, .agg #[.int .i64 v.kind, .int .i64 v.p, .int .i64 v.q, .string v.str, .int .i64 v.ref])] (fun w0 => ?_)
 refine k_sr ?_
 refine s_box #[.int .i64 v.kind, .int .i64 v.p, .int .i64 v.q, .string v.str, .int .i64 v.ref] (fun g1 => ?_)
 refine sp (.string ByteArray.empty) ?_
 refine s_nt ?_
 refine k_seq ?_
 refine k_sr ?_
 refine sp (pB g1 0) ?_
 refine s_lt (t_load 0 (.int .i64 v.kind)) ?_
 refine s_nt ?_
 refine k_block ?_
 refine k_sr ?_
 refine s_lt t_cmp ?_
 refine sp (.bool (decide (v.kind = 0))) ?_
 refine s_nt ?_
 refine k_cond (decide (v.kind = 0)) (fun c2 => ?_) (fun c2 => ?_)
 ·
  have p3 := of_decide_eq_true c2
  refine k_sr ?_
  refine sp (.string ⟨#[110, 105, 108]⟩) ?_
  refine s_nt ?_
  refine k_ret ?_
  refine xs_retBlock ?_
  refine xs_ret ?_
  refine xs_fin [.string ⟨#[110, 105, 108]⟩] [] (SI.tmp 2 SI.nil) (fun _ h => h.re [] [0]) ⟨congrArg Value.string ?_, rfl⟩
  first | (simp [textT, c2, p3]; done) | (by_cases e0 : v.kind = 0 <;> simp_all [textT, typeB]; done)
 ·
  have p4 := of_decide_eq_false c2
  refine k_sr ?_
  refine s_lt t_cmp ?_
  refine sp (.bool (decide (v.kind = 1))) ?_
  refine s_nt ?_
  refine k_cond (decide (v.kind = 1)) (fun c5 => ?_) (fun c5 => ?_)
  ·
   have p6 := of_decide_eq_true c5
   refine k_seq ?_
   refine k_sr ?_
   refine sp (pB g1 4) ?_
   refine s_lt (t_load 0 (.int .i64 v.ref)) ?_
   refine s_lt t_cmp ?_
   refine s_nt ?_
   refine k_cond (decide (v.ref = 0)) (fun c7 => ?_) (fun c7 => ?_)
   ·
    have p8 := of_decide_eq_true c7
    refine k_sr ?_
    refine sp (.string ⟨#[102, 97, 108, 115, 101]⟩) ?_
    refine s_nt ?_
    refine k_ret ?_
    refine xs_ret ?_
    refine xs_retBlock ?_
    refine xs_ret ?_
    refine xs_fin [.string ⟨#[102, 97, 108, 115, 101]⟩] [] (SI.tmp 2 SI.nil) (fun _ h => h.re [] [0]) ⟨congrArg Value.string ?_, rfl⟩
    first | (simp [textT, c2, c5, c7, p4, p6, p8]; done) | (by_cases e0 : v.kind = 0 <;> simp_all [textT, typeB]; done)
   ·
    have p9 := of_decide_eq_false c7
    refine k_st ?_
    refine k_sr ?_
    refine sp (.string ⟨#[116, 114, 117, 101]⟩) ?_
    refine s_nt ?_
    refine k_ret ?_
    refine xs_retBlock ?_
    refine xs_ret ?_
    refine xs_fin [.string ⟨#[116, 114, 117, 101]⟩] [] (SI.tmp 2 SI.nil) (fun _ h => h.re [] [0]) ⟨congrArg Value.string ?_, rfl⟩
    first | (simp [textT, c2, c5, c7, p4, p6, p9]; done) | (by_cases e0 : v.kind = 0 <;> simp_all [textT, typeB]; done)
  ·
   have p10 := of_decide_eq_false c5
   refine k_sr ?_
   refine s_lt t_cmp ?_
   refine sp (.bool (decide (v.kind = 2))) ?_
   refine s_nt ?_
   refine k_cond (decide (v.kind = 2)) (fun c11 => ?_) (fun c11 => ?_)
   ·
    have p12 := of_decide_eq_true c11
    refine k_sr ?_
    refine sp (pB g1 1) ?_
    refine s_lt (t_loadA 0 #[.int .i64 v.p, .int .i64 v.q]) ?_
    refine s_vcall (fun _ h => ntext_s (ht.at h) v.p v.q) ?_
    rintro _ rfl
    refine sp (.string (numT v.p v.q)) ?_
    refine s_nt ?_
    refine k_ret ?_
    refine xs_retBlock ?_
    refine xs_ret ?_
    refine xs_fin [.string (numT v.p v.q)] [] (SI.tmp 2 SI.nil) (fun _ h => h.re [] [0]) ⟨congrArg Value.string ?_, rfl⟩
    first | (simp [textT, c2, c5, c11, p4, p10, p12]; done) | (by_cases e0 : v.kind = 0 <;> simp_all [textT, typeB]; done)
   ·
    have p13 := of_decide_eq_false c11
    refine k_sr ?_
    refine s_lt t_cmp ?_
    refine sp (.bool (decide (v.kind = 3))) ?_
    refine s_nt ?_
    refine k_cond (decide (v.kind = 3)) (fun c14 => ?_) (fun c14 => ?_)
    ·
     have p15 := of_decide_eq_true c14
     refine k_sr ?_
     refine sp (pB g1 3) ?_
     refine s_lt (t_load 0 (.string v.str)) ?_
     refine sp (.string v.str) ?_
     refine s_nt ?_
     refine k_ret ?_
     refine xs_retBlock ?_
     refine xs_ret ?_
     refine xs_fin [.string v.str] [] (SI.tmp 2 SI.nil) (fun _ h => h.re [] [0]) ⟨congrArg Value.string ?_, rfl⟩
     first | (simp [textT, c2, c5, c11, c14, p4, p10, p13, p15]; done) | (by_cases e0 : v.kind = 0 <;> simp_all [textT, typeB]; done)
    ·
     have p16 := of_decide_eq_false c14
     refine k_sr ?_
     refine s_lt t_cmp ?_
     refine sp (.bool (decide (v.kind = 6))) ?_
     refine s_nt ?_
     refine k_cond (decide (v.kind = 6)) (fun c17 => ?_) (fun c17 => ?_)
     ·
      have p18 := of_decide_eq_true c17
      refine k_sr ?_
      refine sp (pB g1 3) ?_
      refine s_lt (t_load 0 (.string v.str)) ?_
      refine s_lt (t_cat ⟨#[98, 117, 105, 108, 116, 105, 110, 58, 32]⟩ v.str (by simp only [ByteArray.size_append, sz_mk, List.length_cons, List.length_nil]; omega)) ?_
      refine sp (.string (⟨#[98, 117, 105, 108, 116, 105, 110, 58, 32]⟩ ++ v.str)) ?_
      refine s_nt ?_
      refine k_ret ?_
      refine xs_retBlock ?_
      refine xs_ret ?_
      refine xs_fin [.string (⟨#[98, 117, 105, 108, 116, 105, 110, 58, 32]⟩ ++ v.str)] [] (SI.tmp 2 SI.nil) (fun _ h => h.re [] [0]) ⟨congrArg Value.string ?_, rfl⟩
      first | (simp [textT, c2, c5, c11, c14, c17, p4, p10, p13, p16, p18]; done) | (by_cases e0 : v.kind = 0 <;> simp_all [textT, typeB]; done)
     ·
      have p19 := of_decide_eq_false c17
      refine k_seq ?_
      refine k_sr ?_
      refine s_lt t_cmp ?_
      refine sp (.bool (decide (v.kind = 4))) ?_
      refine s_nt ?_
      refine k_cond (decide (v.kind = 4)) (fun c20 => ?_) (fun c20 => ?_)
      ·
       have p21 := of_decide_eq_true c20
       refine k_st ?_
       refine k_true (hv := congrArg Value.bool c20) ?_
       refine k_seq ?_
       refine k_held [blkA g1 #[.int .i64 v.kind, .int .i64 v.p, .int .i64 v.q, .string v.str, .int .i64 v.ref] 26] ?_
       refine h_l 0 rfl [0] (fun _ => (t_loadA 0 #[.int .i64 v.kind, .int .i64 v.p, .int .i64 v.q, .string v.str, .int .i64 v.ref])) ?_
       refine hp_ 3 [0] (pB g1 4) ?_
       refine h_l 4 rfl [0] (fun _ => (t_load 0 (.int .i64 v.ref))) ?_
       refine h_stepS 1 ?_
       refine s_vcall (fun _ h => type_s v) ?_
       rintro _ rfl
       refine s_nil (xs_held [0] ?_)
       refine h_l 2 rfl [0] (fun _ => (t_cat (typeB v.kind) ⟨#[58, 32]⟩ (by simp only [ByteArray.size_append, sz_mk, List.length_cons, List.length_nil]; omega))) ?_
       refine h_stepS 5 ?_
       have z22 := itoaB_size (n := v.ref) (by omega) (by omega)
       refine s_vcall (fun _ h => itoa_s (ht.at h) v.ref (by omega) (by omega)) ?_
       rintro _ rfl
       refine s_nil (xs_held [0] ?_)
       refine h_l 6 rfl [0] (fun _ => (t_cat ((typeB v.kind) ++ ⟨#[58, 32]⟩) (itoaB v.ref) (by simp only [ByteArray.size_append, sz_mk, List.length_cons, List.length_nil]; omega))) ?_
       refine hp_ 7 [0] (.string (((typeB v.kind) ++ ⟨#[58, 32]⟩) ++ (itoaB v.ref))) ?_
       refine h_doneS ?_
       refine xs_then ?_
       refine k_ret ?_
       refine xs_retBlock ?_
       refine xs_ret ?_
       refine xs_fin [.string (((typeB v.kind) ++ ⟨#[58, 32]⟩) ++ (itoaB v.ref))] [] (SI.tmp 2 SI.nil) (fun _ h => h.re [] [0]) ⟨congrArg Value.string ?_, rfl⟩
       first | (simp [textT, c2, c5, c11, c14, c17, c20, p4, p10, p13, p16, p19, p21]; done) | (by_cases e0 : v.kind = 0 <;> simp_all [textT, typeB]; done)
      ·
       have p23 := of_decide_eq_false c20
       refine k_sr ?_
       refine s_lt t_cmp ?_
       refine sp (.bool (decide (v.kind = 5))) ?_
       refine s_nt ?_
       refine k_cond (decide (v.kind = 5)) (fun c24 => ?_) (fun c24 => ?_)
       ·
        have p25 := of_decide_eq_true c24
        refine k_st ?_
        refine k_true (hv := congrArg Value.bool c24) ?_
        refine k_seq ?_
        refine k_held [blkA g1 #[.int .i64 v.kind, .int .i64 v.p, .int .i64 v.q, .string v.str, .int .i64 v.ref] 26] ?_
        refine h_l 0 rfl [0] (fun _ => (t_loadA 0 #[.int .i64 v.kind, .int .i64 v.p, .int .i64 v.q, .string v.str, .int .i64 v.ref])) ?_
        refine hp_ 3 [0] (pB g1 4) ?_
        refine h_l 4 rfl [0] (fun _ => (t_load 0 (.int .i64 v.ref))) ?_
        refine h_stepS 1 ?_
        refine s_vcall (fun _ h => type_s v) ?_
        rintro _ rfl
        refine s_nil (xs_held [0] ?_)
        refine h_l 2 rfl [0] (fun _ => (t_cat (typeB v.kind) ⟨#[58, 32]⟩ (by simp only [ByteArray.size_append, sz_mk, List.length_cons, List.length_nil]; omega))) ?_
        refine h_stepS 5 ?_
        have z26 := itoaB_size (n := v.ref) (by omega) (by omega)
        refine s_vcall (fun _ h => itoa_s (ht.at h) v.ref (by omega) (by omega)) ?_
        rintro _ rfl
        refine s_nil (xs_held [0] ?_)
        refine h_l 6 rfl [0] (fun _ => (t_cat ((typeB v.kind) ++ ⟨#[58, 32]⟩) (itoaB v.ref) (by simp only [ByteArray.size_append, sz_mk, List.length_cons, List.length_nil]; omega))) ?_
        refine hp_ 7 [0] (.string (((typeB v.kind) ++ ⟨#[58, 32]⟩) ++ (itoaB v.ref))) ?_
        refine h_doneS ?_
        refine xs_then ?_
        refine k_ret ?_
        refine xs_retBlock ?_
        refine xs_ret ?_
        refine xs_fin [.string (((typeB v.kind) ++ ⟨#[58, 32]⟩) ++ (itoaB v.ref))] [] (SI.tmp 2 SI.nil) (fun _ h => h.re [] [0]) ⟨congrArg Value.string ?_, rfl⟩
        first | (simp [textT, c2, c5, c11, c14, c17, c20, c24, p4, p10, p13, p16, p19, p23, p25]; done) | (by_cases e0 : v.kind = 0 <;> simp_all [textT, typeB]; done)
       ·
        have p27 := of_decide_eq_false c24
        refine k_sr ?_
        refine s_lt t_cmp ?_
        refine sp (.bool (decide (v.kind = 7))) ?_
        refine s_nt ?_
        refine k_cond (decide (v.kind = 7)) (fun c28 => ?_) (fun c28 => ?_)
        ·
         have p29 := of_decide_eq_true c28
         refine k_st ?_
         refine k_true (hv := congrArg Value.bool c28) ?_
         refine k_seq ?_
         refine k_held [blkA g1 #[.int .i64 v.kind, .int .i64 v.p, .int .i64 v.q, .string v.str, .int .i64 v.ref] 26] ?_
         refine h_l 0 rfl [0] (fun _ => (t_loadA 0 #[.int .i64 v.kind, .int .i64 v.p, .int .i64 v.q, .string v.str, .int .i64 v.ref])) ?_
         refine hp_ 3 [0] (pB g1 4) ?_
         refine h_l 4 rfl [0] (fun _ => (t_load 0 (.int .i64 v.ref))) ?_
         refine h_stepS 1 ?_
         refine s_vcall (fun _ h => type_s v) ?_
         rintro _ rfl
         refine s_nil (xs_held [0] ?_)
         refine h_l 2 rfl [0] (fun _ => (t_cat (typeB v.kind) ⟨#[58, 32]⟩ (by simp only [ByteArray.size_append, sz_mk, List.length_cons, List.length_nil]; omega))) ?_
         refine h_stepS 5 ?_
         have z30 := itoaB_size (n := v.ref) (by omega) (by omega)
         refine s_vcall (fun _ h => itoa_s (ht.at h) v.ref (by omega) (by omega)) ?_
         rintro _ rfl
         refine s_nil (xs_held [0] ?_)
         refine h_l 6 rfl [0] (fun _ => (t_cat ((typeB v.kind) ++ ⟨#[58, 32]⟩) (itoaB v.ref) (by simp only [ByteArray.size_append, sz_mk, List.length_cons, List.length_nil]; omega))) ?_
         refine hp_ 7 [0] (.string (((typeB v.kind) ++ ⟨#[58, 32]⟩) ++ (itoaB v.ref))) ?_
         refine h_doneS ?_
         refine xs_then ?_
         refine k_ret ?_
         refine xs_retBlock ?_
         refine xs_ret ?_
         refine xs_fin [.string (((typeB v.kind) ++ ⟨#[58, 32]⟩) ++ (itoaB v.ref))] [] (SI.tmp 2 SI.nil) (fun _ h => h.re [] [0]) ⟨congrArg Value.string ?_, rfl⟩
         first | (simp [textT, c2, c5, c11, c14, c17, c20, c24, c28, p4, p10, p13, p16, p19, p23, p27, p29]; done) | (by_cases e0 : v.kind = 0 <;> simp_all [textT, typeB]; done)
        ·
         have p31 := of_decide_eq_false c28
         refine k_reg ?_
         refine s_lt t_cmp ?_
         refine sp (.bool (decide (v.kind = 8))) ?_
         refine s_nt ?_
         refine k_cond (decide (v.kind = 8)) (fun c32 => ?_) (fun c32 => ?_)
         ·
          have p33 := of_decide_eq_true c32
          refine k_seq ?_
          refine k_held [blkA g1 #[.int .i64 v.kind, .int .i64 v.p, .int .i64 v.q, .string v.str, .int .i64 v.ref] 26] ?_
          refine h_l 0 rfl [0] (fun _ => (t_loadA 0 #[.int .i64 v.kind, .int .i64 v.p, .int .i64 v.q, .string v.str, .int .i64 v.ref])) ?_
          refine hp_ 3 [0] (pB g1 4) ?_
          refine h_l 4 rfl [0] (fun _ => (t_load 0 (.int .i64 v.ref))) ?_
          refine h_stepS 1 ?_
          refine s_vcall (fun _ h => type_s v) ?_
          rintro _ rfl
          refine s_nil (xs_held [0] ?_)
          refine h_l 2 rfl [0] (fun _ => (t_cat (typeB v.kind) ⟨#[58, 32]⟩ (by simp only [ByteArray.size_append, sz_mk, List.length_cons, List.length_nil]; omega))) ?_
          refine h_stepS 5 ?_
          have z34 := itoaB_size (n := v.ref) (by omega) (by omega)
          refine s_vcall (fun _ h => itoa_s (ht.at h) v.ref (by omega) (by omega)) ?_
          rintro _ rfl
          refine s_nil (xs_held [0] ?_)
          refine h_l 6 rfl [0] (fun _ => (t_cat ((typeB v.kind) ++ ⟨#[58, 32]⟩) (itoaB v.ref) (by simp only [ByteArray.size_append, sz_mk, List.length_cons, List.length_nil]; omega))) ?_
          refine hp_ 7 [0] (.string (((typeB v.kind) ++ ⟨#[58, 32]⟩) ++ (itoaB v.ref))) ?_
          refine h_doneS ?_
          refine xs_then ?_
          refine k_ret ?_
          refine xs_retBlock ?_
          refine xs_ret ?_
          refine xs_fin [.string (((typeB v.kind) ++ ⟨#[58, 32]⟩) ++ (itoaB v.ref))] [] (SI.tmp 2 SI.nil) (fun _ h => h.re [] [0]) ⟨congrArg Value.string ?_, rfl⟩
          first | (simp [textT, c2, c5, c11, c14, c17, c20, c24, c28, c32, p4, p10, p13, p16, p19, p23, p27, p31, p33]; done) | (by_cases e0 : v.kind = 0 <;> simp_all [textT, typeB]; done)
         ·
          have p35 := of_decide_eq_false c32
          refine k_skip ?_
          refine xs_block ?_
          refine xs_then ?_
          refine k_sr ?_
          refine sp (.string ByteArray.empty) ?_
          refine s_nt ?_
          refine k_ret ?_
          refine xs_fin [.string ByteArray.empty] [] (SI.tmp 2 SI.nil) (fun _ h => h.re [] [0]) ⟨congrArg Value.string ?_, rfl⟩
          first | (simp [textT, c2, c5, c11, c14, c17, c20, c24, c28, c32, p4, p10, p13, p16, p19, p23, p27, p31, p35]; done) | (by_cases e0 : v.kind = 0 <;> simp_all [textT, typeB]; done)
theorem rvtext_s {Z : Zone} (v : Vl) (h0 : -9223372036854775808 ≤ v.ref) (h1 : v.ref ≤ 9223372036854775807) (hs : (v.str.size : Int) ≤ 4611686018427387904) : SF Tryz.prog 45 #[v.v] Z [] fun r Bs => r = .string (textT v) ∧ Bs = [] := by
 have hts := typeB_size v.kind
 refine sf_enter Tryz.func45 38 [(0, .agg #[.int .i64 v.kind, .int .i64 v.p, .int .i64 v.q, .string v.str, .int .i64 v.ref])] (fun w0 => ?_)
 refine k_sr ?_
 refine s_box #[.int .i64 v.kind, .int .i64 v.p, .int .i64 v.q, .string v.str, .int .i64 v.ref] (fun g1 => ?_)
 refine sp (.string ByteArray.empty) ?_
 refine s_nt ?_
 refine k_seq ?_
 refine k_sr ?_
 refine sp (pB g1 0) ?_
 refine s_lt (t_load 0 (.int .i64 v.kind)) ?_
 refine s_nt ?_
 refine k_block ?_
 refine k_sr ?_
 refine s_lt t_cmp ?_
 refine sp (.bool (decide (v.kind = 1))) ?_
 refine s_nt ?_
 refine k_cond (decide (v.kind = 1)) (fun c2 => ?_) (fun c2 => ?_)
 ·
  have p3 := of_decide_eq_true c2
  refine k_seq ?_
  refine k_sr ?_
  refine sp (pB g1 4) ?_
  refine s_lt (t_load 0 (.int .i64 v.ref)) ?_
  refine s_lt t_cmp ?_
  refine s_nt ?_
  refine k_cond (decide (v.ref = 0)) (fun c4 => ?_) (fun c4 => ?_)
  ·
   have p5 := of_decide_eq_true c4
   refine k_sr ?_
   refine sp (.string ⟨#[102, 97, 108, 115, 101]⟩) ?_
   refine s_nt ?_
   refine k_ret ?_
   refine xs_ret ?_
   refine xs_retBlock ?_
   refine xs_ret ?_
   refine xs_fin [.string ⟨#[102, 97, 108, 115, 101]⟩] [] (SI.tmp 2 SI.nil) (fun _ h => h.re [] [0]) ⟨congrArg Value.string ?_, rfl⟩
   first | (simp [textT, c2, c4, p3, p5]; done) | (by_cases e0 : v.kind = 0 <;> simp_all [textT, typeB]; done)
  ·
   have p6 := of_decide_eq_false c4
   refine k_st ?_
   refine k_sr ?_
   refine sp (.string ⟨#[116, 114, 117, 101]⟩) ?_
   refine s_nt ?_
   refine k_ret ?_
   refine xs_retBlock ?_
   refine xs_ret ?_
   refine xs_fin [.string ⟨#[116, 114, 117, 101]⟩] [] (SI.tmp 2 SI.nil) (fun _ h => h.re [] [0]) ⟨congrArg Value.string ?_, rfl⟩
   first | (simp [textT, c2, c4, p3, p6]; done) | (by_cases e0 : v.kind = 0 <;> simp_all [textT, typeB]; done)
 ·
  have p7 := of_decide_eq_false c2
  refine k_sr ?_
  refine s_lt t_cmp ?_
  refine sp (.bool (decide (v.kind = 2))) ?_
  refine s_nt ?_
  refine k_cond (decide (v.kind = 2)) (fun c8 => ?_) (fun c8 => ?_)
  ·
   have p9 := of_decide_eq_true c8
   refine k_sr ?_
   refine sp (pB g1 1) ?_
   refine s_lt (t_loadA 0 #[.int .i64 v.p, .int .i64 v.q]) ?_
   refine s_vcall (fun _ h => rntext_s v.p v.q) ?_
   rintro _ rfl
   refine sp (.string (numT v.p v.q)) ?_
   refine s_nt ?_
   refine k_ret ?_
   refine xs_retBlock ?_
   refine xs_ret ?_
   refine xs_fin [.string (numT v.p v.q)] [] (SI.tmp 2 SI.nil) (fun _ h => h.re [] [0]) ⟨congrArg Value.string ?_, rfl⟩
   first | (simp [textT, c2, c8, p7, p9]; done) | (by_cases e0 : v.kind = 0 <;> simp_all [textT, typeB]; done)
  ·
   have p10 := of_decide_eq_false c8
   refine k_sr ?_
   refine s_lt t_cmp ?_
   refine sp (.bool (decide (v.kind = 3))) ?_
   refine s_nt ?_
   refine k_cond (decide (v.kind = 3)) (fun c11 => ?_) (fun c11 => ?_)
   ·
    have p12 := of_decide_eq_true c11
    refine k_sr ?_
    refine sp (pB g1 3) ?_
    refine s_lt (t_load 0 (.string v.str)) ?_
    refine sp (.string v.str) ?_
    refine s_nt ?_
    refine k_ret ?_
    refine xs_retBlock ?_
    refine xs_ret ?_
    refine xs_fin [.string v.str] [] (SI.tmp 2 SI.nil) (fun _ h => h.re [] [0]) ⟨congrArg Value.string ?_, rfl⟩
    first | (simp [textT, c2, c8, c11, p7, p10, p12]; done) | (by_cases e0 : v.kind = 0 <;> simp_all [textT, typeB]; done)
   ·
    have p13 := of_decide_eq_false c11
    refine k_sr ?_
    refine s_lt t_cmp ?_
    refine sp (.bool (decide (v.kind = 6))) ?_
    refine s_nt ?_
    refine k_cond (decide (v.kind = 6)) (fun c14 => ?_) (fun c14 => ?_)
    ·
     have p15 := of_decide_eq_true c14
     refine k_sr ?_
     refine sp (pB g1 3) ?_
     refine s_lt (t_load 0 (.string v.str)) ?_
     refine s_lt (t_cat ⟨#[98, 117, 105, 108, 116, 105, 110, 58, 32]⟩ v.str (by simp only [ByteArray.size_append, sz_mk, List.length_cons, List.length_nil]; omega)) ?_
     refine sp (.string (⟨#[98, 117, 105, 108, 116, 105, 110, 58, 32]⟩ ++ v.str)) ?_
     refine s_nt ?_
     refine k_ret ?_
     refine xs_retBlock ?_
     refine xs_ret ?_
     refine xs_fin [.string (⟨#[98, 117, 105, 108, 116, 105, 110, 58, 32]⟩ ++ v.str)] [] (SI.tmp 2 SI.nil) (fun _ h => h.re [] [0]) ⟨congrArg Value.string ?_, rfl⟩
     first | (simp [textT, c2, c8, c11, c14, p7, p10, p13, p15]; done) | (by_cases e0 : v.kind = 0 <;> simp_all [textT, typeB]; done)
    ·
     have p16 := of_decide_eq_false c14
     refine k_seq ?_
     refine k_sr ?_
     refine s_lt t_cmp ?_
     refine sp (.bool (decide (v.kind = 4))) ?_
     refine s_nt ?_
     refine k_cond (decide (v.kind = 4)) (fun c17 => ?_) (fun c17 => ?_)
     ·
      have p18 := of_decide_eq_true c17
      refine k_st ?_
      refine k_true (hv := congrArg Value.bool c17) ?_
      refine k_seq ?_
      refine k_held [blkA g1 #[.int .i64 v.kind, .int .i64 v.p, .int .i64 v.q, .string v.str, .int .i64 v.ref] 26] ?_
      refine h_l 0 rfl [0] (fun _ => (t_loadA 0 #[.int .i64 v.kind, .int .i64 v.p, .int .i64 v.q, .string v.str, .int .i64 v.ref])) ?_
      refine hp_ 3 [0] (pB g1 4) ?_
      refine h_l 4 rfl [0] (fun _ => (t_load 0 (.int .i64 v.ref))) ?_
      refine h_stepS 1 ?_
      refine s_vcall (fun _ h => rtype_s v) ?_
      rintro _ rfl
      refine s_nil (xs_held [0] ?_)
      refine h_l 2 rfl [0] (fun _ => (t_cat (typeB v.kind) ⟨#[58, 32]⟩ (by simp only [ByteArray.size_append, sz_mk, List.length_cons, List.length_nil]; omega))) ?_
      refine h_stepS 5 ?_
      have z19 := itoaB_size (n := v.ref) (by omega) (by omega)
      refine s_vcall (fun _ h => decimal_s v.ref (by omega) (by omega)) ?_
      rintro _ rfl
      refine s_nil (xs_held [0] ?_)
      refine h_l 6 rfl [0] (fun _ => (t_cat ((typeB v.kind) ++ ⟨#[58, 32]⟩) (itoaB v.ref) (by simp only [ByteArray.size_append, sz_mk, List.length_cons, List.length_nil]; omega))) ?_
      refine hp_ 7 [0] (.string (((typeB v.kind) ++ ⟨#[58, 32]⟩) ++ (itoaB v.ref))) ?_
      refine h_doneS ?_
      refine xs_then ?_
      refine k_ret ?_
      refine xs_retBlock ?_
      refine xs_ret ?_
      refine xs_fin [.string (((typeB v.kind) ++ ⟨#[58, 32]⟩) ++ (itoaB v.ref))] [] (SI.tmp 2 SI.nil) (fun _ h => h.re [] [0]) ⟨congrArg Value.string ?_, rfl⟩
      first | (simp [textT, c2, c8, c11, c14, c17, p7, p10, p13, p16, p18]; done) | (by_cases e0 : v.kind = 0 <;> simp_all [textT, typeB]; done)
     ·
      have p20 := of_decide_eq_false c17
      refine k_sr ?_
      refine s_lt t_cmp ?_
      refine sp (.bool (decide (v.kind = 5))) ?_
      refine s_nt ?_
      refine k_cond (decide (v.kind = 5)) (fun c21 => ?_) (fun c21 => ?_)
      ·
       have p22 := of_decide_eq_true c21
       refine k_st ?_
       refine k_true (hv := congrArg Value.bool c21) ?_
       refine k_seq ?_
       refine k_held [blkA g1 #[.int .i64 v.kind, .int .i64 v.p, .int .i64 v.q, .string v.str, .int .i64 v.ref] 26] ?_
       refine h_l 0 rfl [0] (fun _ => (t_loadA 0 #[.int .i64 v.kind, .int .i64 v.p, .int .i64 v.q, .string v.str, .int .i64 v.ref])) ?_
       refine hp_ 3 [0] (pB g1 4) ?_
       refine h_l 4 rfl [0] (fun _ => (t_load 0 (.int .i64 v.ref))) ?_
       refine h_stepS 1 ?_
       refine s_vcall (fun _ h => rtype_s v) ?_
       rintro _ rfl
       refine s_nil (xs_held [0] ?_)
       refine h_l 2 rfl [0] (fun _ => (t_cat (typeB v.kind) ⟨#[58, 32]⟩ (by simp only [ByteArray.size_append, sz_mk, List.length_cons, List.length_nil]; omega))) ?_
       refine h_stepS 5 ?_
       have z23 := itoaB_size (n := v.ref) (by omega) (by omega)
       refine s_vcall (fun _ h => decimal_s v.ref (by omega) (by omega)) ?_
       rintro _ rfl
       refine s_nil (xs_held [0] ?_)
       refine h_l 6 rfl [0] (fun _ => (t_cat ((typeB v.kind) ++ ⟨#[58, 32]⟩) (itoaB v.ref) (by simp only [ByteArray.size_append, sz_mk, List.length_cons, List.length_nil]; omega))) ?_
       refine hp_ 7 [0] (.string (((typeB v.kind) ++ ⟨#[58, 32]⟩) ++ (itoaB v.ref))) ?_
       refine h_doneS ?_
       refine xs_then ?_
       refine k_ret ?_
       refine xs_retBlock ?_
       refine xs_ret ?_
       refine xs_fin [.string (((typeB v.kind) ++ ⟨#[58, 32]⟩) ++ (itoaB v.ref))] [] (SI.tmp 2 SI.nil) (fun _ h => h.re [] [0]) ⟨congrArg Value.string ?_, rfl⟩
       first | (simp [textT, c2, c8, c11, c14, c17, c21, p7, p10, p13, p16, p20, p22]; done) | (by_cases e0 : v.kind = 0 <;> simp_all [textT, typeB]; done)
      ·
       have p24 := of_decide_eq_false c21
       refine k_sr ?_
       refine s_lt t_cmp ?_
       refine sp (.bool (decide (v.kind = 7))) ?_
       refine s_nt ?_
       refine k_cond (decide (v.kind = 7)) (fun c25 => ?_) (fun c25 => ?_)
       ·
        have p26 := of_decide_eq_true c25
        refine k_st ?_
        refine k_true (hv := congrArg Value.bool c25) ?_
        refine k_seq ?_
        refine k_held [blkA g1 #[.int .i64 v.kind, .int .i64 v.p, .int .i64 v.q, .string v.str, .int .i64 v.ref] 26] ?_
        refine h_l 0 rfl [0] (fun _ => (t_loadA 0 #[.int .i64 v.kind, .int .i64 v.p, .int .i64 v.q, .string v.str, .int .i64 v.ref])) ?_
        refine hp_ 3 [0] (pB g1 4) ?_
        refine h_l 4 rfl [0] (fun _ => (t_load 0 (.int .i64 v.ref))) ?_
        refine h_stepS 1 ?_
        refine s_vcall (fun _ h => rtype_s v) ?_
        rintro _ rfl
        refine s_nil (xs_held [0] ?_)
        refine h_l 2 rfl [0] (fun _ => (t_cat (typeB v.kind) ⟨#[58, 32]⟩ (by simp only [ByteArray.size_append, sz_mk, List.length_cons, List.length_nil]; omega))) ?_
        refine h_stepS 5 ?_
        have z27 := itoaB_size (n := v.ref) (by omega) (by omega)
        refine s_vcall (fun _ h => decimal_s v.ref (by omega) (by omega)) ?_
        rintro _ rfl
        refine s_nil (xs_held [0] ?_)
        refine h_l 6 rfl [0] (fun _ => (t_cat ((typeB v.kind) ++ ⟨#[58, 32]⟩) (itoaB v.ref) (by simp only [ByteArray.size_append, sz_mk, List.length_cons, List.length_nil]; omega))) ?_
        refine hp_ 7 [0] (.string (((typeB v.kind) ++ ⟨#[58, 32]⟩) ++ (itoaB v.ref))) ?_
        refine h_doneS ?_
        refine xs_then ?_
        refine k_ret ?_
        refine xs_retBlock ?_
        refine xs_ret ?_
        refine xs_fin [.string (((typeB v.kind) ++ ⟨#[58, 32]⟩) ++ (itoaB v.ref))] [] (SI.tmp 2 SI.nil) (fun _ h => h.re [] [0]) ⟨congrArg Value.string ?_, rfl⟩
        first | (simp [textT, c2, c8, c11, c14, c17, c21, c25, p7, p10, p13, p16, p20, p24, p26]; done) | (by_cases e0 : v.kind = 0 <;> simp_all [textT, typeB]; done)
       ·
        have p28 := of_decide_eq_false c25
        refine k_reg ?_
        refine s_lt t_cmp ?_
        refine sp (.bool (decide (v.kind = 8))) ?_
        refine s_nt ?_
        refine k_cond (decide (v.kind = 8)) (fun c29 => ?_) (fun c29 => ?_)
        ·
         have p30 := of_decide_eq_true c29
         refine k_seq ?_
         refine k_held [blkA g1 #[.int .i64 v.kind, .int .i64 v.p, .int .i64 v.q, .string v.str, .int .i64 v.ref] 26] ?_
         refine h_l 0 rfl [0] (fun _ => (t_loadA 0 #[.int .i64 v.kind, .int .i64 v.p, .int .i64 v.q, .string v.str, .int .i64 v.ref])) ?_
         refine hp_ 3 [0] (pB g1 4) ?_
         refine h_l 4 rfl [0] (fun _ => (t_load 0 (.int .i64 v.ref))) ?_
         refine h_stepS 1 ?_
         refine s_vcall (fun _ h => rtype_s v) ?_
         rintro _ rfl
         refine s_nil (xs_held [0] ?_)
         refine h_l 2 rfl [0] (fun _ => (t_cat (typeB v.kind) ⟨#[58, 32]⟩ (by simp only [ByteArray.size_append, sz_mk, List.length_cons, List.length_nil]; omega))) ?_
         refine h_stepS 5 ?_
         have z31 := itoaB_size (n := v.ref) (by omega) (by omega)
         refine s_vcall (fun _ h => decimal_s v.ref (by omega) (by omega)) ?_
         rintro _ rfl
         refine s_nil (xs_held [0] ?_)
         refine h_l 6 rfl [0] (fun _ => (t_cat ((typeB v.kind) ++ ⟨#[58, 32]⟩) (itoaB v.ref) (by simp only [ByteArray.size_append, sz_mk, List.length_cons, List.length_nil]; omega))) ?_
         refine hp_ 7 [0] (.string (((typeB v.kind) ++ ⟨#[58, 32]⟩) ++ (itoaB v.ref))) ?_
         refine h_doneS ?_
         refine xs_then ?_
         refine k_ret ?_
         refine xs_retBlock ?_
         refine xs_ret ?_
         refine xs_fin [.string (((typeB v.kind) ++ ⟨#[58, 32]⟩) ++ (itoaB v.ref))] [] (SI.tmp 2 SI.nil) (fun _ h => h.re [] [0]) ⟨congrArg Value.string ?_, rfl⟩
         first | (simp [textT, c2, c8, c11, c14, c17, c21, c25, c29, p7, p10, p13, p16, p20, p24, p28, p30]; done) | (by_cases e0 : v.kind = 0 <;> simp_all [textT, typeB]; done)
        ·
         have p32 := of_decide_eq_false c29
         refine k_skip ?_
         refine xs_block ?_
         refine xs_then ?_
         refine k_sr ?_
         refine s_lt (t_loadA 0 #[.int .i64 v.kind, .int .i64 v.p, .int .i64 v.q, .string v.str, .int .i64 v.ref]) ?_
         refine s_vcall (fun _ h => rtype_s v) ?_
         rintro _ rfl
         refine sp (.string (typeB v.kind)) ?_
         refine s_nt ?_
         refine k_ret ?_
         refine xs_fin [.string (typeB v.kind)] [] (SI.tmp 2 SI.nil) (fun _ h => h.re [] [0]) ⟨congrArg Value.string ?_, rfl⟩
         first | (simp [textT, c2, c8, c11, c14, c17, c21, c25, c29, p7, p10, p13, p16, p20, p24, p28, p32]; done) | (by_cases e0 : v.kind = 0 <;> simp_all [textT, typeB]; done)
end Go.Proofs.YtplkkhpokodbmaaGreatDoor
end
section
set_option linter.unusedSimpArgs false
set_option linter.unusedVariables false
namespace Go.Proofs.YtplkkhpokodbmaaGreatDoor
section
variable {S : List Slt} {k v : Vl}
theorem live_mem {s : Slt} : s ∈ live S ↔ s ∈ S ∧ s.gone = false := by unfold live; rw [List.mem_filter]; simp
/-- What lives after a key was set. -/
theorem live_oset (h : OInv S) (hk : okKey k = true) (hv : validB v = true) (s : Slt) : s ∈ live (osetL S k v) ↔ (s.key ≠ k ∧ s ∈ live S) ∨ (v.kind ≠ 0 ∧ s = ⟨k, v, false⟩) := by
  have hset : ∀ {i : Nat} {t u : Slt}, S[i]? = some t → t.gone = false → t.key = k → ∀ s, s ∈ S.set i u ∧ s.gone = false ↔ (s.key ≠ k ∧ s ∈ live S) ∨ (s = u ∧ u.gone = false) := by
    intro i t u hi hg htk s
    constructor
    · rintro ⟨h1, h2⟩
      obtain ⟨j, hj⟩ := List.mem_iff_getElem?.1 h1
      by_cases e : i = j
      · subst e
        rw [List.getElem?_set_self (List.getElem?_eq_some_iff.1 hi).1] at hj
        injection hj with e; subst e
        exact .inr ⟨rfl, h2⟩
      · rw [List.getElem?_set_ne e] at hj
        refine .inl ⟨fun hk' => ?_, live_mem.2 ⟨List.mem_of_getElem? hj, h2⟩⟩
        have a := h.last hj h2
        have b := h.last hi hg
        rw [hk'] at a; rw [htk] at b; rw [a] at b; injection b with b; exact e b.symm
    · rintro (⟨h1, h2⟩ | ⟨rfl, h2⟩)
      · obtain ⟨h3, h4⟩ := live_mem.1 h2
        obtain ⟨j, hj⟩ := List.mem_iff_getElem?.1 h3
        refine ⟨?_, h4⟩
        have e : i ≠ j := fun e => by subst e; rw [hi] at hj; injection hj with e; subst e; exact h1 htk
        exact List.mem_of_getElem? (i := j) (by rw [List.getElem?_set_ne e]; exact hj)
      · exact ⟨List.mem_of_getElem? (i := i) (by rw [List.getElem?_set_self (List.getElem?_eq_some_iff.1 hi).1]), h2⟩
  have hno : thereAt S k = none → ∀ s ∈ live S, s.key ≠ k := fun ht s hs e => by
    obtain ⟨h1, h2⟩ := live_mem.1 hs
    rw [there_none h ht s h1 e] at h2; cases h2
  rw [live_mem]
  unfold osetL
  rw [if_neg (by rw [hk]; decide), if_neg (by rw [hv]; decide)]
  split
  · rename_i h0
    cases ht : thereAt S k with
    | none =>
      simp only
      rw [← live_mem]
      exact ⟨fun hs => .inl ⟨hno ht s hs, hs⟩, fun hs => by rcases hs with hs | hs; exact hs.2; exact absurd h0 hs.1⟩
    | some i =>
      obtain ⟨_, t, h1, h2, h3⟩ := thereAt_some ht
      simp only
      rw [hset h1 h3 h2]
      constructor
      · rintro (hs | ⟨rfl, hs⟩)
        · exact .inl hs
        · cases hs
      · rintro (hs | hs)
        · exact .inl hs
        · exact absurd h0 hs.1
  · rename_i h0
    cases ht : thereAt S k with
    | some i =>
      obtain ⟨_, t, h1, h2, h3⟩ := thereAt_some ht
      simp only
      rw [hset h1 h3 h2]
      constructor
      · rintro (hs | ⟨rfl, hs⟩)
        · exact .inl hs
        · exact .inr ⟨h0, rfl⟩
      · rintro (hs | hs)
        · exact .inl hs
        · exact .inr ⟨hs.2, rfl⟩
    | none =>
      simp only
      rw [List.mem_append, List.mem_singleton]
      have hlv : ∀ s, s.gone = false → (s ∈ (if cnt S + 8 < S.length - cnt S then live S else S) ↔ s ∈ live S) := fun s hg => by
        split
        · exact Iff.rfl
        · rw [live_mem]; simp [hg]
      constructor
      · rintro ⟨h1 | h1, h2⟩
        · have := (hlv s h2).1 h1
          exact .inl ⟨hno ht s this, this⟩
        · exact .inr ⟨h0, h1⟩
      · rintro (⟨h1, h2⟩ | ⟨h1, rfl⟩)
        · exact ⟨.inl ((hlv s (live_mem.1 h2).2).2 h2), (live_mem.1 h2).2⟩
        · exact ⟨.inr rfl, rfl⟩
end
/-- No key that lives in the map part is of the list. -/
def TW (T : Tb) : Prop := ∀ s ∈ live T.rest, inB (whole s.key) T.list.length = false
theorem TW.nil : TW ⟨[], []⟩ := fun _ h => by cases h
theorem stale_no {S : List Slt} {n m : Nat} (h : staleB S n m = false) {s : Slt} (hs : s ∈ S) (h1 : n < whole s.key) : ¬ whole s.key ≤ m := fun h2 => by
  unfold staleB at h
  rw [List.any_eq_false] at h
  obtain ⟨e, h3⟩ := whole_key (k := s.key) (n := whole s.key) rfl (by omega)
  refine h (whole s.key).toNat (List.mem_range'_1.2 ⟨by omega, by omega⟩) ?_
  unfold hasK
  rw [show (((whole s.key).toNat : Nat) : Int) = whole s.key by omega, ← e]
  cases hl : lastAt S s.key with
  | some j => simp
  | none => exact absurd rfl (lastAt_none hl s hs)
section
variable {T : Tb} {k v : Vl}
theorem tadd_tw (h : TInv T) (hw : TW T) (v : Vl) : TW (tadd T v) := by
  intro s hs
  have hle := grow_le T.rest (T.rest.length + 2) T.list v
  show inB _ (grow T.rest (T.rest.length + 2) T.list v).length = false
  have hs' : s ∈ live (if staleB T.rest T.list.length (grow T.rest (T.rest.length + 2) T.list v).length = true then purge T.rest (grow T.rest (T.rest.length + 2) T.list v).length else T.rest) := hs
  split at hs'
  · have h1 := (live_mem.1 hs').1
    unfold purge at h1
    have := (List.mem_filter.1 h1).2
    simpa using this
  · rename_i hst
    have h1 := hw s hs'
    refine inB_false fun hb => ?_
    have h2 : ¬ (1 ≤ whole s.key ∧ whole s.key ≤ (T.list.length : Int)) := fun hc => by rw [inB_iff.2 hc] at h1; cases h1
    exact stale_no (by simpa using hst) (live_mem.1 hs').1 (by omega) hb.2
theorem tset_tw (h : TInv T) (hw : TW T) (k v : Vl) : TW (tset T k v) := by
  unfold tset
  split
  · exact hw
  rename_i hk
  split
  · exact hw
  rename_i hv
  split
  · intro s hs
    have h1 := hw s hs
    have h2 := shr_len (T.list.set (whole k - 1).toNat v)
    rw [List.length_set] at h2
    refine inB_false fun hb => ?_
    have hb2 : whole s.key ≤ ((shr (T.list.set (whole k - 1).toNat v)).length : Int) := hb.2
    rw [inB_iff.2 ⟨hb.1, by omega⟩] at h1; cases h1
  rename_i hb
  split
  · exact tadd_tw h hw v
  · intro s hs
    rcases (live_oset h.rest (by simpa using hk) (by simpa using hv) s).1 hs with h1 | h1
    · exact hw s h1.2
    · rw [h1.2]; simpa using hb
end
end Go.Proofs.YtplkkhpokodbmaaGreatDoor
end
section
set_option linter.unusedSimpArgs false
set_option linter.unusedVariables false
namespace Go.Proofs.YtplkkhpokodbmaaGreatDoor
/-! ### What follows a key -/
section
variable {T : Tb} {k : Vl} {n i : Nat} {y : Vl}
end
/-! ### Insertion and removal -/
section
variable {T : Tb} {p : Int} {v : Vl}
end
end Go.Proofs.YtplkkhpokodbmaaGreatDoor
end
section
set_option linter.unusedSimpArgs false
set_option linter.unusedVariables false
namespace Go.Proofs.YtplkkhpokodbmaaGreatDoor
section
variable {st st' : Hst} {v k t m : Vl} {o : Hob}
end
end Go.Proofs.YtplkkhpokodbmaaGreatDoor
end
section
set_option linter.unusedSimpArgs false
set_option linter.unusedVariables false
namespace Go.Proofs.YtplkkhpokodbmaaGreatDoor
/-- An object is changed. -/
def Hst.upd (st : Hst) (id : Int) (f : Hob → Hob) : Hst := match st.get id with
  | some o => st.put id (f o)
  | none => st
def hlenV (st : Hst) (t : Vl) : Int := match htab st t with
  | some T => (T.list.length : Int)
  | none => 0
def hnameV (st : Hst) (v : Vl) : ByteArray × Bool := match hfind st v with
  | some o => if o.kind = 8 then (o.name, true) else (ByteArray.empty, false)
  | none => (ByteArray.empty, false)
/-! ### What an object is, further -/
structure ObW (o : Hob) : Prop where
  tw : TW o.tab
  vals : ∀ v ∈ o.vals, validB v = true
  mt : isRef o.mt.kind = true → 1 ≤ o.mt.ref
  data : o.kind = 8 → o.vals.length = 16
def HW (st : Hst) : Prop := ∀ o, some o ∈ st.objs → ObW o
theorem HW.nil : HW hp0 := fun _ h => by cases h
section
variable {st : Hst} {v t k x : Vl} {id p i : Int} {o o' : Hob} {n : Nat} {l : List Vl}
theorem HW.put (h : HW st) (ho : ObW o') : HW (st.put id o') := fun x hx => by
  rcases mem_put hx with hx | rfl
  · exact h x hx
  · exact ho
theorem HW.touch (h : HW st) (id : Int) : HW (st.touch id) := h
theorem HW.of (h : HW st) (hg : st.get id = some o) : ObW o := h o (get_mem hg).1
theorem HW.make (h : HW st) (ho : ObW o) : HW (hmake st o) := by
  unfold hmake
  split
  · exact h
  · intro x hx
    rcases List.mem_append.1 hx with hx | hx
    · exact h x hx
    · rw [List.mem_singleton] at hx; injection hx with hx; rw [hx]; exact ho
theorem HW.set (hi : HInv st) (h : HW st) (t k v : Vl) : HW (hset st t k v) := by
  rcases hset_cases st t k v with ⟨_, e, _⟩ | ⟨_, _, _, e, _⟩ | ⟨_, _, _, _, e, _⟩ | ⟨T, o, h1, h2, h3, hv, h4, h5, h6, h7, e, _⟩
  · rw [e]; exact h
  · rw [e]; exact h
  · rw [e]; exact h
  · rw [e]
    have ho := h.of h4
    have hob := hi.obs o (get_mem h4).1
    refine HW.touch (HW.put h (o' := { o with tab := tset T k v }) ⟨?_, ho.vals, ho.mt, ho.data⟩) _
    rw [← h7]; exact tset_tw hob.tab ho.tw k v
/-! ### Inserting and removing -/
/-! ### Values of objects -/
/-! ### Dropping -/
end
/-! ### Answers, by cases -/
section
variable {st : Hst} {v x : Vl} {i : Int} {o : Hob} {l : List Vl}
end
end Go.Proofs.YtplkkhpokodbmaaGreatDoor
end
section
set_option linter.unusedSimpArgs false
set_option linter.unusedVariables false
set_option maxRecDepth 100000
set_option maxHeartbeats 2000000
namespace Go.Proofs.YtplkkhpokodbmaaGreatDoor
open Go.Hp Go.J Go.S
open Go.Mem (Ty KTy blk elemAt pre suf blk_pre blk_suf aget aset strK aggDesc)
open Go.Mem (adel apos aget_aset aget_adel)
theorem hlenV_none {st : Hst} {t : Vl} (h : htab st t = none) : hlenV st t = 0 := by unfold hlenV; rw [h]
theorem hlenV_some {st : Hst} {t : Vl} {T : Tb} (h : htab st t = some T) : hlenV st t = (T.list.length : Int) := by unfold hlenV; rw [h]
theorem hlen_s {Z : Zone} {F : List Asr} {b : Nat} {st : Hst} {n : Nat} (hsm : HSm n st) (hn : n ≤ 300) (t : Vl) : SF Tryz.prog 47 #[.pointer (some ⟨b, 0, none⟩), t.v] Z (hpA b st :: F) fun r Bs => r = .tuple #[.int .i64 (hlenV st t), .int .i64 (hgetE st t)] ∧ Bs = hpA b st :: F := by
 refine sf_enter Tryz.func47 16 [(0, pB b 0), (1, .agg #[.int .i64 t.kind, .int .i64 t.p, .int .i64 t.q, .string t.str, .int .i64 t.ref])] (fun w0 => ?_)
 refine k_sr ?_
 refine s_box #[.int .i64 t.kind, .int .i64 t.p, .int .i64 t.q, .string t.str, .int .i64 t.ref] (fun g1 => ?_)
 refine sp (.int .i64 0) ?_
 refine sp (.int .i64 0) ?_
 refine s_nr ?_
 refine sp (pB b 0) ?_
 refine s_lt (t_loadA 0 #[.int .i64 t.kind, .int .i64 t.p, .int .i64 t.q, .string t.str, .int .i64 t.ref]) ?_
 refine s_memX (fun H h => hpA_open (h.re [1] [])) (fun ps2 _ => ?_)
 refine s_fact (fun H h => hp_facts (h.re [0] [])) (fun hf3 => ?_)
 obtain ⟨hi4, ha5⟩ := hf3
 refine s_call [0] (htab_s (st := st) (ps := ps2) t) ?_
 rintro u6 _ ⟨e7, rfl⟩
 rcases tb_cases ha5 t with ⟨ht8, hv9⟩ | ⟨o10, q11, ht12, ho13, hk14, hk15, hq16, hv17⟩
 ·
  rw [hv9] at e7; subst e7
  refine sp (.pointer none) ?_
  refine s_nt ?_
  refine k_seq ?_
  refine k_sr ?_
  refine sp (.pointer none) ?_
  refine sp (.bool true) ?_
  refine s_nt ?_
  refine k_true ?_
  refine k_sr ?_
  refine sp (pB b 0) ?_
  refine s_vcall (fun _ h => hmiss_s (F := [])) ?_
  rintro _ rfl
  refine sp (.int .i64 0) ?_
  refine sp (.int .i64 8) ?_
  refine s_nt ?_
  refine k_ret ?_
  refine xs_ret ?_
  refine xs_mem (fun _ h => hpA_shut (h.re [0] [])) ?_
  refine xs_fin [.int .i64 0, .int .i64 8] (hpA b st :: F) (SI.tmp 4 (SI.tmp 5 SI.nil)) (fun _ h => h.re [0] [1]) ⟨?_, ?_⟩
  · rw [hlenV_none ht8, hgetE_none ht8]; try rfl
  · rfl
 ·
  rw [hv17] at e7; subst e7
  refine sp (pB q11.2 0) ?_
  refine s_nt ?_
  refine k_seq ?_
  refine k_sr ?_
  refine sp (pB q11.2 0) ?_
  refine sp (.bool false) ?_
  refine s_nt ?_
  refine k_false ?_
  refine k_st ?_
  refine k_sr ?_
  refine sp (pB q11.2 0) ?_
  refine s_mem (fun _ h => tab_out hq16 ho13 hk14 (h.re [0] [])) ?_
  obtain ⟨hl18, hl182, _⟩ := hsm.obs o10 (get_mem ho13).1
  have hl183 : n * (n + 1) ≤ 300 * 301 := Nat.mul_le_mul (by omega) (by omega)
  refine s_call [0] (tblen_s (L := o10.tab.list) (S := o10.tab.rest)) ?_
  rintro _ _ ⟨rfl, rfl⟩
  refine sp (.int .i64 (o10.tab.list.length : Int)) ?_
  refine sp (.int .i64 0) ?_
  refine s_nt ?_
  refine k_ret ?_
  refine xs_mem (fun _ h => tab_back hq16 ho13 hk14 (h.re [0, 0] [])) ?_
  refine xs_mem (fun _ h => hpA_shut (h.re [0] [])) ?_
  refine xs_fin [.int .i64 (o10.tab.list.length : Int), .int .i64 0] (hpA b st :: F) (SI.tmp 4 (SI.tmp 5 SI.nil)) (fun _ h => h.re [0] [1]) ⟨?_, ?_⟩
  · rw [hlenV_some ht12, hgetE_some ht12]; try rfl
  · rfl
theorem hname_s {Z : Zone} {F : List Asr} {b : Nat} {st : Hst}  (v : Vl) : SF Tryz.prog 36 #[.pointer (some ⟨b, 0, none⟩), v.v] Z (hpA b st :: F) fun r Bs => r = .tuple #[.string (hnameV st v).1, .bool (hnameV st v).2] ∧ Bs = hpA b st :: F := by
 refine sf_enter Tryz.func36 23 [(0, pB b 0), (1, .agg #[.int .i64 v.kind, .int .i64 v.p, .int .i64 v.q, .string v.str, .int .i64 v.ref])] (fun w0 => ?_)
 refine k_sr ?_
 refine s_box #[.int .i64 v.kind, .int .i64 v.p, .int .i64 v.q, .string v.str, .int .i64 v.ref] (fun g1 => ?_)
 refine sp (.string ByteArray.empty) ?_
 refine sp (.bool false) ?_
 refine s_nr ?_
 refine sp (pB b 0) ?_
 refine s_lt (t_loadA 0 #[.int .i64 v.kind, .int .i64 v.p, .int .i64 v.q, .string v.str, .int .i64 v.ref]) ?_
 refine s_memX (fun H h => hpA_open (h.re [1] [])) (fun ps2 _ => ?_)
 refine s_fact (fun H h => hp_facts (h.re [0] [])) (fun hf3 => ?_)
 obtain ⟨hi4, ha5⟩ := hf3
 refine s_call [0] (hfind_s (st := st) (ps := ps2) v) ?_
 rintro u6 _ ⟨e7, rfl⟩
 rcases fnd_cases ha5 v with ⟨hf8, ht9, hv10, hv11⟩ | ⟨o12, q13, hf14, ho15, hk16, hq17, hv18, hv19⟩
 ·
  rw [hv10] at e7; subst e7
  refine sp (.pointer none) ?_
  refine s_nt ?_
  refine k_seq ?_
  refine k_sr ?_
  refine sp (.pointer none) ?_
  refine sp (.bool true) ?_
  refine sp (.bool true) ?_
  refine s_skip ?_
  refine s_skip ?_
  refine s_skip ?_
  refine s_skip ?_
  refine s_skip ?_
  refine sp (.bool true) ?_
  refine s_nt ?_
  refine k_true ?_
  refine k_sr ?_
  refine sp (.string ByteArray.empty) ?_
  refine sp (.bool false) ?_
  refine s_nt ?_
  refine k_ret ?_
  refine xs_ret ?_
  have hp : hnameV st v = (ByteArray.empty, false) := by unfold hnameV; rw [hf8]
  refine xs_mem (fun _ h => hpA_shut (h.re [0] [])) ?_
  refine xs_fin [.string ByteArray.empty, .bool false] (hpA b st :: F) (SI.tmp 4 (SI.tmp 5 SI.nil)) (fun _ h => h.re [0] [1]) ⟨?_, ?_⟩
  · rw [hp]; rfl
  · rfl
 ·
  rw [hv18] at e7; subst e7
  refine sp (pB q13.1 0) ?_
  refine s_nt ?_
  refine k_seq ?_
  refine k_sr ?_
  refine sp (pB q13.1 0) ?_
  refine sp (.bool false) ?_
  refine sp (.bool false) ?_
  refine sp (pB q13.1 0) ?_
  refine sp (pB q13.1 0) ?_
  refine sp (pB q13.1 0) ?_
  refine s_mem3 (fun H h => hp_open (h.re [0] [])) (fun mb20 tb21 tm22 hw => ?_)
  obtain ⟨hi23, ha24, ht25⟩ := hw
  refine s_memX (fun H h => all_focus hq17 ho15 (h.re [3] [])) (fun v26 _ => ?_)
  refine s_lt (t_load 0 (.int .i64 o12.kind)) ?_
  refine s_lt t_cmp ?_
  refine sp (.bool (decide (o12.kind ≠ 8))) ?_
  refine s_nt ?_
  refine k_cond (decide (o12.kind ≠ 8)) (fun c27 => ?_) (fun c27 => ?_)
  ·
   have p28 := of_decide_eq_true c27
   refine k_sr ?_
   refine sp (.string ByteArray.empty) ?_
   refine sp (.bool false) ?_
   refine s_nt ?_
   refine k_ret ?_
   refine xs_ret ?_
   refine xs_fact (fun H h => (h.mp (i := 5) rfl).nodup) (fun hnd29 => ?_)
   refine xs_mem (fun _ h => (put_same ho15) ▸ all_unfocus (o' := o12) hnd29 hq17 ho15 (ob_shut (o := o12) (h.re [0, 0, 0, 0] []))) ?_
   refine xs_mem (Bs := allP ps2 st :: blkA b #[.map (some mb20), .int .i64 (st.objs.length : Int), .map (some tb21)] 90 :: mpA iK oV mb20 ps2 :: mpA iK bV tb21 tm22 :: blkA g1 #[.int .i64 v.kind, .int .i64 v.p, .int .i64 v.q, .string v.str, .int .i64 v.ref] 26 :: F) (fun _ h => h) ?_
   refine xs_mem (fun _ h => hp_shut (st := st) (n := (st.objs.length : Int)) ⟨⟨hi23, ha24, ht25⟩, rfl⟩ (h.re [1, 1, 1, 0] [])) ?_
   have hp : hnameV st v = (ByteArray.empty, false) := by unfold hnameV; rw [hf14]; show (if o12.kind = 8 then _ else _) = _; rw [if_neg (by omega)]
   refine xs_mem (fun _ h => hpA_shut (h.re [0] [])) ?_
   refine xs_fin [.string ByteArray.empty, .bool false] (hpA b st :: F) (SI.tmp 4 (SI.tmp 5 SI.nil)) (fun _ h => h.re [0] [1]) ⟨?_, ?_⟩
   · rw [hp]; rfl
   · rfl
  ·
   have p30 := Decidable.not_not.1 (of_decide_eq_false c27)
   refine k_st ?_
   refine k_sr ?_
   refine sp (pB q13.1 0) ?_
   refine sp (pB q13.1 0) ?_
   refine sp (pB q13.1 2) ?_
   refine s_lt (t_load 0 (.string o12.name)) ?_
   refine sp (.string o12.name) ?_
   refine sp (.bool true) ?_
   refine s_nt ?_
   refine k_ret ?_
   refine xs_fact (fun H h => (h.mp (i := 5) rfl).nodup) (fun hnd31 => ?_)
   refine xs_mem (fun _ h => (put_same ho15) ▸ all_unfocus (o' := o12) hnd31 hq17 ho15 (ob_shut (o := o12) (h.re [0, 0, 0, 0] []))) ?_
   refine xs_mem (Bs := allP ps2 st :: blkA b #[.map (some mb20), .int .i64 (st.objs.length : Int), .map (some tb21)] 90 :: mpA iK oV mb20 ps2 :: mpA iK bV tb21 tm22 :: blkA g1 #[.int .i64 v.kind, .int .i64 v.p, .int .i64 v.q, .string v.str, .int .i64 v.ref] 26 :: F) (fun _ h => h) ?_
   refine xs_mem (fun _ h => hp_shut (st := st) (n := (st.objs.length : Int)) ⟨⟨hi23, ha24, ht25⟩, rfl⟩ (h.re [1, 1, 1, 0] [])) ?_
   have hp : hnameV st v = (o12.name, true) := by unfold hnameV; rw [hf14]; show (if o12.kind = 8 then _ else _) = _; rw [if_pos (by omega)]
   refine xs_mem (fun _ h => hpA_shut (h.re [0] [])) ?_
   refine xs_fin [.string o12.name, .bool true] (hpA b st :: F) (SI.tmp 4 (SI.tmp 5 SI.nil)) (fun _ h => h.re [0] [1]) ⟨?_, ?_⟩
   · rw [hp]; rfl
   · rfl
theorem rhlen_s {Z : Zone} {F : List Asr} {b : Nat} {st : Hst} {n : Nat} (hsm : HSm n st) (hn : n ≤ 300) (t : Vl) : SF Tryz.prog 52 #[.pointer (some ⟨b, 0, none⟩), t.v] Z (rhA b st :: F) fun r Bs => r = .tuple #[.int .i64 (hlenV st t), .int .i64 (hgetE st t)] ∧ Bs = rhA b st :: F := by
 refine sf_enter Tryz.func52 24 [(0, pB b 0), (1, .agg #[.int .i64 t.kind, .int .i64 t.p, .int .i64 t.q, .string t.str, .int .i64 t.ref])] (fun w0 => ?_)
 have hlen0 := hsm.len
 refine k_fact (fun H h => rh_inv (h.re [0] [])) (fun hi0 => ?_)
 refine k_sr ?_
 refine s_box #[.int .i64 t.kind, .int .i64 t.p, .int .i64 t.q, .string t.str, .int .i64 t.ref] (fun g1 => ?_)
 refine sp (.int .i64 0) ?_
 refine sp (.int .i64 0) ?_
 refine s_nr ?_
 refine sp (pB b 0) ?_
 refine s_lt (t_loadA 0 #[.int .i64 t.kind, .int .i64 t.p, .int .i64 t.q, .string t.str, .int .i64 t.ref]) ?_
 refine s_call [1] (rtab_s (st := st) (by omega) t) ?_
 rintro u2 _ ⟨e3, rfl⟩
 rcases tabE_cases st t with ⟨ht4, he5⟩ | ⟨o6, ht7, ho8, hk9, hv10, he11⟩
 ·
  rw [he5] at e3; subst e3
  refine sp (.int .i64 8) ?_
  refine s_nt ?_
  refine k_seq ?_
  refine k_sr ?_
  refine sp (.int .i64 8) ?_
  refine s_lt (t_cmp (c := true)) ?_
  refine s_nt ?_
  refine k_true ?_
  refine k_sr ?_
  refine sp (.int .i64 8) ?_
  refine sp (.int .i64 0) ?_
  refine sp (.int .i64 8) ?_
  refine s_nt ?_
  refine k_ret ?_
  refine xs_ret ?_
  refine xs_fin [.int .i64 0, .int .i64 8] (rhA b st :: F) (SI.tmp 4 (SI.tmp 5 SI.nil)) (fun _ h => h.re [0] [1]) ⟨?_, rfl⟩
  rw [hlenV_none ht4, hgetE_none ht4]; rfl
 ·
  rw [he11] at e3; subst e3
  have hgm12 := get_mem ho8
  refine sp (.int .i64 0) ?_
  refine s_nt ?_
  refine k_seq ?_
  refine k_sr ?_
  refine sp (.int .i64 0) ?_
  refine s_lt (t_cmp (c := false)) ?_
  refine s_nt ?_
  refine k_false ?_
  refine k_st ?_
  refine k_seq ?_
  refine k_draw ?_
  refine sp (pB b 0) ?_
  refine sp (pB b 0) ?_
  refine sp (pB b 0) ?_
  refine s_mem3 (fun H h => rh_open (h.re [0] [])) (fun v13 tv14 L15 hw => ?_)
  obtain ⟨hi16, hL17⟩ := hw
  have hln18 := rx_len hL17
  have htl19 := hi16.tch
  refine s_lt (t_load 0 v13) ?_
  refine sp (pB g1 4) ?_
  refine s_lt (t_load 4 (.int .i64 t.ref)) ?_
  refine s_lt (t_sub t.ref 1 (by (try simp only [lnm]); omega)) ?_
  refine s_lt (t_index RxT_ok Tryz.underlying102 (.own 1) (t.ref - 1) (((t.ref - 1)).toNat) (by omega) (by (try simp only [lnm]); omega) (by omega)) ?_
  refine sp (.pointer (some ((elemAt RxT.size v13 (((t.ref - 1)).toNat)).add 3))) ?_
  obtain ⟨tp20, uv21, rv22, hy23⟩ := rx_get hL17 ho8
  refine s_lt (Lt.to (v' := ptrV tp20) (t_loadF 3 RxT_ok (.own 1) hy23) (tabV_tab hk9)) ?_
  refine s_mem (fun _ h => rall_out hy23 (h.re [3] [])) ?_
  refine s_mem (fun _ h => rtO_open hk9 (h.re [2] [])) ?_
  obtain ⟨hl24, hl242, _⟩ := hsm.obs o6 (get_mem ho8).1
  have hl243 : n * (n + 1) ≤ 300 * 301 := Nat.mul_le_mul (by omega) (by omega)
  refine s_call [0] (rtlen_s (L := o6.tab.list) (S := o6.tab.rest)) ?_
  rintro _ _ ⟨rfl, rfl⟩
  refine sp (.int .i64 (o6.tab.list.length : Int)) ?_
  refine sp (.int .i64 0) ?_
  refine s_nil ?_
  refine x_dynS (fun _ h => by kernel_rfl) ?_
  refine xs_then ?_
  refine k_ret ?_
  refine xs_mem (fun _ h => rtO_shut (o := o6) (T := o6.tab) hk9 (h.re [0] [])) ?_
  refine xs_mem (fun _ h => rall_in (o' := { o6 with tab := o6.tab }) (uv' := uv21) (rv' := rv22) hy23 (h.re [1, 1, 0, 0] [])) ?_
  refine xs_mem (fun _ h => rall_same hy23 h) ?_
  refine xs_mem (fun _ h => rh_shut (st := st) (n := (st.count : Int)) (T := st.tch) ⟨⟨⟨hi16, hL17⟩, rfl⟩, rfl⟩ (h.re [1, 1, 1, 0] [])) ?_
  refine xs_fin [.int .i64 (o6.tab.list.length : Int), .int .i64 0] (rhA b st :: F) (SI.tmp 4 (SI.tmp 5 SI.nil)) (fun _ h => h.re [0] [1]) ⟨?_, rfl⟩
  rw [hlenV_some ht7, hgetE_some ht7]; rfl
theorem name_none {st : Hst} {v : Vl} (h : hfind st v = none ∨ v.kind ≠ 8) : hnameV st v = (ByteArray.empty, false) := by
  unfold hnameV
  cases hf : hfind st v with
  | none => rfl
  | some o =>
    have hk := (hfind_some hf).2
    rcases h with h | h
    · rw [hf] at h; cases h
    · exact if_neg (fun h8 => h (hk.symm.trans h8))
theorem name_some {st : Hst} {v : Vl} {o : Hob} (h : hfind st v = some o) (hk : o.kind = v.kind) (h8 : v.kind = 8) : hnameV st v = (o.name, true) := by
  unfold hnameV; rw [h]; exact if_pos (hk.trans h8)
theorem rhname_s {Z : Zone} {F : List Asr} {b : Nat} {st : Hst} {n : Nat} (hsm : HSm n st) (hn : n ≤ 300) (v : Vl) : SF Tryz.prog 44 #[.pointer (some ⟨b, 0, none⟩), v.v] Z (rhA b st :: F) fun r Bs => r = .tuple #[.string (hnameV st v).1, .bool (hnameV st v).2] ∧ Bs = rhA b st :: F := by
 refine sf_enter Tryz.func44 19 [(0, pB b 0), (1, .agg #[.int .i64 v.kind, .int .i64 v.p, .int .i64 v.q, .string v.str, .int .i64 v.ref])] (fun w0 => ?_)
 have hlen0 := hsm.len
 refine k_fact (fun H h => rh_inv (h.re [0] [])) (fun hi0 => ?_)
 refine k_sr ?_
 refine s_box #[.int .i64 v.kind, .int .i64 v.p, .int .i64 v.q, .string v.str, .int .i64 v.ref] (fun g1 => ?_)
 refine sp (.string ByteArray.empty) ?_
 refine sp (.bool false) ?_
 refine s_nt ?_
 refine k_seq ?_
 refine k_sr ?_
 refine sp (pB b 0) ?_
 refine s_lt (t_loadA 0 #[.int .i64 v.kind, .int .i64 v.p, .int .i64 v.q, .string v.str, .int .i64 v.ref]) ?_
 refine s_call [1] (ris_s (st := st) (by omega) v 8) ?_
 rintro u2 _ ⟨e3, rfl⟩
 rcases is_cases st v 8 with ⟨hb4, hn5⟩ | ⟨o6, hb7, hf8, ho9, hk10, hv11⟩
 ·
  rw [hb4] at e3; subst e3
  refine s_nt ?_
  refine k_false ?_
  refine k_st ?_
  refine k_sr ?_
  refine sp (.string ByteArray.empty) ?_
  refine sp (.bool false) ?_
  refine s_nt ?_
  refine k_ret ?_
  refine xs_fin [.string ByteArray.empty, .bool false] (rhA b st :: F) (SI.tmp 4 (SI.tmp 5 SI.nil)) (fun _ h => h.re [0] [1]) ⟨?_, rfl⟩
  rw [name_none hn5]; rfl
 ·
  rw [hb7] at e3; subst e3
  have hgm12 := get_mem ho9
  refine s_nt ?_
  refine k_true ?_
  refine k_seq ?_
  refine k_draw ?_
  refine sp (pB b 0) ?_
  refine sp (pB b 0) ?_
  refine sp (pB b 0) ?_
  refine s_mem3 (fun H h => rh_open (h.re [0] [])) (fun v13 tv14 L15 hw => ?_)
  obtain ⟨hi16, hL17⟩ := hw
  have hln18 := rx_len hL17
  have htl19 := hi16.tch
  refine s_lt (t_load 0 v13) ?_
  refine sp (pB g1 4) ?_
  refine s_lt (t_load 4 (.int .i64 v.ref)) ?_
  refine s_lt (t_sub v.ref 1 (by (try simp only [lnm]); omega)) ?_
  refine s_lt (t_index RxT_ok Tryz.underlying102 (.own 1) (v.ref - 1) (((v.ref - 1)).toNat) (by omega) (by (try simp only [lnm]); omega) (by omega)) ?_
  refine sp (.pointer (some ((elemAt RxT.size v13 (((v.ref - 1)).toNat)).add 2))) ?_
  obtain ⟨tp20, uv21, rv22, hy23⟩ := rx_get hL17 ho9
  refine s_lt (t_loadF 2 RxT_ok (.own 1) hy23) ?_
  refine sp (.string o6.name) ?_
  refine sp (.bool true) ?_
  refine s_nil ?_
  refine x_dynS (fun _ h => by kernel_rfl) ?_
  refine xs_then ?_
  refine k_ret ?_
  refine xs_ret ?_
  refine xs_mem (fun _ h => rh_shut (st := st) (n := (st.count : Int)) (T := st.tch) ⟨⟨⟨hi16, hL17⟩, rfl⟩, rfl⟩ (h.re [0, 0, 0, 0] [])) ?_
  refine xs_fin [.string o6.name, .bool true] (rhA b st :: F) (SI.tmp 4 (SI.tmp 5 SI.nil)) (fun _ h => h.re [0] [1]) ⟨?_, rfl⟩
  rw [name_some hf8 hk10 hv11]; rfl
/-- The names of the objects are short. -/
def NmS (st : Hst) : Prop := ∀ o, some o ∈ st.objs → o.name.size ≤ 5000
theorem NmS.put {st : Hst} {id : Int} {o' : Hob} (h : NmS st) (ho : o'.name.size ≤ 5000) : NmS (st.put id o') := fun x hx => by
  rcases mem_put hx with hx | rfl
  · exact h x hx
  · exact ho
theorem NmS.make {st : Hst} {o : Hob} (h : NmS st) (ho : o.name.size ≤ 5000) : NmS (hmake st o) := by
  unfold hmake
  split
  · exact h
  · intro x hx
    rcases List.mem_append.1 hx with hx | hx
    · exact h x hx
    · rw [List.mem_singleton] at hx; injection hx with hx; rw [hx]; exact ho
theorem NmS.set {st : Hst} (h : NmS st) (t k v : Vl) : NmS (hset st t k v) := by
  rcases hset_cases st t k v with ⟨_, e, _⟩ | ⟨_, _, _, e, _⟩ | ⟨_, _, _, _, e, _⟩ | ⟨T, o, h1, h2, h3, hv, h4, h5, h6, h7, e, _⟩
  · rw [e]; exact h
  · rw [e]; exact h
  · rw [e]; exact h
  · rw [e]; exact NmS.put h (o' := { o with tab := tset T k v }) (h o (get_mem h4).1)
theorem NmS.meta' {st : Hst} (h : NmS st) (v m : Vl) : NmS (hsetMeta st v m) := by
  unfold hsetMeta
  split
  · unfold Hst.setMt
    split
    · rename_i o ho; exact NmS.put h (o' := { o with mt := m }) (h o (get_mem ho).1)
    · exact h
  · exact h
theorem mst_nm (l : List Opc) : ∀ i, NmS (mst l i).1
  | 0 => fun _ h => by cases h
  | i + 1 => by
    have h := mst_nm l i
    rw [mst]
    split
    · unfold mstep
      split
      · exact h.make (by decide)
      split
      · unfold hdata
        split
        · exact h
        · exact h.make (by decide)
      split
      · exact h.make (by show ByteArray.empty.size ≤ 5000; decide)
      split
      · exact h.set _ _ _
      · exact h.meta' _ _
    · exact h
theorem made_nm (l : List Opc) : NmS (made l).1 := mst_nm l _
theorem name_size {st : Hst} (h : NmS st) (v : Vl) : (hnameV st v).1.size ≤ 5000 := by
  unfold hnameV
  cases hf : hfind st v with
  | none => exact Nat.zero_le _
  | some o =>
    show (if o.kind = 8 then (o.name, true) else (ByteArray.empty, false)).1.size ≤ 5000
    split
    · exact h o (get_mem (hfind_some hf).1).1
    · exact Nat.zero_le _
theorem find_ref {st : Hst} {v : Vl} {o : Hob} (h : hfind st v = some o) : 1 ≤ v.ref ∧ v.ref ≤ (st.objs.length : Int) := by
  obtain ⟨_, h1, h2, _⟩ := get_mem (hfind_some h).1; exact ⟨h1, h2⟩
theorem hdl_ref {st : Hst} {v : Vl} {ev : ByteArray} (h : (hdl st v ev).kind ≠ 0) : 1 ≤ v.ref ∧ v.ref ≤ (st.objs.length : Int) := by
  cases hf : hfind st v with
  | none =>
    have hm : hmeta st v = zVl := by unfold hmeta; rw [hf]
    exact absurd (by unfold hdl; rw [hm]; rfl) h
  | some o => exact find_ref hf
theorem name_ref {st : Hst} {v : Vl} (h : (hnameV st v).2 = true) : 1 ≤ v.ref ∧ v.ref ≤ (st.objs.length : Int) := by
  cases hf : hfind st v with
  | none => unfold hnameV at h; rw [hf] at h; cases h
  | some o => exact find_ref hf
theorem name_data {st : Hst} {v : Vl} (h : (hnameV st v).2 = true) : v.kind = 8 := by
  cases hf : hfind st v with
  | none => unfold hnameV at h; rw [hf] at h; cases h
  | some o =>
    have hk := (hfind_some hf).2
    unfold hnameV at h; rw [hf] at h
    change (if o.kind = 8 then (o.name, true) else (ByteArray.empty, false)).2 = true at h
    split at h
    · rename_i h8; exact hk.symm.trans h8
    · cases h
theorem ytget_valid {T : Tb} (h : TInv T) (k : Vl) : validB (tget T k) = true := by
  unfold tget
  split
  · rfl
  split
  · cases hx : T.list[(whole k - 1).toNat]? with
    | none => rfl
    | some y => exact h.list y (List.mem_of_getElem? hx)
  · unfold oget
    split
    · rename_i s hs
      obtain ⟨i, _, hi⟩ := Option.bind_eq_some_iff.1 hs
      have hm := List.mem_of_getElem? hi
      by_cases hg : s.gone = true
      · rw [h.rest.zero s hm hg]; rfl
      · exact (h.rest.vals s hm (by simpa using hg)).1
    · rfl
theorem yhdl_size {st : Hst} (h : HInv st) (v : Vl) (ev : ByteArray) (h3 : (hdl st v ev).kind = 3) : (hdl st v ev).str.size ≤ 4096 := by
  have hv : validB (hdl st v ev) = true := by
    unfold hdl
    split
    · rfl
    · unfold hgetV
      split
      · rename_i T hT
        obtain ⟨o, _, hg, _, _, rfl⟩ := htab_some hT
        exact ytget_valid (h.obs o (get_mem hg).1).tab _
      · rfl
  simp [validB, h3] at hv
  omega
def cutT (s : ByteArray) : ByteArray := s.extract 0 (min s.size 4096)
theorem cut_a (s : ByteArray) : s.extract 0 (if (4096 : Int) < (s.size : Int) then (4096 : Int) else (s.size : Int)).toNat = cutT s := by
  unfold cutT; congr 1; split <;> omega
theorem cut_b {s : ByteArray} (h : (4096 : Int) < (s.size : Int)) : s.extract 0 (4096 : Int).toNat = cutT s := by
  unfold cutT; congr 1; omega
theorem cut_c {s : ByteArray} (h : ¬ (4096 : Int) < (s.size : Int)) : s = cutT s := by
  unfold cutT; rw [Nat.min_eq_left (by omega)]; exact ByteArray.extract_zero_size.symm
def hasN (st : Hst) (v : Vl) : Prop := (hdl st v ⟨#[95, 95, 110, 97, 109, 101]⟩).kind = 3 ∨ (hnameV st v).2 = true
def namN (st : Hst) (v : Vl) : ByteArray := if (hdl st v ⟨#[95, 95, 110, 97, 109, 101]⟩).kind = 3 then (hdl st v ⟨#[95, 95, 110, 97, 109, 101]⟩).str else (hnameV st v).1
instance (st : Hst) (v : Vl) : Decidable (hasN st v) := by unfold hasN; exact inferInstance
def txtS (st : Hst) (v : Vl) : ByteArray := if hasN st v then (namN st v ++ ⟨#[58, 32]⟩) ++ itoaB v.ref else textT v
/-- What the text of a value needs. -/
def txtN (st : Hst) (v : Vl) : Nd := if (hdl st v ⟨#[95, 95, 116, 111, 115, 116, 114, 105, 110, 103]⟩).kind ≠ 0 then callN (hdl st v ⟨#[95, 95, 116, 111, 115, 116, 114, 105, 110, 103]⟩) 1 [v] else giveN (strV (cutT (txtS st v)))
theorem txt_call {st : Hst} {v : Vl} (h : (hdl st v ⟨#[95, 95, 116, 111, 115, 116, 114, 105, 110, 103]⟩).kind ≠ 0) : txtN st v = callN (hdl st v ⟨#[95, 95, 116, 111, 115, 116, 114, 105, 110, 103]⟩) 1 [v] := if_pos h
theorem txt_a {st : Hst} {v : Vl} (h : ¬ (hdl st v ⟨#[95, 95, 116, 111, 115, 116, 114, 105, 110, 103]⟩).kind ≠ 0) (h1 : (hdl st v ⟨#[95, 95, 110, 97, 109, 101]⟩).kind = 3) : txtN st v = giveN (strV (cutT (((hdl st v ⟨#[95, 95, 110, 97, 109, 101]⟩).str ++ ⟨#[58, 32]⟩) ++ itoaB v.ref))) := by
  unfold txtN txtS namN; rw [if_neg h, if_pos (.inl h1), if_pos h1]
theorem txt_b {st : Hst} {v : Vl} (h : ¬ (hdl st v ⟨#[95, 95, 116, 111, 115, 116, 114, 105, 110, 103]⟩).kind ≠ 0) (h1 : ¬ (hdl st v ⟨#[95, 95, 110, 97, 109, 101]⟩).kind = 3) (h2 : (hnameV st v).2 = true) : txtN st v = giveN (strV (cutT (((hnameV st v).1 ++ ⟨#[58, 32]⟩) ++ itoaB v.ref))) := by
  unfold txtN txtS namN; rw [if_neg h, if_pos (.inr h2), if_neg h1]
theorem txt_c {st : Hst} {v : Vl} (h : ¬ (hdl st v ⟨#[95, 95, 116, 111, 115, 116, 114, 105, 110, 103]⟩).kind ≠ 0) (h1 : ¬ (hdl st v ⟨#[95, 95, 110, 97, 109, 101]⟩).kind = 3) (h2 : ¬ (hnameV st v).2 = true) : txtN st v = giveN (strV (cutT (textT v))) := by
  unfold txtN txtS; rw [if_neg h, if_neg (fun hq => hq.elim h1 h2)]
theorem txt_d {st : Hst} {v : Vl} (h : ¬ (hdl st v ⟨#[95, 95, 116, 111, 115, 116, 114, 105, 110, 103]⟩).kind ≠ 0) (h1 : ¬ (hdl st v ⟨#[95, 95, 110, 97, 109, 101]⟩).kind = 3) (h2 : ¬ v.kind = 8) : txtN st v = giveN (strV (cutT (textT v))) := txt_c h h1 fun hq => h2 (name_data hq)
theorem id_text {r : Int} (h1 : 1 ≤ r) (h2 : r ≤ 2147483647) : textT ⟨2, r, 1, ByteArray.empty, 0⟩ = itoaB r := by
  have hv : validN r 1 = true := by unfold validN; simp; omega
  show numT r 1 = _
  unfold numT; rw [if_pos hv, if_pos rfl]
/-- What #v needs. -/
def lenN (st : Hst) (v : Vl) : Nd := if v.kind = 3 then giveN (ofI (v.str.size : Int)) else if (hdl st v ⟨#[95, 95, 108, 101, 110]⟩).kind ≠ 0 then callN (hdl st v ⟨#[95, 95, 108, 101, 110]⟩) 1 [v, v] else if v.kind = 4 then giveN (ofI (hlenV st v)) else failN (lenB v.kind)
theorem mtext_s {Z : Zone} {F : List Asr} {b : Nat} {st : Hst} {n : Nat} (hsm : HSm n st) (hn : n ≤ 300) (ht : KnTab Z) (hnm : NmS st) (v : Vl) (h0 : -9223372036854775808 ≤ v.ref) (h1 : v.ref ≤ 9223372036854775807) (hs : (v.str.size : Int) ≤ 4611686018427387904) : SF Tryz.prog 10 #[.pointer (some ⟨b, 0, none⟩), v.v] Z (hpA b st :: F) fun r Bs => ∃ av, r = (txtN st v).w av ∧ Bs = own VlT av (txtN st v).args :: hpA b st :: F := by
 refine sf_enter Tryz.func10 50 [(0, pB b 0), (1, .agg #[.int .i64 v.kind, .int .i64 v.p, .int .i64 v.q, .string v.str, .int .i64 v.ref])] (fun w0 => ?_)
 have hlen0 := hsm.len
 have hz1 := name_size hnm v
 refine k_fact (fun H h => hpA_inv h) (fun hi0 => ?_)
 refine k_sr ?_
 refine s_box #[.int .i64 v.kind, .int .i64 v.p, .int .i64 v.q, .string v.str, .int .i64 v.ref] (fun g1 => ?_)
 refine s_alloc (.agg #[.int .i64 0, .int .i64 0, .int .i64 0, .int .i64 0, .string ByteArray.empty, .int .i64 0, .int .i64 0, .int .i64 0, .int .i64 0, .string ByteArray.empty, .int .i64 0, (.slice none 0 0), .int .i64 0, .string ByteArray.empty]) #[.int .i64 0, .int .i64 0, .int .i64 0, .int .i64 0, .string ByteArray.empty, .int .i64 0, .int .i64 0, .int .i64 0, .int .i64 0, .string ByteArray.empty, .int .i64 0, (.slice none 0 0), .int .i64 0, .string ByteArray.empty] (fun g2 => ?_)
 refine s_nt ?_
 refine k_seq ?_
 refine k_sr ?_
 refine sp (pB b 0) ?_
 refine s_lt (t_loadA 1 #[.int .i64 v.kind, .int .i64 v.p, .int .i64 v.q, .string v.str, .int .i64 v.ref]) ?_
 refine s_call [2] (hdl_s (st := st) hsm (by omega) v ⟨#[95, 95, 116, 111, 115, 116, 114, 105, 110, 103]⟩) ?_
 rintro _ _ ⟨rfl, rfl⟩
 refine s_alloc (.agg #[.int .i64 0, .int .i64 0, .int .i64 0, .string ByteArray.empty, .int .i64 0]) #[.int .i64 0, .int .i64 0, .int .i64 0, .string ByteArray.empty, .int .i64 0] (fun g3 => ?_)
 refine s_store 0 #[.int .i64 ((hdl st v ⟨#[95, 95, 116, 111, 115, 116, 114, 105, 110, 103]⟩).kind), .int .i64 ((hdl st v ⟨#[95, 95, 116, 111, 115, 116, 114, 105, 110, 103]⟩).p), .int .i64 ((hdl st v ⟨#[95, 95, 116, 111, 115, 116, 114, 105, 110, 103]⟩).q), .string ((hdl st v ⟨#[95, 95, 116, 111, 115, 116, 114, 105, 110, 103]⟩).str), .int .i64 ((hdl st v ⟨#[95, 95, 116, 111, 115, 116, 114, 105, 110, 103]⟩).ref)] ?_
 refine s_nr ?_
 refine sp (pB g3 0) ?_
 refine s_lt (t_load 0 (.int .i64 ((hdl st v ⟨#[95, 95, 116, 111, 115, 116, 114, 105, 110, 103]⟩).kind))) ?_
 refine s_lt t_cmp ?_
 refine s_nt ?_
 refine k_cond (decide ((hdl st v ⟨#[95, 95, 116, 111, 115, 116, 114, 105, 110, 103]⟩).kind ≠ 0)) (fun c4 => ?_) (fun c4 => ?_)
 ·
  have p5 := of_decide_eq_true c4
  refine k_sr ?_
  refine s_lt (t_loadA 0 #[.int .i64 ((hdl st v ⟨#[95, 95, 116, 111, 115, 116, 114, 105, 110, 103]⟩).kind), .int .i64 ((hdl st v ⟨#[95, 95, 116, 111, 115, 116, 114, 105, 110, 103]⟩).p), .int .i64 ((hdl st v ⟨#[95, 95, 116, 111, 115, 116, 114, 105, 110, 103]⟩).q), .string ((hdl st v ⟨#[95, 95, 116, 111, 115, 116, 114, 105, 110, 103]⟩).str), .int .i64 ((hdl st v ⟨#[95, 95, 116, 111, 115, 116, 114, 105, 110, 103]⟩).ref)]) ?_
  refine s_lt (t_loadA 3 #[.int .i64 v.kind, .int .i64 v.p, .int .i64 v.q, .string v.str, .int .i64 v.ref]) ?_
  refine s_buildSlice (e := 26) [(0, .agg #[.int .i64 v.kind, .int .i64 v.p, .int .i64 v.q, .string v.str, .int .i64 v.ref])] #[.int .i64 v.kind, .int .i64 v.p, .int .i64 v.q, .string v.str, .int .i64 v.ref] (fun g6 => ?_) (hb := by kernel_rfl)
  refine s_vcall (fun _ h => called_s (hdl st v ⟨#[95, 95, 116, 111, 115, 116, 114, 105, 110, 103]⟩) 1 (some ⟨g6, 0, none⟩) 1 1 []) ?_
  rintro _ rfl
  refine s_store 3 #[.int .i64 2, .int .i64 0, .int .i64 0, .int .i64 0, .string ByteArray.empty, .int .i64 0, .int .i64 ((hdl st v ⟨#[95, 95, 116, 111, 115, 116, 114, 105, 110, 103]⟩).kind), .int .i64 ((hdl st v ⟨#[95, 95, 116, 111, 115, 116, 114, 105, 110, 103]⟩).p), .int .i64 ((hdl st v ⟨#[95, 95, 116, 111, 115, 116, 114, 105, 110, 103]⟩).q), .string ((hdl st v ⟨#[95, 95, 116, 111, 115, 116, 114, 105, 110, 103]⟩).str), .int .i64 ((hdl st v ⟨#[95, 95, 116, 111, 115, 116, 114, 105, 110, 103]⟩).ref), (.slice (some ⟨g6, 0, none⟩) 1 1), .int .i64 1, .string ByteArray.empty] ?_
  refine s_nt ?_
  refine k_ret ?_
  refine xs_ret ?_
  refine xs_mem (fun _ h => Holds.slice 0 h VlT_ok [v]) ?_
  have hp := txt_call (of_decide_eq_true c4)
  exact xs_fin [.agg #[.int .i64 2, .int .i64 0, .int .i64 0, .int .i64 0, .string ByteArray.empty, .int .i64 0, .int .i64 ((hdl st v ⟨#[95, 95, 116, 111, 115, 116, 114, 105, 110, 103]⟩).kind), .int .i64 ((hdl st v ⟨#[95, 95, 116, 111, 115, 116, 114, 105, 110, 103]⟩).p), .int .i64 ((hdl st v ⟨#[95, 95, 116, 111, 115, 116, 114, 105, 110, 103]⟩).q), .string ((hdl st v ⟨#[95, 95, 116, 111, 115, 116, 114, 105, 110, 103]⟩).str), .int .i64 ((hdl st v ⟨#[95, 95, 116, 111, 115, 116, 114, 105, 110, 103]⟩).ref), (.slice (some ⟨g6, 0, none⟩) 1 1), .int .i64 1, .string ByteArray.empty]] (own VlT (.slice (some ⟨g6, 0, none⟩) 1 1) [v] :: hpA b st :: F) (SI.agg 4 41 3 SI.nil) (fun _ h => h.re [0, 1] [2, 2, 2]) ⟨(.slice (some ⟨g6, 0, none⟩) 1 1), by rw [hp]; rfl, by rw [hp]; rfl⟩
 ·
  have p7 := Decidable.not_not.1 (of_decide_eq_false c4)
  refine k_st ?_
  refine k_sr ?_
  refine s_lt (t_loadA 3 #[.int .i64 v.kind, .int .i64 v.p, .int .i64 v.q, .string v.str, .int .i64 v.ref]) ?_
  refine s_vcall (fun _ h => text_s (ht.at h) v (by omega) (by omega) (by omega)) ?_
  rintro _ rfl
  refine sp (.string (textT v)) ?_
  refine s_nr ?_
  refine sp (pB b 0) ?_
  refine s_lt (t_loadA 3 #[.int .i64 v.kind, .int .i64 v.p, .int .i64 v.q, .string v.str, .int .i64 v.ref]) ?_
  refine s_call [1] (hname_s (st := st) v) ?_
  rintro _ _ ⟨rfl, rfl⟩
  refine sp (.tuple #[.string ((hnameV st v).1), .bool ((hnameV st v).2)]) ?_
  refine sp (.string ((hnameV st v).1)) ?_
  refine sp (.bool ((hnameV st v).2)) ?_
  refine sp (.string ((hnameV st v).1)) ?_
  refine sp (.bool ((hnameV st v).2)) ?_
  refine s_nt ?_
  refine k_seq ?_
  refine k_sr ?_
  refine sp (pB b 0) ?_
  refine s_lt (t_loadA 3 #[.int .i64 v.kind, .int .i64 v.p, .int .i64 v.q, .string v.str, .int .i64 v.ref]) ?_
  refine s_call [0] (hdl_s (st := st) hsm (by omega) v ⟨#[95, 95, 110, 97, 109, 101]⟩) ?_
  rintro _ _ ⟨rfl, rfl⟩
  refine s_alloc (.agg #[.int .i64 0, .int .i64 0, .int .i64 0, .string ByteArray.empty, .int .i64 0]) #[.int .i64 0, .int .i64 0, .int .i64 0, .string ByteArray.empty, .int .i64 0] (fun g8 => ?_)
  refine s_store 0 #[.int .i64 ((hdl st v ⟨#[95, 95, 110, 97, 109, 101]⟩).kind), .int .i64 ((hdl st v ⟨#[95, 95, 110, 97, 109, 101]⟩).p), .int .i64 ((hdl st v ⟨#[95, 95, 110, 97, 109, 101]⟩).q), .string ((hdl st v ⟨#[95, 95, 110, 97, 109, 101]⟩).str), .int .i64 ((hdl st v ⟨#[95, 95, 110, 97, 109, 101]⟩).ref)] ?_
  refine s_nr ?_
  refine sp (pB g8 0) ?_
  refine s_lt (t_load 0 (.int .i64 ((hdl st v ⟨#[95, 95, 110, 97, 109, 101]⟩).kind))) ?_
  refine s_lt t_cmp ?_
  refine s_nt ?_
  refine k_cond (decide ((hdl st v ⟨#[95, 95, 110, 97, 109, 101]⟩).kind = 3)) (fun c9 => ?_) (fun c9 => ?_)
  ·
   have p10 := of_decide_eq_true c9
   have hz2 := yhdl_size hi0 v ⟨#[95, 95, 110, 97, 109, 101]⟩ (by omega)
   refine k_reg ?_
   refine sp (pB g8 3) ?_
   refine s_lt (t_load 0 (.string ((hdl st v ⟨#[95, 95, 110, 97, 109, 101]⟩).str))) ?_
   refine sp (.string ((hdl st v ⟨#[95, 95, 110, 97, 109, 101]⟩).str)) ?_
   refine sp (.bool true) ?_
   refine s_nt ?_
   refine k_seq ?_
   refine k_sr ?_
   refine sp (.bool true) ?_
   refine s_nt ?_
   refine k_true ?_
   refine k_reg ?_
   refine sp (.string ((hdl st v ⟨#[95, 95, 110, 97, 109, 101]⟩).str)) ?_
   refine s_lt (t_cat ((hdl st v ⟨#[95, 95, 110, 97, 109, 101]⟩).str) ⟨#[58, 32]⟩ (by simp only [ByteArray.size_append, sz_mk, List.length_cons, List.length_nil]; omega)) ?_
   refine sp (pB g1 4) ?_
   refine s_lt (t_load 4 (.int .i64 v.ref)) ?_
   have z11 := itoaB_size (n := v.ref) (by omega) (by omega)
   refine s_vcall (fun _ h => itoa_s (ht.at h) v.ref (by omega) (by omega)) ?_
   rintro _ rfl
   refine s_lt (t_cat (((hdl st v ⟨#[95, 95, 110, 97, 109, 101]⟩).str) ++ ⟨#[58, 32]⟩) (itoaB v.ref) (by simp only [ByteArray.size_append, sz_mk, List.length_cons, List.length_nil]; omega)) ?_
   refine sp (.string ((((hdl st v ⟨#[95, 95, 110, 97, 109, 101]⟩).str) ++ ⟨#[58, 32]⟩) ++ (itoaB v.ref))) ?_
   refine s_nr ?_
   refine sp (.string ((((hdl st v ⟨#[95, 95, 110, 97, 109, 101]⟩).str) ++ ⟨#[58, 32]⟩) ++ (itoaB v.ref))) ?_
   refine sp (.string ((((hdl st v ⟨#[95, 95, 110, 97, 109, 101]⟩).str) ++ ⟨#[58, 32]⟩) ++ (itoaB v.ref))) ?_
   refine s_lt (t_kern (.int .i64 (((((hdl st v ⟨#[95, 95, 110, 97, 109, 101]⟩).str) ++ ⟨#[58, 32]⟩) ++ (itoaB v.ref)).size : Int))) ?_
   refine s_lt t_min ?_
   refine s_lt (t_subH Tryz.underlying9 ((((hdl st v ⟨#[95, 95, 110, 97, 109, 101]⟩).str) ++ ⟨#[58, 32]⟩) ++ (itoaB v.ref)) (if 4096 < (((((hdl st v ⟨#[95, 95, 110, 97, 109, 101]⟩).str) ++ ⟨#[58, 32]⟩) ++ (itoaB v.ref)).size : Int) then 4096 else (((((hdl st v ⟨#[95, 95, 110, 97, 109, 101]⟩).str) ++ ⟨#[58, 32]⟩) ++ (itoaB v.ref)).size : Int)) (by omega) (by omega)) ?_
   refine s_vcall (fun _ h => ofstr_s (((((hdl st v ⟨#[95, 95, 110, 97, 109, 101]⟩).str) ++ ⟨#[58, 32]⟩) ++ (itoaB v.ref)).extract 0 ((if 4096 < (((((hdl st v ⟨#[95, 95, 110, 97, 109, 101]⟩).str) ++ ⟨#[58, 32]⟩) ++ (itoaB v.ref)).size : Int) then 4096 else (((((hdl st v ⟨#[95, 95, 110, 97, 109, 101]⟩).str) ++ ⟨#[58, 32]⟩) ++ (itoaB v.ref)).size : Int))).toNat)) ?_
   rintro _ rfl
   refine s_vcall (fun _ h => given_s (strV (((((hdl st v ⟨#[95, 95, 110, 97, 109, 101]⟩).str) ++ ⟨#[58, 32]⟩) ++ (itoaB v.ref)).extract 0 ((if 4096 < (((((hdl st v ⟨#[95, 95, 110, 97, 109, 101]⟩).str) ++ ⟨#[58, 32]⟩) ++ (itoaB v.ref)).size : Int) then 4096 else (((((hdl st v ⟨#[95, 95, 110, 97, 109, 101]⟩).str) ++ ⟨#[58, 32]⟩) ++ (itoaB v.ref)).size : Int))).toNat))) ?_
   rintro _ rfl
   refine s_store 3 #[.int .i64 1, .int .i64 ((strV (((((hdl st v ⟨#[95, 95, 110, 97, 109, 101]⟩).str) ++ ⟨#[58, 32]⟩) ++ (itoaB v.ref)).extract 0 ((if 4096 < (((((hdl st v ⟨#[95, 95, 110, 97, 109, 101]⟩).str) ++ ⟨#[58, 32]⟩) ++ (itoaB v.ref)).size : Int) then 4096 else (((((hdl st v ⟨#[95, 95, 110, 97, 109, 101]⟩).str) ++ ⟨#[58, 32]⟩) ++ (itoaB v.ref)).size : Int))).toNat)).kind), .int .i64 ((strV (((((hdl st v ⟨#[95, 95, 110, 97, 109, 101]⟩).str) ++ ⟨#[58, 32]⟩) ++ (itoaB v.ref)).extract 0 ((if 4096 < (((((hdl st v ⟨#[95, 95, 110, 97, 109, 101]⟩).str) ++ ⟨#[58, 32]⟩) ++ (itoaB v.ref)).size : Int) then 4096 else (((((hdl st v ⟨#[95, 95, 110, 97, 109, 101]⟩).str) ++ ⟨#[58, 32]⟩) ++ (itoaB v.ref)).size : Int))).toNat)).p), .int .i64 ((strV (((((hdl st v ⟨#[95, 95, 110, 97, 109, 101]⟩).str) ++ ⟨#[58, 32]⟩) ++ (itoaB v.ref)).extract 0 ((if 4096 < (((((hdl st v ⟨#[95, 95, 110, 97, 109, 101]⟩).str) ++ ⟨#[58, 32]⟩) ++ (itoaB v.ref)).size : Int) then 4096 else (((((hdl st v ⟨#[95, 95, 110, 97, 109, 101]⟩).str) ++ ⟨#[58, 32]⟩) ++ (itoaB v.ref)).size : Int))).toNat)).q), .string ((strV (((((hdl st v ⟨#[95, 95, 110, 97, 109, 101]⟩).str) ++ ⟨#[58, 32]⟩) ++ (itoaB v.ref)).extract 0 ((if 4096 < (((((hdl st v ⟨#[95, 95, 110, 97, 109, 101]⟩).str) ++ ⟨#[58, 32]⟩) ++ (itoaB v.ref)).size : Int) then 4096 else (((((hdl st v ⟨#[95, 95, 110, 97, 109, 101]⟩).str) ++ ⟨#[58, 32]⟩) ++ (itoaB v.ref)).size : Int))).toNat)).str), .int .i64 ((strV (((((hdl st v ⟨#[95, 95, 110, 97, 109, 101]⟩).str) ++ ⟨#[58, 32]⟩) ++ (itoaB v.ref)).extract 0 ((if 4096 < (((((hdl st v ⟨#[95, 95, 110, 97, 109, 101]⟩).str) ++ ⟨#[58, 32]⟩) ++ (itoaB v.ref)).size : Int) then 4096 else (((((hdl st v ⟨#[95, 95, 110, 97, 109, 101]⟩).str) ++ ⟨#[58, 32]⟩) ++ (itoaB v.ref)).size : Int))).toNat)).ref), .int .i64 0, .int .i64 0, .int .i64 0, .string ByteArray.empty, .int .i64 0, (.slice none 0 0), .int .i64 0, .string ByteArray.empty] ?_
   refine s_nt ?_
   refine k_ret ?_
   refine xs_mem (fun _ h => Holds.nilS (T := VlT) h) ?_
   have hp := txt_a (of_decide_eq_false c4) (of_decide_eq_true c9)
   exact xs_fin [.agg #[.int .i64 1, .int .i64 ((strV (((((hdl st v ⟨#[95, 95, 110, 97, 109, 101]⟩).str) ++ ⟨#[58, 32]⟩) ++ (itoaB v.ref)).extract 0 ((if 4096 < (((((hdl st v ⟨#[95, 95, 110, 97, 109, 101]⟩).str) ++ ⟨#[58, 32]⟩) ++ (itoaB v.ref)).size : Int) then 4096 else (((((hdl st v ⟨#[95, 95, 110, 97, 109, 101]⟩).str) ++ ⟨#[58, 32]⟩) ++ (itoaB v.ref)).size : Int))).toNat)).kind), .int .i64 ((strV (((((hdl st v ⟨#[95, 95, 110, 97, 109, 101]⟩).str) ++ ⟨#[58, 32]⟩) ++ (itoaB v.ref)).extract 0 ((if 4096 < (((((hdl st v ⟨#[95, 95, 110, 97, 109, 101]⟩).str) ++ ⟨#[58, 32]⟩) ++ (itoaB v.ref)).size : Int) then 4096 else (((((hdl st v ⟨#[95, 95, 110, 97, 109, 101]⟩).str) ++ ⟨#[58, 32]⟩) ++ (itoaB v.ref)).size : Int))).toNat)).p), .int .i64 ((strV (((((hdl st v ⟨#[95, 95, 110, 97, 109, 101]⟩).str) ++ ⟨#[58, 32]⟩) ++ (itoaB v.ref)).extract 0 ((if 4096 < (((((hdl st v ⟨#[95, 95, 110, 97, 109, 101]⟩).str) ++ ⟨#[58, 32]⟩) ++ (itoaB v.ref)).size : Int) then 4096 else (((((hdl st v ⟨#[95, 95, 110, 97, 109, 101]⟩).str) ++ ⟨#[58, 32]⟩) ++ (itoaB v.ref)).size : Int))).toNat)).q), .string ((strV (((((hdl st v ⟨#[95, 95, 110, 97, 109, 101]⟩).str) ++ ⟨#[58, 32]⟩) ++ (itoaB v.ref)).extract 0 ((if 4096 < (((((hdl st v ⟨#[95, 95, 110, 97, 109, 101]⟩).str) ++ ⟨#[58, 32]⟩) ++ (itoaB v.ref)).size : Int) then 4096 else (((((hdl st v ⟨#[95, 95, 110, 97, 109, 101]⟩).str) ++ ⟨#[58, 32]⟩) ++ (itoaB v.ref)).size : Int))).toNat)).str), .int .i64 ((strV (((((hdl st v ⟨#[95, 95, 110, 97, 109, 101]⟩).str) ++ ⟨#[58, 32]⟩) ++ (itoaB v.ref)).extract 0 ((if 4096 < (((((hdl st v ⟨#[95, 95, 110, 97, 109, 101]⟩).str) ++ ⟨#[58, 32]⟩) ++ (itoaB v.ref)).size : Int) then 4096 else (((((hdl st v ⟨#[95, 95, 110, 97, 109, 101]⟩).str) ++ ⟨#[58, 32]⟩) ++ (itoaB v.ref)).size : Int))).toNat)).ref), .int .i64 0, .int .i64 0, .int .i64 0, .string ByteArray.empty, .int .i64 0, (.slice none 0 0), .int .i64 0, .string ByteArray.empty]] (own VlT (.slice none 0 0) [] :: hpA b st :: F) (SI.agg 4 41 4 SI.nil) (fun _ h => h.re [0, 1] [2, 2, 2, 2]) ⟨(.slice none 0 0), by rw [hp, ← cut_a (((hdl st v ⟨#[95, 95, 110, 97, 109, 101]⟩).str ++ ⟨#[58, 32]⟩) ++ itoaB v.ref)]; rfl, by rw [hp]; rfl⟩
  ·
   have p12 := of_decide_eq_false c9
   refine k_st ?_
   refine k_seq ?_
   refine k_sr ?_
   refine sp (.bool ((hnameV st v).2)) ?_
   refine s_nt ?_
   refine k_cond ((hnameV st v).2) (fun c13 => ?_) (fun c13 => ?_)
   ·
    refine k_reg ?_
    refine sp (.string ((hnameV st v).1)) ?_
    refine s_lt (t_cat ((hnameV st v).1) ⟨#[58, 32]⟩ (by simp only [ByteArray.size_append, sz_mk, List.length_cons, List.length_nil]; omega)) ?_
    refine sp (pB g1 4) ?_
    refine s_lt (t_load 4 (.int .i64 v.ref)) ?_
    have z14 := itoaB_size (n := v.ref) (by omega) (by omega)
    refine s_vcall (fun _ h => itoa_s (ht.at h) v.ref (by omega) (by omega)) ?_
    rintro _ rfl
    refine s_lt (t_cat (((hnameV st v).1) ++ ⟨#[58, 32]⟩) (itoaB v.ref) (by simp only [ByteArray.size_append, sz_mk, List.length_cons, List.length_nil]; omega)) ?_
    refine sp (.string ((((hnameV st v).1) ++ ⟨#[58, 32]⟩) ++ (itoaB v.ref))) ?_
    refine s_nr ?_
    refine sp (.string ((((hnameV st v).1) ++ ⟨#[58, 32]⟩) ++ (itoaB v.ref))) ?_
    refine sp (.string ((((hnameV st v).1) ++ ⟨#[58, 32]⟩) ++ (itoaB v.ref))) ?_
    refine s_lt (t_kern (.int .i64 (((((hnameV st v).1) ++ ⟨#[58, 32]⟩) ++ (itoaB v.ref)).size : Int))) ?_
    refine s_lt t_min ?_
    refine s_lt (t_subH Tryz.underlying9 ((((hnameV st v).1) ++ ⟨#[58, 32]⟩) ++ (itoaB v.ref)) (if 4096 < (((((hnameV st v).1) ++ ⟨#[58, 32]⟩) ++ (itoaB v.ref)).size : Int) then 4096 else (((((hnameV st v).1) ++ ⟨#[58, 32]⟩) ++ (itoaB v.ref)).size : Int)) (by omega) (by omega)) ?_
    refine s_vcall (fun _ h => ofstr_s (((((hnameV st v).1) ++ ⟨#[58, 32]⟩) ++ (itoaB v.ref)).extract 0 ((if 4096 < (((((hnameV st v).1) ++ ⟨#[58, 32]⟩) ++ (itoaB v.ref)).size : Int) then 4096 else (((((hnameV st v).1) ++ ⟨#[58, 32]⟩) ++ (itoaB v.ref)).size : Int))).toNat)) ?_
    rintro _ rfl
    refine s_vcall (fun _ h => given_s (strV (((((hnameV st v).1) ++ ⟨#[58, 32]⟩) ++ (itoaB v.ref)).extract 0 ((if 4096 < (((((hnameV st v).1) ++ ⟨#[58, 32]⟩) ++ (itoaB v.ref)).size : Int) then 4096 else (((((hnameV st v).1) ++ ⟨#[58, 32]⟩) ++ (itoaB v.ref)).size : Int))).toNat))) ?_
    rintro _ rfl
    refine s_store 3 #[.int .i64 1, .int .i64 ((strV (((((hnameV st v).1) ++ ⟨#[58, 32]⟩) ++ (itoaB v.ref)).extract 0 ((if 4096 < (((((hnameV st v).1) ++ ⟨#[58, 32]⟩) ++ (itoaB v.ref)).size : Int) then 4096 else (((((hnameV st v).1) ++ ⟨#[58, 32]⟩) ++ (itoaB v.ref)).size : Int))).toNat)).kind), .int .i64 ((strV (((((hnameV st v).1) ++ ⟨#[58, 32]⟩) ++ (itoaB v.ref)).extract 0 ((if 4096 < (((((hnameV st v).1) ++ ⟨#[58, 32]⟩) ++ (itoaB v.ref)).size : Int) then 4096 else (((((hnameV st v).1) ++ ⟨#[58, 32]⟩) ++ (itoaB v.ref)).size : Int))).toNat)).p), .int .i64 ((strV (((((hnameV st v).1) ++ ⟨#[58, 32]⟩) ++ (itoaB v.ref)).extract 0 ((if 4096 < (((((hnameV st v).1) ++ ⟨#[58, 32]⟩) ++ (itoaB v.ref)).size : Int) then 4096 else (((((hnameV st v).1) ++ ⟨#[58, 32]⟩) ++ (itoaB v.ref)).size : Int))).toNat)).q), .string ((strV (((((hnameV st v).1) ++ ⟨#[58, 32]⟩) ++ (itoaB v.ref)).extract 0 ((if 4096 < (((((hnameV st v).1) ++ ⟨#[58, 32]⟩) ++ (itoaB v.ref)).size : Int) then 4096 else (((((hnameV st v).1) ++ ⟨#[58, 32]⟩) ++ (itoaB v.ref)).size : Int))).toNat)).str), .int .i64 ((strV (((((hnameV st v).1) ++ ⟨#[58, 32]⟩) ++ (itoaB v.ref)).extract 0 ((if 4096 < (((((hnameV st v).1) ++ ⟨#[58, 32]⟩) ++ (itoaB v.ref)).size : Int) then 4096 else (((((hnameV st v).1) ++ ⟨#[58, 32]⟩) ++ (itoaB v.ref)).size : Int))).toNat)).ref), .int .i64 0, .int .i64 0, .int .i64 0, .string ByteArray.empty, .int .i64 0, (.slice none 0 0), .int .i64 0, .string ByteArray.empty] ?_
    refine s_nt ?_
    refine k_ret ?_
    refine xs_mem (fun _ h => Holds.nilS (T := VlT) h) ?_
    have hp := txt_b (of_decide_eq_false c4) (of_decide_eq_false c9) c13
    exact xs_fin [.agg #[.int .i64 1, .int .i64 ((strV (((((hnameV st v).1) ++ ⟨#[58, 32]⟩) ++ (itoaB v.ref)).extract 0 ((if 4096 < (((((hnameV st v).1) ++ ⟨#[58, 32]⟩) ++ (itoaB v.ref)).size : Int) then 4096 else (((((hnameV st v).1) ++ ⟨#[58, 32]⟩) ++ (itoaB v.ref)).size : Int))).toNat)).kind), .int .i64 ((strV (((((hnameV st v).1) ++ ⟨#[58, 32]⟩) ++ (itoaB v.ref)).extract 0 ((if 4096 < (((((hnameV st v).1) ++ ⟨#[58, 32]⟩) ++ (itoaB v.ref)).size : Int) then 4096 else (((((hnameV st v).1) ++ ⟨#[58, 32]⟩) ++ (itoaB v.ref)).size : Int))).toNat)).p), .int .i64 ((strV (((((hnameV st v).1) ++ ⟨#[58, 32]⟩) ++ (itoaB v.ref)).extract 0 ((if 4096 < (((((hnameV st v).1) ++ ⟨#[58, 32]⟩) ++ (itoaB v.ref)).size : Int) then 4096 else (((((hnameV st v).1) ++ ⟨#[58, 32]⟩) ++ (itoaB v.ref)).size : Int))).toNat)).q), .string ((strV (((((hnameV st v).1) ++ ⟨#[58, 32]⟩) ++ (itoaB v.ref)).extract 0 ((if 4096 < (((((hnameV st v).1) ++ ⟨#[58, 32]⟩) ++ (itoaB v.ref)).size : Int) then 4096 else (((((hnameV st v).1) ++ ⟨#[58, 32]⟩) ++ (itoaB v.ref)).size : Int))).toNat)).str), .int .i64 ((strV (((((hnameV st v).1) ++ ⟨#[58, 32]⟩) ++ (itoaB v.ref)).extract 0 ((if 4096 < (((((hnameV st v).1) ++ ⟨#[58, 32]⟩) ++ (itoaB v.ref)).size : Int) then 4096 else (((((hnameV st v).1) ++ ⟨#[58, 32]⟩) ++ (itoaB v.ref)).size : Int))).toNat)).ref), .int .i64 0, .int .i64 0, .int .i64 0, .string ByteArray.empty, .int .i64 0, (.slice none 0 0), .int .i64 0, .string ByteArray.empty]] (own VlT (.slice none 0 0) [] :: hpA b st :: F) (SI.agg 4 41 4 SI.nil) (fun _ h => h.re [0, 1] [2, 2, 2, 2]) ⟨(.slice none 0 0), by rw [hp, ← cut_a (((hnameV st v).1 ++ ⟨#[58, 32]⟩) ++ itoaB v.ref)]; rfl, by rw [hp]; rfl⟩
   ·
    refine k_st ?_
    refine k_sr ?_
    refine sp (.string (textT v)) ?_
    refine sp (.string (textT v)) ?_
    refine s_lt (t_kern (.int .i64 ((textT v).size : Int))) ?_
    refine s_lt t_min ?_
    refine s_lt (t_subH Tryz.underlying9 (textT v) (if 4096 < ((textT v).size : Int) then 4096 else ((textT v).size : Int)) (by omega) (by omega)) ?_
    refine s_vcall (fun _ h => ofstr_s ((textT v).extract 0 ((if 4096 < ((textT v).size : Int) then 4096 else ((textT v).size : Int))).toNat)) ?_
    rintro _ rfl
    refine s_vcall (fun _ h => given_s (strV ((textT v).extract 0 ((if 4096 < ((textT v).size : Int) then 4096 else ((textT v).size : Int))).toNat))) ?_
    rintro _ rfl
    refine s_store 3 #[.int .i64 1, .int .i64 ((strV ((textT v).extract 0 ((if 4096 < ((textT v).size : Int) then 4096 else ((textT v).size : Int))).toNat)).kind), .int .i64 ((strV ((textT v).extract 0 ((if 4096 < ((textT v).size : Int) then 4096 else ((textT v).size : Int))).toNat)).p), .int .i64 ((strV ((textT v).extract 0 ((if 4096 < ((textT v).size : Int) then 4096 else ((textT v).size : Int))).toNat)).q), .string ((strV ((textT v).extract 0 ((if 4096 < ((textT v).size : Int) then 4096 else ((textT v).size : Int))).toNat)).str), .int .i64 ((strV ((textT v).extract 0 ((if 4096 < ((textT v).size : Int) then 4096 else ((textT v).size : Int))).toNat)).ref), .int .i64 0, .int .i64 0, .int .i64 0, .string ByteArray.empty, .int .i64 0, (.slice none 0 0), .int .i64 0, .string ByteArray.empty] ?_
    refine s_nt ?_
    refine k_ret ?_
    refine xs_mem (fun _ h => Holds.nilS (T := VlT) h) ?_
    have hp := txt_c (of_decide_eq_false c4) (of_decide_eq_false c9) (by rw [c13]; decide)
    exact xs_fin [.agg #[.int .i64 1, .int .i64 ((strV ((textT v).extract 0 ((if 4096 < ((textT v).size : Int) then 4096 else ((textT v).size : Int))).toNat)).kind), .int .i64 ((strV ((textT v).extract 0 ((if 4096 < ((textT v).size : Int) then 4096 else ((textT v).size : Int))).toNat)).p), .int .i64 ((strV ((textT v).extract 0 ((if 4096 < ((textT v).size : Int) then 4096 else ((textT v).size : Int))).toNat)).q), .string ((strV ((textT v).extract 0 ((if 4096 < ((textT v).size : Int) then 4096 else ((textT v).size : Int))).toNat)).str), .int .i64 ((strV ((textT v).extract 0 ((if 4096 < ((textT v).size : Int) then 4096 else ((textT v).size : Int))).toNat)).ref), .int .i64 0, .int .i64 0, .int .i64 0, .string ByteArray.empty, .int .i64 0, (.slice none 0 0), .int .i64 0, .string ByteArray.empty]] (own VlT (.slice none 0 0) [] :: hpA b st :: F) (SI.agg 4 41 4 SI.nil) (fun _ h => h.re [0, 1] [2, 2, 2, 2]) ⟨(.slice none 0 0), by rw [hp, ← cut_a (textT v)]; rfl, by rw [hp]; rfl⟩
theorem rid_s {Z : Zone} (v : Vl) (h1 : 1 ≤ v.ref) (h2 : v.ref ≤ 2147483647) : SF Tryz.prog 43 #[v.v] Z [] fun r Bs => r = .string (itoaB v.ref) ∧ Bs = [] := by
 refine sf_enter Tryz.func43 8 [(0, .agg #[.int .i64 v.kind, .int .i64 v.p, .int .i64 v.q, .string v.str, .int .i64 v.ref])] (fun w0 => ?_)
 refine k_sr ?_
 refine s_box #[.int .i64 v.kind, .int .i64 v.p, .int .i64 v.q, .string v.str, .int .i64 v.ref] (fun g1 => ?_)
 refine sp (.string ByteArray.empty) ?_
 refine s_nr ?_
 refine sp (pB g1 4) ?_
 refine s_lt (t_load 0 (.int .i64 v.ref)) ?_
 refine s_lt (t_kern (.agg #[.int .i64 v.ref, .int .i64 1])) ?_
 refine s_lt (t_kern (.agg #[.int .i64 2, .int .i64 v.ref, .int .i64 1, .string ByteArray.empty, .int .i64 0])) ?_
 refine s_vcall (fun _ h => rvtext_s (⟨2, v.ref, 1, ByteArray.empty, 0⟩ : Vl) (by first | omega | (dsimp only; omega) | (dsimp only; decide)) (by first | omega | (dsimp only; omega) | (dsimp only; decide)) (by first | omega | (dsimp only; omega) | (dsimp only; decide))) ?_
 rintro _ rfl
 refine sp (.string (textT (⟨2, v.ref, 1, ByteArray.empty, 0⟩ : Vl))) ?_
 refine s_nt ?_
 refine k_ret ?_
 refine xs_fin [.string (textT (⟨2, v.ref, 1, ByteArray.empty, 0⟩ : Vl))] [] (SI.tmp 2 SI.nil) (fun _ h => h.re [] [0]) ⟨congrArg Value.string ?_, rfl⟩
 exact id_text h1 h2
theorem rshort_s {Z : Zone} (s : ByteArray) : SF Tryz.prog 42 #[.string s] Z [] fun r Bs => r = (giveN (strV (cutT s))).w (.slice none 0 0) ∧ Bs = [] := by
 refine sf_enter Tryz.func42 11 [(0, .string s)] (fun w0 => ?_)
 refine k_sr ?_
 refine s_alloc (.agg #[.int .i64 0, .int .i64 0, .int .i64 0, .int .i64 0, .string ByteArray.empty, .int .i64 0, .int .i64 0, .int .i64 0, .int .i64 0, .string ByteArray.empty, .int .i64 0, (.slice none 0 0), .int .i64 0, .string ByteArray.empty]) #[.int .i64 0, .int .i64 0, .int .i64 0, .int .i64 0, .string ByteArray.empty, .int .i64 0, .int .i64 0, .int .i64 0, .int .i64 0, .string ByteArray.empty, .int .i64 0, (.slice none 0 0), .int .i64 0, .string ByteArray.empty] (fun g1 => ?_)
 refine s_nt ?_
 refine k_seq ?_
 refine k_sr ?_
 refine sp (.string s) ?_
 refine s_lt (t_kern (.int .i64 (s.size : Int))) ?_
 refine s_lt t_cmp ?_
 refine s_nt ?_
 refine k_cond (decide ((4096 : Int) < (s.size : Int))) (fun c2 => ?_) (fun c2 => ?_)
 ·
  have p3 := of_decide_eq_true c2
  refine k_reg ?_
  refine sp (.string s) ?_
  refine s_lt (t_subH Tryz.underlying9 s 4096 (by omega) (by omega)) ?_
  refine sp (.string (s.extract 0 (4096 : Int).toNat)) ?_
  refine s_nr ?_
  refine sp (.string (s.extract 0 (4096 : Int).toNat)) ?_
  refine s_vcall (fun _ h => rtext_s (s.extract 0 (4096 : Int).toNat)) ?_
  rintro _ rfl
  refine s_vcall (fun _ h => give_s (strV (s.extract 0 (4096 : Int).toNat))) ?_
  rintro _ rfl
  refine s_store 0 #[.int .i64 1, .int .i64 ((strV (s.extract 0 (4096 : Int).toNat)).kind), .int .i64 ((strV (s.extract 0 (4096 : Int).toNat)).p), .int .i64 ((strV (s.extract 0 (4096 : Int).toNat)).q), .string ((strV (s.extract 0 (4096 : Int).toNat)).str), .int .i64 ((strV (s.extract 0 (4096 : Int).toNat)).ref), .int .i64 0, .int .i64 0, .int .i64 0, .string ByteArray.empty, .int .i64 0, (.slice none 0 0), .int .i64 0, .string ByteArray.empty] ?_
  refine s_nt ?_
  refine k_ret ?_
  refine xs_fin [.agg #[.int .i64 1, .int .i64 ((strV (s.extract 0 (4096 : Int).toNat)).kind), .int .i64 ((strV (s.extract 0 (4096 : Int).toNat)).p), .int .i64 ((strV (s.extract 0 (4096 : Int).toNat)).q), .string ((strV (s.extract 0 (4096 : Int).toNat)).str), .int .i64 ((strV (s.extract 0 (4096 : Int).toNat)).ref), .int .i64 0, .int .i64 0, .int .i64 0, .string ByteArray.empty, .int .i64 0, (.slice none 0 0), .int .i64 0, .string ByteArray.empty]] [] (SI.agg 2 41 0 SI.nil) (fun _ h => h.re [] [0]) ⟨?_, rfl⟩
  rw [← cut_b (s := s) (by omega)]; rfl
 ·
  have p4 := of_decide_eq_false c2
  refine k_st ?_
  refine k_sr ?_
  refine sp (.string s) ?_
  refine s_vcall (fun _ h => rtext_s s) ?_
  rintro _ rfl
  refine s_vcall (fun _ h => give_s (strV s)) ?_
  rintro _ rfl
  refine s_store 0 #[.int .i64 1, .int .i64 ((strV s).kind), .int .i64 ((strV s).p), .int .i64 ((strV s).q), .string ((strV s).str), .int .i64 ((strV s).ref), .int .i64 0, .int .i64 0, .int .i64 0, .string ByteArray.empty, .int .i64 0, (.slice none 0 0), .int .i64 0, .string ByteArray.empty] ?_
  refine s_nt ?_
  refine k_ret ?_
  refine xs_fin [.agg #[.int .i64 1, .int .i64 ((strV s).kind), .int .i64 ((strV s).p), .int .i64 ((strV s).q), .string ((strV s).str), .int .i64 ((strV s).ref), .int .i64 0, .int .i64 0, .int .i64 0, .string ByteArray.empty, .int .i64 0, (.slice none 0 0), .int .i64 0, .string ByteArray.empty]] [] (SI.agg 2 41 0 SI.nil) (fun _ h => h.re [] [0]) ⟨?_, rfl⟩
  rw [← cut_c (s := s) (by omega)]; rfl
theorem rtxt_s {Z : Zone} {F : List Asr} {b : Nat} {st : Hst} {n : Nat} (hsm : HSm n st) (hn : n ≤ 300) (hnm : NmS st) (v : Vl) (h0 : -9223372036854775808 ≤ v.ref) (h1 : v.ref ≤ 9223372036854775807) (hs : (v.str.size : Int) ≤ 4611686018427387904) : SF Tryz.prog 11 #[.pointer (some ⟨b, 0, none⟩), v.v] Z (rhA b st :: F) fun r Bs => ∃ av, r = (txtN st v).w av ∧ Bs = own VlT av (txtN st v).args :: rhA b st :: F := by
 refine sf_enter Tryz.func11 51 [(0, pB b 0), (1, .agg #[.int .i64 v.kind, .int .i64 v.p, .int .i64 v.q, .string v.str, .int .i64 v.ref])] (fun w0 => ?_)
 have hlen0 := hsm.len
 have hz1 := name_size hnm v
 refine k_fact (fun H h => rh_inv (h.re [0] [])) (fun hi0 => ?_)
 refine k_sr ?_
 refine s_box #[.int .i64 v.kind, .int .i64 v.p, .int .i64 v.q, .string v.str, .int .i64 v.ref] (fun g1 => ?_)
 refine s_alloc (.agg #[.int .i64 0, .int .i64 0, .int .i64 0, .int .i64 0, .string ByteArray.empty, .int .i64 0, .int .i64 0, .int .i64 0, .int .i64 0, .string ByteArray.empty, .int .i64 0, (.slice none 0 0), .int .i64 0, .string ByteArray.empty]) #[.int .i64 0, .int .i64 0, .int .i64 0, .int .i64 0, .string ByteArray.empty, .int .i64 0, .int .i64 0, .int .i64 0, .int .i64 0, .string ByteArray.empty, .int .i64 0, (.slice none 0 0), .int .i64 0, .string ByteArray.empty] (fun g2 => ?_)
 refine s_nt ?_
 refine k_seq ?_
 refine k_sr ?_
 refine sp (pB b 0) ?_
 refine s_lt (t_loadA 1 #[.int .i64 v.kind, .int .i64 v.p, .int .i64 v.q, .string v.str, .int .i64 v.ref]) ?_
 refine s_call [2] (rhdl_s (st := st) hsm (by omega) v ⟨#[95, 95, 116, 111, 115, 116, 114, 105, 110, 103]⟩) ?_
 rintro _ _ ⟨rfl, rfl⟩
 refine s_alloc (.agg #[.int .i64 0, .int .i64 0, .int .i64 0, .string ByteArray.empty, .int .i64 0]) #[.int .i64 0, .int .i64 0, .int .i64 0, .string ByteArray.empty, .int .i64 0] (fun g3 => ?_)
 refine s_store 0 #[.int .i64 ((hdl st v ⟨#[95, 95, 116, 111, 115, 116, 114, 105, 110, 103]⟩).kind), .int .i64 ((hdl st v ⟨#[95, 95, 116, 111, 115, 116, 114, 105, 110, 103]⟩).p), .int .i64 ((hdl st v ⟨#[95, 95, 116, 111, 115, 116, 114, 105, 110, 103]⟩).q), .string ((hdl st v ⟨#[95, 95, 116, 111, 115, 116, 114, 105, 110, 103]⟩).str), .int .i64 ((hdl st v ⟨#[95, 95, 116, 111, 115, 116, 114, 105, 110, 103]⟩).ref)] ?_
 refine s_nr ?_
 refine sp (pB g3 0) ?_
 refine s_lt (t_load 0 (.int .i64 ((hdl st v ⟨#[95, 95, 116, 111, 115, 116, 114, 105, 110, 103]⟩).kind))) ?_
 refine s_lt t_cmp ?_
 refine s_nt ?_
 refine k_cond (decide ((hdl st v ⟨#[95, 95, 116, 111, 115, 116, 114, 105, 110, 103]⟩).kind ≠ 0)) (fun c4 => ?_) (fun c4 => ?_)
 ·
  have p5 := of_decide_eq_true c4
  refine k_sr ?_
  refine s_lt (t_loadA 0 #[.int .i64 ((hdl st v ⟨#[95, 95, 116, 111, 115, 116, 114, 105, 110, 103]⟩).kind), .int .i64 ((hdl st v ⟨#[95, 95, 116, 111, 115, 116, 114, 105, 110, 103]⟩).p), .int .i64 ((hdl st v ⟨#[95, 95, 116, 111, 115, 116, 114, 105, 110, 103]⟩).q), .string ((hdl st v ⟨#[95, 95, 116, 111, 115, 116, 114, 105, 110, 103]⟩).str), .int .i64 ((hdl st v ⟨#[95, 95, 116, 111, 115, 116, 114, 105, 110, 103]⟩).ref)]) ?_
  refine s_lt (t_loadA 3 #[.int .i64 v.kind, .int .i64 v.p, .int .i64 v.q, .string v.str, .int .i64 v.ref]) ?_
  refine s_buildSlice (e := 26) [(0, .agg #[.int .i64 v.kind, .int .i64 v.p, .int .i64 v.q, .string v.str, .int .i64 v.ref])] #[.int .i64 v.kind, .int .i64 v.p, .int .i64 v.q, .string v.str, .int .i64 v.ref] (fun g6 => ?_) (hb := by kernel_rfl)
  refine s_vcall (fun _ h => rcall_s (hdl st v ⟨#[95, 95, 116, 111, 115, 116, 114, 105, 110, 103]⟩) 1 (some ⟨g6, 0, none⟩) 1 1 []) ?_
  rintro _ rfl
  refine s_store 3 #[.int .i64 2, .int .i64 0, .int .i64 0, .int .i64 0, .string ByteArray.empty, .int .i64 0, .int .i64 ((hdl st v ⟨#[95, 95, 116, 111, 115, 116, 114, 105, 110, 103]⟩).kind), .int .i64 ((hdl st v ⟨#[95, 95, 116, 111, 115, 116, 114, 105, 110, 103]⟩).p), .int .i64 ((hdl st v ⟨#[95, 95, 116, 111, 115, 116, 114, 105, 110, 103]⟩).q), .string ((hdl st v ⟨#[95, 95, 116, 111, 115, 116, 114, 105, 110, 103]⟩).str), .int .i64 ((hdl st v ⟨#[95, 95, 116, 111, 115, 116, 114, 105, 110, 103]⟩).ref), (.slice (some ⟨g6, 0, none⟩) 1 1), .int .i64 1, .string ByteArray.empty] ?_
  refine s_nt ?_
  refine k_ret ?_
  refine xs_ret ?_
  refine xs_mem (fun _ h => Holds.slice 0 h VlT_ok [v]) ?_
  have hp := txt_call (of_decide_eq_true c4)
  exact xs_fin [.agg #[.int .i64 2, .int .i64 0, .int .i64 0, .int .i64 0, .string ByteArray.empty, .int .i64 0, .int .i64 ((hdl st v ⟨#[95, 95, 116, 111, 115, 116, 114, 105, 110, 103]⟩).kind), .int .i64 ((hdl st v ⟨#[95, 95, 116, 111, 115, 116, 114, 105, 110, 103]⟩).p), .int .i64 ((hdl st v ⟨#[95, 95, 116, 111, 115, 116, 114, 105, 110, 103]⟩).q), .string ((hdl st v ⟨#[95, 95, 116, 111, 115, 116, 114, 105, 110, 103]⟩).str), .int .i64 ((hdl st v ⟨#[95, 95, 116, 111, 115, 116, 114, 105, 110, 103]⟩).ref), (.slice (some ⟨g6, 0, none⟩) 1 1), .int .i64 1, .string ByteArray.empty]] (own VlT (.slice (some ⟨g6, 0, none⟩) 1 1) [v] :: rhA b st :: F) (SI.agg 4 41 3 SI.nil) (fun _ h => h.re [0, 1] [2, 2, 2]) ⟨(.slice (some ⟨g6, 0, none⟩) 1 1), by rw [hp]; rfl, by rw [hp]; rfl⟩
 ·
  have p7 := Decidable.not_not.1 (of_decide_eq_false c4)
  refine k_st ?_
  refine k_seq ?_
  refine k_sr ?_
  refine sp (pB b 0) ?_
  refine s_lt (t_loadA 3 #[.int .i64 v.kind, .int .i64 v.p, .int .i64 v.q, .string v.str, .int .i64 v.ref]) ?_
  refine s_call [1] (rhdl_s (st := st) hsm (by omega) v ⟨#[95, 95, 110, 97, 109, 101]⟩) ?_
  rintro _ _ ⟨rfl, rfl⟩
  refine s_alloc (.agg #[.int .i64 0, .int .i64 0, .int .i64 0, .string ByteArray.empty, .int .i64 0]) #[.int .i64 0, .int .i64 0, .int .i64 0, .string ByteArray.empty, .int .i64 0] (fun g8 => ?_)
  refine s_store 0 #[.int .i64 ((hdl st v ⟨#[95, 95, 110, 97, 109, 101]⟩).kind), .int .i64 ((hdl st v ⟨#[95, 95, 110, 97, 109, 101]⟩).p), .int .i64 ((hdl st v ⟨#[95, 95, 110, 97, 109, 101]⟩).q), .string ((hdl st v ⟨#[95, 95, 110, 97, 109, 101]⟩).str), .int .i64 ((hdl st v ⟨#[95, 95, 110, 97, 109, 101]⟩).ref)] ?_
  refine s_nr ?_
  refine sp (pB g8 0) ?_
  refine s_lt (t_load 0 (.int .i64 ((hdl st v ⟨#[95, 95, 110, 97, 109, 101]⟩).kind))) ?_
  refine s_lt t_cmp ?_
  refine s_nt ?_
  refine k_cond (decide ((hdl st v ⟨#[95, 95, 110, 97, 109, 101]⟩).kind = 3)) (fun c9 => ?_) (fun c9 => ?_)
  ·
   have p10 := of_decide_eq_true c9
   have hz2 := yhdl_size hi0 v ⟨#[95, 95, 110, 97, 109, 101]⟩ (by omega)
   refine k_seq ?_
   have hz2 := yhdl_size hi0 v ⟨#[95, 95, 110, 97, 109, 101]⟩ (by omega)
   refine k_held [blkA g8 #[.int .i64 ((hdl st v ⟨#[95, 95, 110, 97, 109, 101]⟩).kind), .int .i64 ((hdl st v ⟨#[95, 95, 110, 97, 109, 101]⟩).p), .int .i64 ((hdl st v ⟨#[95, 95, 110, 97, 109, 101]⟩).q), .string ((hdl st v ⟨#[95, 95, 110, 97, 109, 101]⟩).str), .int .i64 ((hdl st v ⟨#[95, 95, 110, 97, 109, 101]⟩).ref)] 26, blkA g3 #[.int .i64 ((hdl st v ⟨#[95, 95, 116, 111, 115, 116, 114, 105, 110, 103]⟩).kind), .int .i64 ((hdl st v ⟨#[95, 95, 116, 111, 115, 116, 114, 105, 110, 103]⟩).p), .int .i64 ((hdl st v ⟨#[95, 95, 116, 111, 115, 116, 114, 105, 110, 103]⟩).q), .string ((hdl st v ⟨#[95, 95, 116, 111, 115, 116, 114, 105, 110, 103]⟩).str), .int .i64 ((hdl st v ⟨#[95, 95, 116, 111, 115, 116, 114, 105, 110, 103]⟩).ref)] 26, blkA g1 #[.int .i64 v.kind, .int .i64 v.p, .int .i64 v.q, .string v.str, .int .i64 v.ref] 26] ?_
   refine hp_ 0 [0, 1, 2] (pB g8 3) ?_
   refine h_l 1 rfl [0, 1, 2] (fun _ => (t_load 0 (.string ((hdl st v ⟨#[95, 95, 110, 97, 109, 101]⟩).str)))) ?_
   refine h_l 2 rfl [0, 1, 2] (fun _ => (t_cat ((hdl st v ⟨#[95, 95, 110, 97, 109, 101]⟩).str) ⟨#[58, 32]⟩ (by simp only [ByteArray.size_append, sz_mk, List.length_cons, List.length_nil]; omega))) ?_
   refine h_l 3 rfl [0, 1, 2] (fun _ => (t_loadA 2 #[.int .i64 v.kind, .int .i64 v.p, .int .i64 v.q, .string v.str, .int .i64 v.ref])) ?_
   refine h_stepS 4 ?_
   have hr11 : 1 ≤ v.ref ∧ v.ref ≤ (st.objs.length : Int) := by first | exact hdl_ref (ev := ⟨#[95, 95, 110, 97, 109, 101]⟩) (by omega) | exact name_ref (by assumption)
   have z12 := itoaB_size (n := v.ref) (by omega) (by omega)
   refine s_vcall (fun _ h => rid_s v (by omega) (by omega)) ?_
   rintro _ rfl
   refine s_nil (xs_held [0, 1, 2] ?_)
   refine h_l 5 rfl [0, 1, 2] (fun _ => (t_cat (((hdl st v ⟨#[95, 95, 110, 97, 109, 101]⟩).str) ++ ⟨#[58, 32]⟩) (itoaB v.ref) (by simp only [ByteArray.size_append, sz_mk, List.length_cons, List.length_nil]; omega))) ?_
   refine h_stepS 6 ?_
   refine s_vcall (fun _ h => rshort_s ((((hdl st v ⟨#[95, 95, 110, 97, 109, 101]⟩).str) ++ ⟨#[58, 32]⟩) ++ (itoaB v.ref))) ?_
   rintro _ rfl
   refine s_nil (xs_held [0, 1, 2] ?_)
   refine h_stepS 7 ?_
   refine s_store 3 #[.int .i64 1, .int .i64 ((strV (cutT ((((hdl st v ⟨#[95, 95, 110, 97, 109, 101]⟩).str) ++ ⟨#[58, 32]⟩) ++ (itoaB v.ref)))).kind), .int .i64 ((strV (cutT ((((hdl st v ⟨#[95, 95, 110, 97, 109, 101]⟩).str) ++ ⟨#[58, 32]⟩) ++ (itoaB v.ref)))).p), .int .i64 ((strV (cutT ((((hdl st v ⟨#[95, 95, 110, 97, 109, 101]⟩).str) ++ ⟨#[58, 32]⟩) ++ (itoaB v.ref)))).q), .string ((strV (cutT ((((hdl st v ⟨#[95, 95, 110, 97, 109, 101]⟩).str) ++ ⟨#[58, 32]⟩) ++ (itoaB v.ref)))).str), .int .i64 ((strV (cutT ((((hdl st v ⟨#[95, 95, 110, 97, 109, 101]⟩).str) ++ ⟨#[58, 32]⟩) ++ (itoaB v.ref)))).ref), .int .i64 0, .int .i64 0, .int .i64 0, .string ByteArray.empty, .int .i64 0, (.slice none 0 0), .int .i64 0, .string ByteArray.empty] ?_
   refine s_nil (xs_held [0, 1, 2] ?_)
   refine h_doneS ?_
   refine xs_then ?_
   refine k_ret ?_
   refine xs_ret ?_
   refine xs_mem (fun _ h => Holds.nilS (T := VlT) h) ?_
   have hp := txt_a (of_decide_eq_false c4) (of_decide_eq_true c9)
   exact xs_fin [.agg #[.int .i64 1, .int .i64 ((strV (cutT ((((hdl st v ⟨#[95, 95, 110, 97, 109, 101]⟩).str) ++ ⟨#[58, 32]⟩) ++ (itoaB v.ref)))).kind), .int .i64 ((strV (cutT ((((hdl st v ⟨#[95, 95, 110, 97, 109, 101]⟩).str) ++ ⟨#[58, 32]⟩) ++ (itoaB v.ref)))).p), .int .i64 ((strV (cutT ((((hdl st v ⟨#[95, 95, 110, 97, 109, 101]⟩).str) ++ ⟨#[58, 32]⟩) ++ (itoaB v.ref)))).q), .string ((strV (cutT ((((hdl st v ⟨#[95, 95, 110, 97, 109, 101]⟩).str) ++ ⟨#[58, 32]⟩) ++ (itoaB v.ref)))).str), .int .i64 ((strV (cutT ((((hdl st v ⟨#[95, 95, 110, 97, 109, 101]⟩).str) ++ ⟨#[58, 32]⟩) ++ (itoaB v.ref)))).ref), .int .i64 0, .int .i64 0, .int .i64 0, .string ByteArray.empty, .int .i64 0, (.slice none 0 0), .int .i64 0, .string ByteArray.empty]] (own VlT (.slice none 0 0) [] :: rhA b st :: F) (SI.agg 4 41 4 SI.nil) (fun _ h => h.re [0, 1] [2, 2, 2, 2]) ⟨(.slice none 0 0), by rw [hp]; rfl, by rw [hp]; rfl⟩
  ·
   have p13 := of_decide_eq_false c9
   refine k_st ?_
   refine k_seq ?_
   refine k_sr ?_
   refine sp (pB g1 0) ?_
   refine s_lt (t_load 4 (.int .i64 v.kind)) ?_
   refine s_lt t_cmp ?_
   refine s_nt ?_
   refine k_cond (decide (v.kind = 8)) (fun c14 => ?_) (fun c14 => ?_)
   ·
    have p15 := of_decide_eq_true c14
    refine k_sr ?_
    refine sp (pB b 0) ?_
    refine s_lt (t_loadA 4 #[.int .i64 v.kind, .int .i64 v.p, .int .i64 v.q, .string v.str, .int .i64 v.ref]) ?_
    refine s_call [1] (rhname_s (st := st) hsm (by omega) v) ?_
    rintro _ _ ⟨rfl, rfl⟩
    refine sp (.tuple #[.string ((hnameV st v).1), .bool ((hnameV st v).2)]) ?_
    refine sp (.string ((hnameV st v).1)) ?_
    refine sp (.bool ((hnameV st v).2)) ?_
    refine sp (.string ((hnameV st v).1)) ?_
    refine sp (.bool ((hnameV st v).2)) ?_
    refine s_nr ?_
    refine sp (.bool ((hnameV st v).2)) ?_
    refine s_nt ?_
    refine k_cond ((hnameV st v).2) (fun c16 => ?_) (fun c16 => ?_)
    ·
     refine k_sr ?_
     refine sp (.string ((hnameV st v).1)) ?_
     refine s_lt (t_cat ((hnameV st v).1) ⟨#[58, 32]⟩ (by simp only [ByteArray.size_append, sz_mk, List.length_cons, List.length_nil]; omega)) ?_
     refine s_lt (t_loadA 4 #[.int .i64 v.kind, .int .i64 v.p, .int .i64 v.q, .string v.str, .int .i64 v.ref]) ?_
     have hr17 : 1 ≤ v.ref ∧ v.ref ≤ (st.objs.length : Int) := by first | exact hdl_ref (ev := ⟨#[95, 95, 110, 97, 109, 101]⟩) (by omega) | exact name_ref (by assumption)
     have z18 := itoaB_size (n := v.ref) (by omega) (by omega)
     refine s_vcall (fun _ h => rid_s v (by omega) (by omega)) ?_
     rintro _ rfl
     refine s_lt (t_cat (((hnameV st v).1) ++ ⟨#[58, 32]⟩) (itoaB v.ref) (by simp only [ByteArray.size_append, sz_mk, List.length_cons, List.length_nil]; omega)) ?_
     refine s_vcall (fun _ h => rshort_s ((((hnameV st v).1) ++ ⟨#[58, 32]⟩) ++ (itoaB v.ref))) ?_
     rintro _ rfl
     refine s_store 3 #[.int .i64 1, .int .i64 ((strV (cutT ((((hnameV st v).1) ++ ⟨#[58, 32]⟩) ++ (itoaB v.ref)))).kind), .int .i64 ((strV (cutT ((((hnameV st v).1) ++ ⟨#[58, 32]⟩) ++ (itoaB v.ref)))).p), .int .i64 ((strV (cutT ((((hnameV st v).1) ++ ⟨#[58, 32]⟩) ++ (itoaB v.ref)))).q), .string ((strV (cutT ((((hnameV st v).1) ++ ⟨#[58, 32]⟩) ++ (itoaB v.ref)))).str), .int .i64 ((strV (cutT ((((hnameV st v).1) ++ ⟨#[58, 32]⟩) ++ (itoaB v.ref)))).ref), .int .i64 0, .int .i64 0, .int .i64 0, .string ByteArray.empty, .int .i64 0, (.slice none 0 0), .int .i64 0, .string ByteArray.empty] ?_
     refine s_nt ?_
     refine k_ret ?_
     refine xs_ret ?_
     refine xs_mem (fun _ h => Holds.nilS (T := VlT) h) ?_
     have hp := txt_b (of_decide_eq_false c4) (of_decide_eq_false c9) c16
     exact xs_fin [.agg #[.int .i64 1, .int .i64 ((strV (cutT ((((hnameV st v).1) ++ ⟨#[58, 32]⟩) ++ (itoaB v.ref)))).kind), .int .i64 ((strV (cutT ((((hnameV st v).1) ++ ⟨#[58, 32]⟩) ++ (itoaB v.ref)))).p), .int .i64 ((strV (cutT ((((hnameV st v).1) ++ ⟨#[58, 32]⟩) ++ (itoaB v.ref)))).q), .string ((strV (cutT ((((hnameV st v).1) ++ ⟨#[58, 32]⟩) ++ (itoaB v.ref)))).str), .int .i64 ((strV (cutT ((((hnameV st v).1) ++ ⟨#[58, 32]⟩) ++ (itoaB v.ref)))).ref), .int .i64 0, .int .i64 0, .int .i64 0, .string ByteArray.empty, .int .i64 0, (.slice none 0 0), .int .i64 0, .string ByteArray.empty]] (own VlT (.slice none 0 0) [] :: rhA b st :: F) (SI.agg 4 41 4 SI.nil) (fun _ h => h.re [0, 0] [2, 2, 2, 2]) ⟨(.slice none 0 0), by rw [hp]; rfl, by rw [hp]; rfl⟩
    ·
     refine k_st ?_
     refine k_sr ?_
     refine s_lt (t_loadA 4 #[.int .i64 v.kind, .int .i64 v.p, .int .i64 v.q, .string v.str, .int .i64 v.ref]) ?_
     refine s_vcall (fun _ h => rvtext_s v (by omega) (by omega) (by omega)) ?_
     rintro _ rfl
     refine s_vcall (fun _ h => rshort_s (textT v)) ?_
     rintro _ rfl
     refine s_store 3 #[.int .i64 1, .int .i64 ((strV (cutT (textT v))).kind), .int .i64 ((strV (cutT (textT v))).p), .int .i64 ((strV (cutT (textT v))).q), .string ((strV (cutT (textT v))).str), .int .i64 ((strV (cutT (textT v))).ref), .int .i64 0, .int .i64 0, .int .i64 0, .string ByteArray.empty, .int .i64 0, (.slice none 0 0), .int .i64 0, .string ByteArray.empty] ?_
     refine s_nt ?_
     refine k_ret ?_
     refine xs_mem (fun _ h => Holds.nilS (T := VlT) h) ?_
     have hp := txt_c (of_decide_eq_false c4) (of_decide_eq_false c9) (by rw [c16]; decide)
     exact xs_fin [.agg #[.int .i64 1, .int .i64 ((strV (cutT (textT v))).kind), .int .i64 ((strV (cutT (textT v))).p), .int .i64 ((strV (cutT (textT v))).q), .string ((strV (cutT (textT v))).str), .int .i64 ((strV (cutT (textT v))).ref), .int .i64 0, .int .i64 0, .int .i64 0, .string ByteArray.empty, .int .i64 0, (.slice none 0 0), .int .i64 0, .string ByteArray.empty]] (own VlT (.slice none 0 0) [] :: rhA b st :: F) (SI.agg 4 41 4 SI.nil) (fun _ h => h.re [0, 0] [2, 2, 2, 2]) ⟨(.slice none 0 0), by rw [hp]; rfl, by rw [hp]; rfl⟩
   ·
    have p19 := of_decide_eq_false c14
    refine k_st ?_
    refine k_sr ?_
    refine s_lt (t_loadA 4 #[.int .i64 v.kind, .int .i64 v.p, .int .i64 v.q, .string v.str, .int .i64 v.ref]) ?_
    refine s_vcall (fun _ h => rvtext_s v (by omega) (by omega) (by omega)) ?_
    rintro _ rfl
    refine s_vcall (fun _ h => rshort_s (textT v)) ?_
    rintro _ rfl
    refine s_store 3 #[.int .i64 1, .int .i64 ((strV (cutT (textT v))).kind), .int .i64 ((strV (cutT (textT v))).p), .int .i64 ((strV (cutT (textT v))).q), .string ((strV (cutT (textT v))).str), .int .i64 ((strV (cutT (textT v))).ref), .int .i64 0, .int .i64 0, .int .i64 0, .string ByteArray.empty, .int .i64 0, (.slice none 0 0), .int .i64 0, .string ByteArray.empty] ?_
    refine s_nt ?_
    refine k_ret ?_
    refine xs_mem (fun _ h => Holds.nilS (T := VlT) h) ?_
    have hp := txt_d (of_decide_eq_false c4) (of_decide_eq_false c9) (of_decide_eq_false c14)
    exact xs_fin [.agg #[.int .i64 1, .int .i64 ((strV (cutT (textT v))).kind), .int .i64 ((strV (cutT (textT v))).p), .int .i64 ((strV (cutT (textT v))).q), .string ((strV (cutT (textT v))).str), .int .i64 ((strV (cutT (textT v))).ref), .int .i64 0, .int .i64 0, .int .i64 0, .string ByteArray.empty, .int .i64 0, (.slice none 0 0), .int .i64 0, .string ByteArray.empty]] (own VlT (.slice none 0 0) [] :: rhA b st :: F) (SI.agg 4 41 4 SI.nil) (fun _ h => h.re [0, 1] [2, 2, 2, 2]) ⟨(.slice none 0 0), by rw [hp]; rfl, by rw [hp]; rfl⟩
end Go.Proofs.YtplkkhpokodbmaaGreatDoor
end
section
set_option linter.unusedSimpArgs false
set_option linter.unusedVariables false
set_option maxRecDepth 100000
set_option maxHeartbeats 2000000
namespace Go.Proofs.YtplkkhpokodbmaaGreatDoor
open Go.Hp Go.J Go.S
open Go.Mem (Ty KTy blk elemAt pre suf blk_pre blk_suf aget aset strK aggDesc)
open Go.Mem (adel apos aget_aset aget_adel)
theorem len_a {st : Hst} {v : Vl} (h : v.kind = 3) : lenN st v = giveN (ofI (v.str.size : Int)) := if_pos h
theorem len_b {st : Hst} {v : Vl} (h : ¬ v.kind = 3) (h1 : (hdl st v ⟨#[95, 95, 108, 101, 110]⟩).kind ≠ 0) : lenN st v = callN (hdl st v ⟨#[95, 95, 108, 101, 110]⟩) 1 [v, v] := by unfold lenN; rw [if_neg h, if_pos h1]
theorem len_c {st : Hst} {v : Vl} (h : ¬ v.kind = 3) (h1 : ¬ (hdl st v ⟨#[95, 95, 108, 101, 110]⟩).kind ≠ 0) (h2 : v.kind = 4) : lenN st v = giveN (ofI (hlenV st v)) := by unfold lenN; rw [if_neg h, if_neg h1, if_pos h2]
theorem len_d {st : Hst} {v : Vl} (h : ¬ v.kind = 3) (h1 : ¬ (hdl st v ⟨#[95, 95, 108, 101, 110]⟩).kind ≠ 0) (h2 : ¬ v.kind = 4) : lenN st v = failN (lenB v.kind) := by unfold lenN; rw [if_neg h, if_neg h1, if_neg h2]
theorem mlen_s {Z : Zone} {F : List Asr} {b : Nat} {st : Hst} {n : Nat} (hsm : HSm n st) (hn : n ≤ 300) (v : Vl) : SF Tryz.prog 12 #[.pointer (some ⟨b, 0, none⟩), v.v] Z (hpA b st :: F) fun r Bs => ∃ av, r = (lenN st v).w av ∧ Bs = own VlT av (lenN st v).args :: hpA b st :: F := by
 refine sf_enter Tryz.func12 42 [(0, pB b 0), (1, .agg #[.int .i64 v.kind, .int .i64 v.p, .int .i64 v.q, .string v.str, .int .i64 v.ref])] (fun w0 => ?_)
 have hlen0 := hsm.len
 refine k_sr ?_
 refine s_box #[.int .i64 v.kind, .int .i64 v.p, .int .i64 v.q, .string v.str, .int .i64 v.ref] (fun g1 => ?_)
 refine s_alloc (.agg #[.int .i64 0, .int .i64 0, .int .i64 0, .int .i64 0, .string ByteArray.empty, .int .i64 0, .int .i64 0, .int .i64 0, .int .i64 0, .string ByteArray.empty, .int .i64 0, (.slice none 0 0), .int .i64 0, .string ByteArray.empty]) #[.int .i64 0, .int .i64 0, .int .i64 0, .int .i64 0, .string ByteArray.empty, .int .i64 0, .int .i64 0, .int .i64 0, .int .i64 0, .string ByteArray.empty, .int .i64 0, (.slice none 0 0), .int .i64 0, .string ByteArray.empty] (fun g2 => ?_)
 refine s_nt ?_
 refine k_seq ?_
 refine k_sr ?_
 refine sp (pB g1 0) ?_
 refine s_lt (t_load 1 (.int .i64 v.kind)) ?_
 refine s_lt t_cmp ?_
 refine s_nt ?_
 refine k_cond (decide (v.kind = 3)) (fun c3 => ?_) (fun c3 => ?_)
 ·
  have p4 := of_decide_eq_true c3
  refine k_sr ?_
  refine sp (pB g1 3) ?_
  refine s_lt (t_load 1 (.string v.str)) ?_
  refine s_lt (t_kern (.int .i64 (v.str.size : Int))) ?_
  refine s_vcall (fun _ h => ofint_s (v.str.size : Int)) ?_
  rintro _ rfl
  refine s_vcall (fun _ h => given_s (ofI (v.str.size : Int))) ?_
  rintro _ rfl
  refine s_store 0 #[.int .i64 1, .int .i64 ((ofI (v.str.size : Int)).kind), .int .i64 ((ofI (v.str.size : Int)).p), .int .i64 ((ofI (v.str.size : Int)).q), .string ((ofI (v.str.size : Int)).str), .int .i64 ((ofI (v.str.size : Int)).ref), .int .i64 0, .int .i64 0, .int .i64 0, .string ByteArray.empty, .int .i64 0, (.slice none 0 0), .int .i64 0, .string ByteArray.empty] ?_
  refine s_nt ?_
  refine k_ret ?_
  refine xs_ret ?_
  refine xs_mem (fun _ h => Holds.nilS (T := VlT) h) ?_
  have hp : lenN st v = _ := len_a (of_decide_eq_true c3)
  exact xs_fin [.agg #[.int .i64 1, .int .i64 ((ofI (v.str.size : Int)).kind), .int .i64 ((ofI (v.str.size : Int)).p), .int .i64 ((ofI (v.str.size : Int)).q), .string ((ofI (v.str.size : Int)).str), .int .i64 ((ofI (v.str.size : Int)).ref), .int .i64 0, .int .i64 0, .int .i64 0, .string ByteArray.empty, .int .i64 0, (.slice none 0 0), .int .i64 0, .string ByteArray.empty]] (own VlT (.slice none 0 0) [] :: hpA b st :: F) (SI.agg 4 41 1 SI.nil) (fun _ h => h.re [0, 2] [2, 2]) ⟨(.slice none 0 0), by rw [hp]; rfl, by rw [hp]; rfl⟩
 ·
  have p5 := of_decide_eq_false c3
  refine k_st ?_
  refine k_seq ?_
  refine k_sr ?_
  refine sp (pB b 0) ?_
  refine s_lt (t_loadA 1 #[.int .i64 v.kind, .int .i64 v.p, .int .i64 v.q, .string v.str, .int .i64 v.ref]) ?_
  refine s_call [2] (hdl_s (st := st) hsm (by omega) v ⟨#[95, 95, 108, 101, 110]⟩) ?_
  rintro _ _ ⟨rfl, rfl⟩
  refine s_alloc (.agg #[.int .i64 0, .int .i64 0, .int .i64 0, .string ByteArray.empty, .int .i64 0]) #[.int .i64 0, .int .i64 0, .int .i64 0, .string ByteArray.empty, .int .i64 0] (fun g6 => ?_)
  refine s_store 0 #[.int .i64 ((hdl st v ⟨#[95, 95, 108, 101, 110]⟩).kind), .int .i64 ((hdl st v ⟨#[95, 95, 108, 101, 110]⟩).p), .int .i64 ((hdl st v ⟨#[95, 95, 108, 101, 110]⟩).q), .string ((hdl st v ⟨#[95, 95, 108, 101, 110]⟩).str), .int .i64 ((hdl st v ⟨#[95, 95, 108, 101, 110]⟩).ref)] ?_
  refine s_nr ?_
  refine sp (pB g6 0) ?_
  refine s_lt (t_load 0 (.int .i64 ((hdl st v ⟨#[95, 95, 108, 101, 110]⟩).kind))) ?_
  refine s_lt t_cmp ?_
  refine s_nt ?_
  refine k_cond (decide ((hdl st v ⟨#[95, 95, 108, 101, 110]⟩).kind ≠ 0)) (fun c7 => ?_) (fun c7 => ?_)
  ·
   have p8 := of_decide_eq_true c7
   refine k_sr ?_
   refine s_lt (t_loadA 0 #[.int .i64 ((hdl st v ⟨#[95, 95, 108, 101, 110]⟩).kind), .int .i64 ((hdl st v ⟨#[95, 95, 108, 101, 110]⟩).p), .int .i64 ((hdl st v ⟨#[95, 95, 108, 101, 110]⟩).q), .string ((hdl st v ⟨#[95, 95, 108, 101, 110]⟩).str), .int .i64 ((hdl st v ⟨#[95, 95, 108, 101, 110]⟩).ref)]) ?_
   refine s_lt (t_loadA 3 #[.int .i64 v.kind, .int .i64 v.p, .int .i64 v.q, .string v.str, .int .i64 v.ref]) ?_
   refine s_lt (t_loadA 3 #[.int .i64 v.kind, .int .i64 v.p, .int .i64 v.q, .string v.str, .int .i64 v.ref]) ?_
   refine s_buildSlice (e := 26) [(0, .agg #[.int .i64 v.kind, .int .i64 v.p, .int .i64 v.q, .string v.str, .int .i64 v.ref]), (1, .agg #[.int .i64 v.kind, .int .i64 v.p, .int .i64 v.q, .string v.str, .int .i64 v.ref])] #[.int .i64 v.kind, .int .i64 v.p, .int .i64 v.q, .string v.str, .int .i64 v.ref, .int .i64 v.kind, .int .i64 v.p, .int .i64 v.q, .string v.str, .int .i64 v.ref] (fun g9 => ?_) (hb := by kernel_rfl)
   refine s_vcall (fun _ h => called_s (hdl st v ⟨#[95, 95, 108, 101, 110]⟩) 1 (some ⟨g9, 0, none⟩) 2 2 []) ?_
   rintro _ rfl
   refine s_store 3 #[.int .i64 2, .int .i64 0, .int .i64 0, .int .i64 0, .string ByteArray.empty, .int .i64 0, .int .i64 ((hdl st v ⟨#[95, 95, 108, 101, 110]⟩).kind), .int .i64 ((hdl st v ⟨#[95, 95, 108, 101, 110]⟩).p), .int .i64 ((hdl st v ⟨#[95, 95, 108, 101, 110]⟩).q), .string ((hdl st v ⟨#[95, 95, 108, 101, 110]⟩).str), .int .i64 ((hdl st v ⟨#[95, 95, 108, 101, 110]⟩).ref), (.slice (some ⟨g9, 0, none⟩) 2 2), .int .i64 1, .string ByteArray.empty] ?_
   refine s_nt ?_
   refine k_ret ?_
   refine xs_ret ?_
   refine xs_mem (fun _ h => Holds.slice 0 h VlT_ok [v, v]) ?_
   have hp : lenN st v = _ := len_b (of_decide_eq_false c3) (of_decide_eq_true c7)
   exact xs_fin [.agg #[.int .i64 2, .int .i64 0, .int .i64 0, .int .i64 0, .string ByteArray.empty, .int .i64 0, .int .i64 ((hdl st v ⟨#[95, 95, 108, 101, 110]⟩).kind), .int .i64 ((hdl st v ⟨#[95, 95, 108, 101, 110]⟩).p), .int .i64 ((hdl st v ⟨#[95, 95, 108, 101, 110]⟩).q), .string ((hdl st v ⟨#[95, 95, 108, 101, 110]⟩).str), .int .i64 ((hdl st v ⟨#[95, 95, 108, 101, 110]⟩).ref), (.slice (some ⟨g9, 0, none⟩) 2 2), .int .i64 1, .string ByteArray.empty]] (own VlT (.slice (some ⟨g9, 0, none⟩) 2 2) [v, v] :: hpA b st :: F) (SI.agg 4 41 3 SI.nil) (fun _ h => h.re [0, 1] [2, 2, 2]) ⟨(.slice (some ⟨g9, 0, none⟩) 2 2), by rw [hp]; rfl, by rw [hp]; rfl⟩
  ·
   have p10 := Decidable.not_not.1 (of_decide_eq_false c7)
   refine k_st ?_
   refine k_seq ?_
   refine k_sr ?_
   refine sp (pB g1 0) ?_
   refine s_lt (t_load 3 (.int .i64 v.kind)) ?_
   refine s_lt t_cmp ?_
   refine s_nt ?_
   refine k_cond (decide (v.kind = 4)) (fun c11 => ?_) (fun c11 => ?_)
   ·
    have p12 := of_decide_eq_true c11
    refine k_sr ?_
    refine sp (pB b 0) ?_
    refine s_lt (t_loadA 3 #[.int .i64 v.kind, .int .i64 v.p, .int .i64 v.q, .string v.str, .int .i64 v.ref]) ?_
    refine s_call [1] (hlen_s (st := st) hsm (by omega) v) ?_
    rintro _ _ ⟨rfl, rfl⟩
    refine sp (.tuple #[.int .i64 (hlenV st v), .int .i64 (hgetE st v)]) ?_
    refine sp (.int .i64 (hlenV st v)) ?_
    refine sp (.int .i64 (hgetE st v)) ?_
    refine sp (.int .i64 (hlenV st v)) ?_
    refine sp (.int .i64 (hgetE st v)) ?_
    refine s_nr ?_
    refine sp (.int .i64 (hlenV st v)) ?_
    refine s_vcall (fun _ h => ofint_s (hlenV st v)) ?_
    rintro _ rfl
    refine s_vcall (fun _ h => given_s (ofI (hlenV st v))) ?_
    rintro _ rfl
    refine s_store 2 #[.int .i64 1, .int .i64 ((ofI (hlenV st v)).kind), .int .i64 ((ofI (hlenV st v)).p), .int .i64 ((ofI (hlenV st v)).q), .string ((ofI (hlenV st v)).str), .int .i64 ((ofI (hlenV st v)).ref), .int .i64 0, .int .i64 0, .int .i64 0, .string ByteArray.empty, .int .i64 0, (.slice none 0 0), .int .i64 0, .string ByteArray.empty] ?_
    refine s_nt ?_
    refine k_ret ?_
    refine xs_ret ?_
    refine xs_mem (fun _ h => Holds.nilS (T := VlT) h) ?_
    have hp : lenN st v = _ := len_c (of_decide_eq_false c3) (of_decide_eq_false c7) (of_decide_eq_true c11)
    exact xs_fin [.agg #[.int .i64 1, .int .i64 ((ofI (hlenV st v)).kind), .int .i64 ((ofI (hlenV st v)).p), .int .i64 ((ofI (hlenV st v)).q), .string ((ofI (hlenV st v)).str), .int .i64 ((ofI (hlenV st v)).ref), .int .i64 0, .int .i64 0, .int .i64 0, .string ByteArray.empty, .int .i64 0, (.slice none 0 0), .int .i64 0, .string ByteArray.empty]] (own VlT (.slice none 0 0) [] :: hpA b st :: F) (SI.agg 4 41 3 SI.nil) (fun _ h => h.re [0, 0] [2, 2, 2]) ⟨(.slice none 0 0), by rw [hp]; rfl, by rw [hp]; rfl⟩
   ·
    have p13 := of_decide_eq_false c11
    refine k_st ?_
    refine k_sr ?_
    refine s_lt (t_loadA 3 #[.int .i64 v.kind, .int .i64 v.p, .int .i64 v.q, .string v.str, .int .i64 v.ref]) ?_
    refine s_vcall (fun _ h => attempt2_s v) ?_
    rintro _ rfl
    refine s_vcall (fun _ h => failed_s (lenB v.kind)) ?_
    rintro _ rfl
    refine s_store 2 #[.int .i64 3, .int .i64 0, .int .i64 0, .int .i64 0, .string ByteArray.empty, .int .i64 0, .int .i64 0, .int .i64 0, .int .i64 0, .string ByteArray.empty, .int .i64 0, (.slice none 0 0), .int .i64 0, .string (lenB v.kind)] ?_
    refine s_nt ?_
    refine k_ret ?_
    refine xs_mem (fun _ h => Holds.nilS (T := VlT) h) ?_
    have hp : lenN st v = _ := len_d (of_decide_eq_false c3) (of_decide_eq_false c7) (of_decide_eq_false c11)
    exact xs_fin [.agg #[.int .i64 3, .int .i64 0, .int .i64 0, .int .i64 0, .string ByteArray.empty, .int .i64 0, .int .i64 0, .int .i64 0, .int .i64 0, .string ByteArray.empty, .int .i64 0, (.slice none 0 0), .int .i64 0, .string (lenB v.kind)]] (own VlT (.slice none 0 0) [] :: hpA b st :: F) (SI.agg 4 41 3 SI.nil) (fun _ h => h.re [0, 1] [2, 2, 2]) ⟨(.slice none 0 0), by rw [hp]; rfl, by rw [hp]; rfl⟩
theorem rvlen_s {Z : Zone} {F : List Asr} {b : Nat} {st : Hst} {n : Nat} (hsm : HSm n st) (hn : n ≤ 300) (v : Vl) : SF Tryz.prog 13 #[.pointer (some ⟨b, 0, none⟩), v.v] Z (rhA b st :: F) fun r Bs => ∃ av, r = (lenN st v).w av ∧ Bs = own VlT av (lenN st v).args :: rhA b st :: F := by
 refine sf_enter Tryz.func13 44 [(0, pB b 0), (1, .agg #[.int .i64 v.kind, .int .i64 v.p, .int .i64 v.q, .string v.str, .int .i64 v.ref])] (fun w0 => ?_)
 have hlen0 := hsm.len
 refine k_fact (fun H h => rh_inv (h.re [0] [])) (fun hi0 => ?_)
 refine k_sr ?_
 refine s_box #[.int .i64 v.kind, .int .i64 v.p, .int .i64 v.q, .string v.str, .int .i64 v.ref] (fun g1 => ?_)
 refine s_alloc (.agg #[.int .i64 0, .int .i64 0, .int .i64 0, .int .i64 0, .string ByteArray.empty, .int .i64 0, .int .i64 0, .int .i64 0, .int .i64 0, .string ByteArray.empty, .int .i64 0, (.slice none 0 0), .int .i64 0, .string ByteArray.empty]) #[.int .i64 0, .int .i64 0, .int .i64 0, .int .i64 0, .string ByteArray.empty, .int .i64 0, .int .i64 0, .int .i64 0, .int .i64 0, .string ByteArray.empty, .int .i64 0, (.slice none 0 0), .int .i64 0, .string ByteArray.empty] (fun g2 => ?_)
 refine s_nt ?_
 refine k_seq ?_
 refine k_sr ?_
 refine sp (pB g1 0) ?_
 refine s_lt (t_load 1 (.int .i64 v.kind)) ?_
 refine s_lt t_cmp ?_
 refine s_nt ?_
 refine k_cond (decide (v.kind = 3)) (fun c3 => ?_) (fun c3 => ?_)
 ·
  have p4 := of_decide_eq_true c3
  refine k_sr ?_
  refine sp (pB g1 3) ?_
  refine s_lt (t_load 1 (.string v.str)) ?_
  refine s_lt (t_kern (.int .i64 (v.str.size : Int))) ?_
  refine s_vcall (fun _ h => rofint_s (v.str.size : Int)) ?_
  rintro _ rfl
  refine s_vcall (fun _ h => give_s (ofI (v.str.size : Int))) ?_
  rintro _ rfl
  refine s_store 0 #[.int .i64 1, .int .i64 ((ofI (v.str.size : Int)).kind), .int .i64 ((ofI (v.str.size : Int)).p), .int .i64 ((ofI (v.str.size : Int)).q), .string ((ofI (v.str.size : Int)).str), .int .i64 ((ofI (v.str.size : Int)).ref), .int .i64 0, .int .i64 0, .int .i64 0, .string ByteArray.empty, .int .i64 0, (.slice none 0 0), .int .i64 0, .string ByteArray.empty] ?_
  refine s_nt ?_
  refine k_ret ?_
  refine xs_ret ?_
  refine xs_mem (fun _ h => Holds.nilS (T := VlT) h) ?_
  have hp : lenN st v = _ := len_a (of_decide_eq_true c3)
  exact xs_fin [.agg #[.int .i64 1, .int .i64 ((ofI (v.str.size : Int)).kind), .int .i64 ((ofI (v.str.size : Int)).p), .int .i64 ((ofI (v.str.size : Int)).q), .string ((ofI (v.str.size : Int)).str), .int .i64 ((ofI (v.str.size : Int)).ref), .int .i64 0, .int .i64 0, .int .i64 0, .string ByteArray.empty, .int .i64 0, (.slice none 0 0), .int .i64 0, .string ByteArray.empty]] (own VlT (.slice none 0 0) [] :: rhA b st :: F) (SI.agg 4 41 1 SI.nil) (fun _ h => h.re [0, 2] [2, 2]) ⟨(.slice none 0 0), by rw [hp]; rfl, by rw [hp]; rfl⟩
 ·
  have p5 := of_decide_eq_false c3
  refine k_st ?_
  refine k_seq ?_
  refine k_sr ?_
  refine sp (pB b 0) ?_
  refine s_lt (t_loadA 1 #[.int .i64 v.kind, .int .i64 v.p, .int .i64 v.q, .string v.str, .int .i64 v.ref]) ?_
  refine s_call [2] (rhdl_s (st := st) hsm (by omega) v ⟨#[95, 95, 108, 101, 110]⟩) ?_
  rintro _ _ ⟨rfl, rfl⟩
  refine s_alloc (.agg #[.int .i64 0, .int .i64 0, .int .i64 0, .string ByteArray.empty, .int .i64 0]) #[.int .i64 0, .int .i64 0, .int .i64 0, .string ByteArray.empty, .int .i64 0] (fun g6 => ?_)
  refine s_store 0 #[.int .i64 ((hdl st v ⟨#[95, 95, 108, 101, 110]⟩).kind), .int .i64 ((hdl st v ⟨#[95, 95, 108, 101, 110]⟩).p), .int .i64 ((hdl st v ⟨#[95, 95, 108, 101, 110]⟩).q), .string ((hdl st v ⟨#[95, 95, 108, 101, 110]⟩).str), .int .i64 ((hdl st v ⟨#[95, 95, 108, 101, 110]⟩).ref)] ?_
  refine s_nr ?_
  refine sp (pB g6 0) ?_
  refine s_lt (t_load 0 (.int .i64 ((hdl st v ⟨#[95, 95, 108, 101, 110]⟩).kind))) ?_
  refine s_lt t_cmp ?_
  refine s_nt ?_
  refine k_cond (decide ((hdl st v ⟨#[95, 95, 108, 101, 110]⟩).kind ≠ 0)) (fun c7 => ?_) (fun c7 => ?_)
  ·
   have p8 := of_decide_eq_true c7
   refine k_sr ?_
   refine s_lt (t_loadA 0 #[.int .i64 ((hdl st v ⟨#[95, 95, 108, 101, 110]⟩).kind), .int .i64 ((hdl st v ⟨#[95, 95, 108, 101, 110]⟩).p), .int .i64 ((hdl st v ⟨#[95, 95, 108, 101, 110]⟩).q), .string ((hdl st v ⟨#[95, 95, 108, 101, 110]⟩).str), .int .i64 ((hdl st v ⟨#[95, 95, 108, 101, 110]⟩).ref)]) ?_
   refine s_lt (t_loadA 3 #[.int .i64 v.kind, .int .i64 v.p, .int .i64 v.q, .string v.str, .int .i64 v.ref]) ?_
   refine s_lt (t_loadA 3 #[.int .i64 v.kind, .int .i64 v.p, .int .i64 v.q, .string v.str, .int .i64 v.ref]) ?_
   refine s_buildSlice (e := 26) [(0, .agg #[.int .i64 v.kind, .int .i64 v.p, .int .i64 v.q, .string v.str, .int .i64 v.ref]), (1, .agg #[.int .i64 v.kind, .int .i64 v.p, .int .i64 v.q, .string v.str, .int .i64 v.ref])] #[.int .i64 v.kind, .int .i64 v.p, .int .i64 v.q, .string v.str, .int .i64 v.ref, .int .i64 v.kind, .int .i64 v.p, .int .i64 v.q, .string v.str, .int .i64 v.ref] (fun g9 => ?_) (hb := by kernel_rfl)
   refine s_vcall (fun _ h => rcall_s (hdl st v ⟨#[95, 95, 108, 101, 110]⟩) 1 (some ⟨g9, 0, none⟩) 2 2 []) ?_
   rintro _ rfl
   refine s_store 3 #[.int .i64 2, .int .i64 0, .int .i64 0, .int .i64 0, .string ByteArray.empty, .int .i64 0, .int .i64 ((hdl st v ⟨#[95, 95, 108, 101, 110]⟩).kind), .int .i64 ((hdl st v ⟨#[95, 95, 108, 101, 110]⟩).p), .int .i64 ((hdl st v ⟨#[95, 95, 108, 101, 110]⟩).q), .string ((hdl st v ⟨#[95, 95, 108, 101, 110]⟩).str), .int .i64 ((hdl st v ⟨#[95, 95, 108, 101, 110]⟩).ref), (.slice (some ⟨g9, 0, none⟩) 2 2), .int .i64 1, .string ByteArray.empty] ?_
   refine s_nt ?_
   refine k_ret ?_
   refine xs_ret ?_
   refine xs_mem (fun _ h => Holds.slice 0 h VlT_ok [v, v]) ?_
   have hp : lenN st v = _ := len_b (of_decide_eq_false c3) (of_decide_eq_true c7)
   exact xs_fin [.agg #[.int .i64 2, .int .i64 0, .int .i64 0, .int .i64 0, .string ByteArray.empty, .int .i64 0, .int .i64 ((hdl st v ⟨#[95, 95, 108, 101, 110]⟩).kind), .int .i64 ((hdl st v ⟨#[95, 95, 108, 101, 110]⟩).p), .int .i64 ((hdl st v ⟨#[95, 95, 108, 101, 110]⟩).q), .string ((hdl st v ⟨#[95, 95, 108, 101, 110]⟩).str), .int .i64 ((hdl st v ⟨#[95, 95, 108, 101, 110]⟩).ref), (.slice (some ⟨g9, 0, none⟩) 2 2), .int .i64 1, .string ByteArray.empty]] (own VlT (.slice (some ⟨g9, 0, none⟩) 2 2) [v, v] :: rhA b st :: F) (SI.agg 4 41 3 SI.nil) (fun _ h => h.re [0, 1] [2, 2, 2]) ⟨(.slice (some ⟨g9, 0, none⟩) 2 2), by rw [hp]; rfl, by rw [hp]; rfl⟩
  ·
   have p10 := Decidable.not_not.1 (of_decide_eq_false c7)
   refine k_st ?_
   refine k_seq ?_
   refine k_sr ?_
   refine sp (pB g1 0) ?_
   refine s_lt (t_load 3 (.int .i64 v.kind)) ?_
   refine s_lt t_cmp ?_
   refine s_nt ?_
   refine k_cond (decide (v.kind = 4)) (fun c11 => ?_) (fun c11 => ?_)
   ·
    have p12 := of_decide_eq_true c11
    refine k_sr ?_
    refine sp (pB b 0) ?_
    refine s_lt (t_loadA 3 #[.int .i64 v.kind, .int .i64 v.p, .int .i64 v.q, .string v.str, .int .i64 v.ref]) ?_
    refine s_call [1] (rhlen_s (st := st) hsm (by omega) v) ?_
    rintro _ _ ⟨rfl, rfl⟩
    refine sp (.tuple #[.int .i64 (hlenV st v), .int .i64 (hgetE st v)]) ?_
    refine sp (.int .i64 (hlenV st v)) ?_
    refine sp (.int .i64 (hgetE st v)) ?_
    refine sp (.int .i64 (hlenV st v)) ?_
    refine sp (.int .i64 (hgetE st v)) ?_
    refine s_nr ?_
    refine sp (.int .i64 (hlenV st v)) ?_
    refine s_vcall (fun _ h => rofint_s (hlenV st v)) ?_
    rintro _ rfl
    refine s_vcall (fun _ h => give_s (ofI (hlenV st v))) ?_
    rintro _ rfl
    refine s_store 2 #[.int .i64 1, .int .i64 ((ofI (hlenV st v)).kind), .int .i64 ((ofI (hlenV st v)).p), .int .i64 ((ofI (hlenV st v)).q), .string ((ofI (hlenV st v)).str), .int .i64 ((ofI (hlenV st v)).ref), .int .i64 0, .int .i64 0, .int .i64 0, .string ByteArray.empty, .int .i64 0, (.slice none 0 0), .int .i64 0, .string ByteArray.empty] ?_
    refine s_nt ?_
    refine k_ret ?_
    refine xs_ret ?_
    refine xs_mem (fun _ h => Holds.nilS (T := VlT) h) ?_
    have hp : lenN st v = _ := len_c (of_decide_eq_false c3) (of_decide_eq_false c7) (of_decide_eq_true c11)
    exact xs_fin [.agg #[.int .i64 1, .int .i64 ((ofI (hlenV st v)).kind), .int .i64 ((ofI (hlenV st v)).p), .int .i64 ((ofI (hlenV st v)).q), .string ((ofI (hlenV st v)).str), .int .i64 ((ofI (hlenV st v)).ref), .int .i64 0, .int .i64 0, .int .i64 0, .string ByteArray.empty, .int .i64 0, (.slice none 0 0), .int .i64 0, .string ByteArray.empty]] (own VlT (.slice none 0 0) [] :: rhA b st :: F) (SI.agg 4 41 3 SI.nil) (fun _ h => h.re [0, 0] [2, 2, 2]) ⟨(.slice none 0 0), by rw [hp]; rfl, by rw [hp]; rfl⟩
   ·
    have p13 := of_decide_eq_false c11
    refine k_st ?_
    refine k_sr ?_
    refine s_lt (t_loadA 3 #[.int .i64 v.kind, .int .i64 v.p, .int .i64 v.q, .string v.str, .int .i64 v.ref]) ?_
    refine s_vcall (fun _ h => rtype_s v) ?_
    rintro _ rfl
    refine s_lt (t_cat ⟨#[97, 116, 116, 101, 109, 112, 116, 32, 116, 111, 32, 103, 101, 116, 32, 108, 101, 110, 103, 116, 104, 32, 111, 102, 32, 97, 32]⟩ (typeB v.kind) (cat_ok (by decide : (⟨#[97, 116, 116, 101, 109, 112, 116, 32, 116, 111, 32, 103, 101, 116, 32, 108, 101, 110, 103, 116, 104, 32, 111, 102, 32, 97, 32]⟩ : ByteArray).size ≤ 27) (typeB_size _) (by decide))) ?_
    refine s_lt (t_cat (⟨#[97, 116, 116, 101, 109, 112, 116, 32, 116, 111, 32, 103, 101, 116, 32, 108, 101, 110, 103, 116, 104, 32, 111, 102, 32, 97, 32]⟩ ++ (typeB v.kind)) ⟨#[32, 118, 97, 108, 117, 101]⟩ (cat_ok (cat_le (by decide : (⟨#[97, 116, 116, 101, 109, 112, 116, 32, 116, 111, 32, 103, 101, 116, 32, 108, 101, 110, 103, 116, 104, 32, 111, 102, 32, 97, 32]⟩ : ByteArray).size ≤ 27) (typeB_size _)) (by decide : (⟨#[32, 118, 97, 108, 117, 101]⟩ : ByteArray).size ≤ 6) (by decide))) ?_
    refine s_vcall (fun _ h => fail_s ((⟨#[97, 116, 116, 101, 109, 112, 116, 32, 116, 111, 32, 103, 101, 116, 32, 108, 101, 110, 103, 116, 104, 32, 111, 102, 32, 97, 32]⟩ ++ (typeB v.kind)) ++ ⟨#[32, 118, 97, 108, 117, 101]⟩)) ?_
    rintro _ rfl
    refine s_store 2 #[.int .i64 3, .int .i64 0, .int .i64 0, .int .i64 0, .string ByteArray.empty, .int .i64 0, .int .i64 0, .int .i64 0, .int .i64 0, .string ByteArray.empty, .int .i64 0, (.slice none 0 0), .int .i64 0, .string ((⟨#[97, 116, 116, 101, 109, 112, 116, 32, 116, 111, 32, 103, 101, 116, 32, 108, 101, 110, 103, 116, 104, 32, 111, 102, 32, 97, 32]⟩ ++ (typeB v.kind)) ++ ⟨#[32, 118, 97, 108, 117, 101]⟩)] ?_
    refine s_nt ?_
    refine k_ret ?_
    refine xs_mem (fun _ h => Holds.nilS (T := VlT) h) ?_
    have hp : lenN st v = _ := len_d (of_decide_eq_false c3) (of_decide_eq_false c7) (of_decide_eq_false c11)
    exact xs_fin [.agg #[.int .i64 3, .int .i64 0, .int .i64 0, .int .i64 0, .string ByteArray.empty, .int .i64 0, .int .i64 0, .int .i64 0, .int .i64 0, .string ByteArray.empty, .int .i64 0, (.slice none 0 0), .int .i64 0, .string ((⟨#[97, 116, 116, 101, 109, 112, 116, 32, 116, 111, 32, 103, 101, 116, 32, 108, 101, 110, 103, 116, 104, 32, 111, 102, 32, 97, 32]⟩ ++ (typeB v.kind)) ++ ⟨#[32, 118, 97, 108, 117, 101]⟩)]] (own VlT (.slice none 0 0) [] :: rhA b st :: F) (SI.agg 4 41 3 SI.nil) (fun _ h => h.re [0, 1] [2, 2, 2]) ⟨(.slice none 0 0), by rw [hp]; rfl, by rw [hp]; rfl⟩
end Go.Proofs.YtplkkhpokodbmaaGreatDoor
end
section
set_option linter.unusedSimpArgs false
set_option linter.unusedVariables false
set_option maxRecDepth 100000
set_option maxHeartbeats 2000000
namespace Go.Proofs.YtplkkhpokodbmaaGreatDoor
open Go.Hp Go.J Go.S
open Go.Mem (Ty KTy blk elemAt pre suf blk_pre blk_suf aget aset strK aggDesc)
open Go.Mem (adel apos aget_aset aget_adel)
theorem values_s {Z : Zone} {F : List Asr} {av bv : Value} {L : List Vl} : SF Tryz.prog 33 #[av, bv] Z (own VlT av L :: own VlT bv L :: F) fun r Bs => r = .bool true ∧ Bs = own VlT av L :: own VlT bv L :: F := by
 refine sf_enter Tryz.func33 26 [(0, av), (1, bv)] (fun w0 => ?_)
 refine k_fact (fun H h => ((Acc.own (T := VlT) (L := L) 0 rfl) H h).len_le) (fun lA => ?_)
 refine k_sr ?_
 refine sp (.bool false) ?_
 refine s_nt ?_
 refine k_seq ?_
 refine k_sr ?_
 refine sp av ?_
 refine s_lt (t_len VlT_ok Tryz.underlying33 (.own 0)) ?_
 refine sp bv ?_
 refine s_lt (t_len VlT_ok Tryz.underlying33 (.own 1)) ?_
 refine s_lt (Lt.to t_cmp (congrArg Value.bool (decide_eq_false (fun h => h rfl) : (decide ((L.length : Int) ≠ (L.length : Int))) = false))) ?_
 refine s_nt ?_
 refine k_false ?_
 refine k_st ?_
 refine k_seq ?_
 refine k_sr ?_
 refine sp (.int .i64 0) ?_
 refine s_nt ?_
 refine k_block ?_
 refine k_loop (ι := Nat) (fun i => i ≤ L.length) (fun i => [(0, av), (1, bv), (5, .int .i64 (i : Int))]) (fun i => own VlT av L :: own VlT bv L :: F) (fun i => L.length - i) 0 (by omega) (sub_of rfl ⟨⟨rfl, rfl⟩, ⟨⟨rfl, rfl⟩, ⟨⟨rfl, rfl⟩, trivial⟩⟩⟩) (fun _ h => h.re [0, 0] []) ?_
 rintro i hi1
 show SK _ _ _ _ _ [(0, av), (1, bv), (5, .int .i64 (i : Int))] _ (own VlT av L :: own VlT bv L :: F)
 refine k_seq ?_
 refine k_sr ?_
 refine sp (.int .i64 (i : Int)) ?_
 refine sp av ?_
 refine s_lt (t_len VlT_ok Tryz.underlying33 (.own 0)) ?_
 refine s_lt t_cmp ?_
 refine s_nt ?_
 refine k_cond (decide ((i : Int) < (L.length : Int))) (fun c2 => ?_) (fun c2 => ?_)
 ·
  have p3 := of_decide_eq_true c2
  refine k_st ?_
  refine k_seq ?_
  refine k_block ?_
  refine k_seq ?_
  refine k_draw ?_
  refine sp av ?_
  refine sp (.int .i64 (i : Int)) ?_
  refine s_lt (t_index VlT_ok Tryz.underlying33 (.own 0) (i : Int) i (by omega) (by (try simp only [lnm]); omega) (by omega)) ?_
  obtain ⟨y4, hy5⟩ : ∃ y, L[i]? = some y := ⟨_, List.getElem?_eq_getElem (by (try simp only [lnm]); omega)⟩
  refine s_lt (t_loadE VlT_ok (.own 0) hy5) ?_
  refine sp bv ?_
  refine sp (.int .i64 (i : Int)) ?_
  refine s_lt (t_index VlT_ok Tryz.underlying33 (.own 1) (i : Int) i (by omega) (by (try simp only [lnm]); omega) (by omega)) ?_
  refine s_lt (t_loadE VlT_ok (.own 1) hy5) ?_
  refine s_lt (Lt.to (t_eqS (fun w => (eqVlT y4 y4 w).2)) (congrArg Value.bool ((congrArg Bool.not (decide_eq_true rfl : (decide (y4 = y4)) = true)).trans rfl : (!(decide (y4 = y4))) = false))) ?_
  refine s_nil ?_
  refine x_dynS (fun _ h => by kernel_rfl) ?_
  refine xs_then ?_
  refine k_false ?_
  refine k_skip ?_
  refine xs_block ?_
  refine xs_then ?_
  refine k_reg ?_
  refine sp (.int .i64 (i : Int)) ?_
  refine s_lt (t_add (i : Int) 1 (by (try simp only [lnm]); omega)) ?_
  refine sp (.int .i64 ((i : Int) + 1)) ?_
  refine s_nil ?_
  exact xs_round (i + 1) (by omega) (by omega) (sub_of rfl ⟨⟨rfl, rfl⟩, ⟨⟨rfl, rfl⟩, ⟨⟨rfl, rfl⟩, trivial⟩⟩⟩) (fun _ h => h.re [0, 0] [])
 ·
  have p6 := of_decide_eq_false c2
  refine k_exit ?_
  refine xs_exit ?_
  refine xs_exit ?_
  refine xs_here ?_
  refine xs_then ?_
  refine k_sr ?_
  refine sp (.bool true) ?_
  refine s_nt ?_
  refine k_ret ?_
  exact xs_fin [.bool true] (own VlT av L :: own VlT bv L :: F) (SI.tmp 4 SI.nil) (fun _ h => h.re [0, 0] []) ⟨rfl, rfl⟩
theorem same_s {Z : Zone} {F : List Asr} (x : Nd) {av bv : Value} : SF Tryz.prog 9 #[x.w av, x.w bv] Z (own VlT av x.args :: own VlT bv x.args :: F) fun r Bs => r = .bool true ∧ Bs = own VlT av x.args :: own VlT bv x.args :: F := by
 refine sf_enter Tryz.func9 45 [(0, .agg #[.int .i64 x.kind, .int .i64 x.val.kind, .int .i64 x.val.p, .int .i64 x.val.q, .string x.val.str, .int .i64 x.val.ref, .int .i64 x.fn.kind, .int .i64 x.fn.p, .int .i64 x.fn.q, .string x.fn.str, .int .i64 x.fn.ref, av, .int .i64 x.after, .string x.str]), (1, .agg #[.int .i64 x.kind, .int .i64 x.val.kind, .int .i64 x.val.p, .int .i64 x.val.q, .string x.val.str, .int .i64 x.val.ref, .int .i64 x.fn.kind, .int .i64 x.fn.p, .int .i64 x.fn.q, .string x.fn.str, .int .i64 x.fn.ref, bv, .int .i64 x.after, .string x.str])] (fun w0 => ?_)
 refine k_fact (fun H h => ((Acc.own (T := VlT) (L := x.args) 0 rfl) H h).form) (fun hfav => ?_)
 refine k_fact (fun H h => ((Acc.own (T := VlT) (L := x.args) 1 rfl) H h).form) (fun hfbv => ?_)
 refine k_sr ?_
 refine s_box #[.int .i64 x.kind, .int .i64 x.val.kind, .int .i64 x.val.p, .int .i64 x.val.q, .string x.val.str, .int .i64 x.val.ref, .int .i64 x.fn.kind, .int .i64 x.fn.p, .int .i64 x.fn.q, .string x.fn.str, .int .i64 x.fn.ref, av, .int .i64 x.after, .string x.str] (fun g1 => ?_)
 refine s_box #[.int .i64 x.kind, .int .i64 x.val.kind, .int .i64 x.val.p, .int .i64 x.val.q, .string x.val.str, .int .i64 x.val.ref, .int .i64 x.fn.kind, .int .i64 x.fn.p, .int .i64 x.fn.q, .string x.fn.str, .int .i64 x.fn.ref, bv, .int .i64 x.after, .string x.str] (fun g2 => ?_)
 refine sp (.bool false) ?_
 refine s_nr ?_
 refine sp (pB g1 0) ?_
 refine s_lt (t_load 1 (.int .i64 x.kind)) ?_
 refine sp (pB g2 0) ?_
 refine s_lt (t_load 0 (.int .i64 x.kind)) ?_
 refine s_lt (Lt.to t_cmp (congrArg Value.bool (decide_eq_true rfl : (decide (x.kind = x.kind)) = true))) ?_
 refine sp (.bool true) ?_
 refine sp (pB g1 1) ?_
 refine s_lt (t_loadA 1 #[.int .i64 x.val.kind, .int .i64 x.val.p, .int .i64 x.val.q, .string x.val.str, .int .i64 x.val.ref]) ?_
 refine sp (pB g2 1) ?_
 refine s_lt (t_loadA 0 #[.int .i64 x.val.kind, .int .i64 x.val.p, .int .i64 x.val.q, .string x.val.str, .int .i64 x.val.ref]) ?_
 refine s_lt (Lt.to (t_eqS (fun w => (eqVlT x.val x.val w).1)) (congrArg Value.bool (decide_eq_true rfl : (decide (x.val = x.val)) = true))) ?_
 refine sp (.bool true) ?_
 refine sp (.bool true) ?_
 refine sp (pB g1 6) ?_
 refine s_lt (t_loadA 1 #[.int .i64 x.fn.kind, .int .i64 x.fn.p, .int .i64 x.fn.q, .string x.fn.str, .int .i64 x.fn.ref]) ?_
 refine sp (pB g2 6) ?_
 refine s_lt (t_loadA 0 #[.int .i64 x.fn.kind, .int .i64 x.fn.p, .int .i64 x.fn.q, .string x.fn.str, .int .i64 x.fn.ref]) ?_
 refine s_lt (Lt.to (t_eqS (fun w => (eqVlT x.fn x.fn w).1)) (congrArg Value.bool (decide_eq_true rfl : (decide (x.fn = x.fn)) = true))) ?_
 refine sp (.bool true) ?_
 refine sp (.bool true) ?_
 refine sp (pB g1 12) ?_
 refine s_lt (t_load 1 (.int .i64 x.after)) ?_
 refine sp (pB g2 12) ?_
 refine s_lt (t_load 0 (.int .i64 x.after)) ?_
 refine s_lt (Lt.to t_cmp (congrArg Value.bool (decide_eq_true rfl : (decide (x.after = x.after)) = true))) ?_
 refine sp (.bool true) ?_
 refine sp (.bool true) ?_
 refine sp (pB g1 13) ?_
 refine s_lt (t_load 1 (.string x.str)) ?_
 refine sp (pB g2 13) ?_
 refine s_lt (t_load 0 (.string x.str)) ?_
 refine s_lt (Lt.to t_cmpS (congrArg Value.bool (decide_eq_true rfl : (decide (x.str = x.str)) = true))) ?_
 refine sp (.bool true) ?_
 refine sp (.bool true) ?_
 refine sp (pB g1 11) ?_
 refine s_lt (t_load 1 av) ?_
 refine sp (pB g2 11) ?_
 refine s_lt (t_load 0 bv) ?_
 refine s_call [2, 2] (values_s (L := x.args)) ?_
 rintro _ _ ⟨rfl, rfl⟩
 refine sp (.bool true) ?_
 refine sp (.bool true) ?_
 refine s_nt ?_
 refine k_ret ?_
 exact xs_fin [.bool true] (own VlT av x.args :: own VlT bv x.args :: F) (SI.tmp 4 SI.nil) (fun _ h => h.re [0, 0] [2, 2]) ⟨rfl, rfl⟩
theorem mst_vals (l : List Opc) : ∀ i : Nat, i ≤ 100 → ∀ y ∈ (mst l i).2, 0 ≤ y.ref ∧ y.ref ≤ 1000 ∧ y.str.size = 0
  | 0, _, y, hy => by cases hy
  | i + 1, hi, y, hy => by
    have ih := mst_vals l i (by omega)
    have hsm := (mst_good l i).2.1.len
    have hz : 0 ≤ zVl.ref ∧ zVl.ref ≤ 1000 ∧ zVl.str.size = 0 := by decide
    have hm : ∀ kd, 0 ≤ (hmakeV (mst l i).1 kd).ref ∧ (hmakeV (mst l i).1 kd).ref ≤ 1000 ∧ (hmakeV (mst l i).1 kd).str.size = 0 := fun kd => by
      unfold hmakeV
      split
      · exact hz
      · exact ⟨by show (0 : Int) ≤ (_ : Int) + 1; omega, by show ((mst l i).1.objs.length : Int) + 1 ≤ 1000; omega, rfl⟩
    have hs : ∀ (p : Prop) [Decidable p] (v : Vl), (0 ≤ v.ref ∧ v.ref ≤ 1000 ∧ v.str.size = 0) → y ∈ (if p then (mst l i).2 ++ [v] else (mst l i).2) → 0 ≤ y.ref ∧ y.ref ≤ 1000 ∧ y.str.size = 0 := fun p _ v hv h => by
      split at h
      · rcases List.mem_append.1 h with h | h
        · exact ih y h
        · rw [List.mem_singleton.1 h]; exact hv
      · exact ih y h
    rw [mst] at hy
    split at hy
    · unfold mstep at hy
      split at hy
      · exact hs _ _ (hm 4) hy
      split at hy
      · refine hs _ _ ?_ hy
        unfold hdataV
        split
        · exact hz
        · exact hm 8
      split at hy
      · exact hs _ _ (hm 5) hy
      split at hy
      · exact ih y hy
      · exact hs _ _ hz hy
    · exact ih y hy
theorem ofS_rng {l : List Opc} {v : Spc} (h0 : -9223372036854775808 ≤ v.v.ref) (h1 : v.v.ref ≤ 9223372036854775807) (h2 : (v.v.str.size : Int) ≤ 5000) : -9223372036854775808 ≤ (ofS (made l).2 v).ref ∧ (ofS (made l).2 v).ref ≤ 9223372036854775807 ∧ ((ofS (made l).2 v).str.size : Int) ≤ 4611686018427387904 := by
  unfold ofS
  split
  · cases hx : (made l).2[(Int.tmod v.obj ((made l).2.length : Int)).toNat]? with
    | none => exact ⟨by decide, by decide, by decide⟩
    | some y =>
      obtain ⟨a, b, c⟩ := mst_vals l _ (by omega) y (List.mem_of_getElem? hx)
      exact ⟨by show _ ≤ y.ref; omega, by show y.ref ≤ _; omega, by show (y.str.size : Int) ≤ _; omega⟩
  · exact ⟨h0, h1, by omega⟩
theorem text_w {Z : Zone} (ht : KnTab Z) {lv : Value} {l : List Opc} (hl0 : Kn Z OpT lv l) (v : Spc) (hr : -9223372036854775808 ≤ v.v.ref ∧ v.v.ref ≤ 9223372036854775807) : SF Tryz.prog 3 #[lv, v.w] Z [] fun r Bs => r = .bool true ∧ Bs = [] := by
 refine sf_enter Tryz.func3 47 [(0, lv), (1, .agg #[.int .i64 v.v.kind, .int .i64 v.v.p, .int .i64 v.v.q, .string v.v.str, .int .i64 v.v.ref, .int .i64 v.obj])] (fun w0 => ?_)
 refine k_sr ?_
 refine s_box #[.int .i64 v.v.kind, .int .i64 v.v.p, .int .i64 v.v.q, .string v.v.str, .int .i64 v.v.ref, .int .i64 v.obj] (fun g1 => ?_)
 refine sp (.bool false) ?_
 refine s_nt ?_
 refine k_seq ?_
 refine k_sr ?_
 refine sp lv ?_
 refine s_lt (t_loadA 0 #[.int .i64 v.v.kind, .int .i64 v.v.p, .int .i64 v.v.q, .string v.v.str, .int .i64 v.v.ref, .int .i64 v.obj]) ?_
 refine s_buildSlice (e := 28) [(0, .agg #[.int .i64 v.v.kind, .int .i64 v.v.p, .int .i64 v.v.q, .string v.v.str, .int .i64 v.v.ref, .int .i64 v.obj])] #[.int .i64 v.v.kind, .int .i64 v.v.p, .int .i64 v.v.q, .string v.v.str, .int .i64 v.v.ref, .int .i64 v.obj] (fun g2 => ?_) (hb := by kernel_rfl)
 refine s_mem (fun _ h => Holds.slice 0 h SpT_ok [v]) ?_
 refine s_call [0] (large_s (M := [v]) hl0 (by (try simp only [lnm]); omega)) ?_
 rintro _ _ ⟨lg3, rfl, hlg4, rfl⟩
 refine s_nt ?_
 refine k_cond lg3 (fun c5 => ?_) (fun c5 => ?_)
 ·
  refine k_sr ?_
  refine s_vcall (fun _ h => lives_s) ?_
  rintro _ rfl
  refine sp (.bool true) ?_
  refine s_nt ?_
  refine k_ret ?_
  refine xs_ret ?_
  exact xs_fin [.bool true] [] (SI.tmp 4 SI.nil) (fun _ h => h.re [] [0]) ⟨rfl, rfl⟩
 ·
  refine k_st ?_
  refine k_sr ?_
  refine sp lv ?_
  refine s_call [] (made_s hl0) ?_
  rintro _ _ ⟨hb6, gb7, lx8, rfl, rfl⟩
  refine s_fact (fun H h => ((Acc.own (T := VlT) (L := (made l).2) 2 rfl) H h).form) (fun hf9 => ?_)
  obtain ⟨hinv, hsm, hll⟩ := made_good l
  refine sp (.tuple #[.agg #[pB hb6 0, pB gb7 0, lx8], .bool true]) ?_
  refine sp (.agg #[pB hb6 0, pB gb7 0, lx8]) ?_
  refine sp (.bool true) ?_
  refine s_alloc (.agg #[.pointer none, .pointer none, (.slice none 0 0)]) #[.pointer none, .pointer none, (.slice none 0 0)] (fun g10 => ?_)
  refine s_store (u := .agg #[pB hb6 0, pB gb7 0, lx8]) (m := 3) 0 #[pB hb6 0, pB gb7 0, lx8] ?_ (hm := by (obtain ⟨_, _, e⟩ := hf9; rw [e]; rfl)) (h1 := by (obtain ⟨_, _, e⟩ := hf9; rw [e]; rfl)) (ha' := by (obtain ⟨_, _, e⟩ := hf9; rw [e]; rfl))
  refine sp (.bool true) ?_
  refine s_nr ?_
  refine s_lt (t_loadA 0 #[pB hb6 0, pB gb7 0, lx8]) ?_
  refine s_lt (t_loadA 4 #[.int .i64 v.v.kind, .int .i64 v.v.p, .int .i64 v.v.q, .string v.v.str, .int .i64 v.v.ref, .int .i64 v.obj]) ?_
  refine s_call [3] (of_s (L := (made l).2) (by (try simp only [lnm]); omega) v) ?_
  rintro _ _ ⟨rfl, rfl⟩
  refine s_alloc (.agg #[.int .i64 0, .int .i64 0, .int .i64 0, .string ByteArray.empty, .int .i64 0]) #[.int .i64 0, .int .i64 0, .int .i64 0, .string ByteArray.empty, .int .i64 0] (fun g11 => ?_)
  refine s_store 0 #[.int .i64 ((ofS ((made l).2) v).kind), .int .i64 ((ofS ((made l).2) v).p), .int .i64 ((ofS ((made l).2) v).q), .string ((ofS ((made l).2) v).str), .int .i64 ((ofS ((made l).2) v).ref)] ?_
  refine s_nt ?_
  refine k_seq ?_
  refine k_held [blkA g11 #[.int .i64 ((ofS ((made l).2) v).kind), .int .i64 ((ofS ((made l).2) v).p), .int .i64 ((ofS ((made l).2) v).q), .string ((ofS ((made l).2) v).str), .int .i64 ((ofS ((made l).2) v).ref)] 26, own VlT lx8 ((made l).2), blkA g10 #[pB hb6 0, pB gb7 0, lx8] 35, blkA g1 #[.int .i64 v.v.kind, .int .i64 v.v.p, .int .i64 v.v.q, .string v.v.str, .int .i64 v.v.ref, .int .i64 v.obj] 28] ?_
  refine hp_ 0 [0, 0, 0, 2] (.bool true) ?_
  refine hp_ 1 [0, 0, 0, 2] (.bool true) ?_
  refine hp_ 2 [0, 0, 0, 2] (pB g10 0) ?_
  refine h_l 3 rfl [0, 0, 0, 2] (fun _ => (t_load 2 (pB hb6 0))) ?_
  refine h_l 4 rfl [0, 0, 0, 2] (fun _ => (t_loadA 0 #[.int .i64 ((ofS ((made l).2) v).kind), .int .i64 ((ofS ((made l).2) v).p), .int .i64 ((ofS ((made l).2) v).q), .string ((ofS ((made l).2) v).str), .int .i64 ((ofS ((made l).2) v).ref)])) ?_
  refine hp_ 6 [0, 0, 0, 2] (pB g10 1) ?_
  refine h_l 7 rfl [0, 0, 0, 2] (fun _ => (t_load 2 (pB gb7 0))) ?_
  refine h_l 8 rfl [0, 0, 0, 2] (fun _ => (t_loadA 0 #[.int .i64 ((ofS ((made l).2) v).kind), .int .i64 ((ofS ((made l).2) v).p), .int .i64 ((ofS ((made l).2) v).q), .string ((ofS ((made l).2) v).str), .int .i64 ((ofS ((made l).2) v).ref)])) ?_
  refine h_stepS 5 ?_
  have hrx13 := ofS_rng (l := l) (v := v) hr.1 hr.2 (hlg4 c5 v (List.mem_cons_self ..))
  refine s_call [3] (mtext_s (st := (made l).1) hsm (by omega) ht (made_nm l) (ofS ((made l).2) v) hrx13.1 hrx13.2.1 hrx13.2.2) ?_
  rintro _ _ ⟨av12, rfl, rfl⟩
  refine s_fact (fun H h => ((Acc.own (T := VlT) (L := (txtN ((made l).1) (ofS ((made l).2) v)).args) 0 rfl) H h).form) (fun hf14 => ?_)
  refine s_nil (xs_held [2, 2, 2, 3] ?_)
  refine h_stepS 9 ?_
  have hrx16 := ofS_rng (l := l) (v := v) hr.1 hr.2 (hlg4 c5 v (List.mem_cons_self ..))
  refine s_call [5] (rtxt_s (st := (made l).1) hsm (by omega) (made_nm l) (ofS ((made l).2) v) hrx16.1 hrx16.2.1 hrx16.2.2) ?_
  rintro _ _ ⟨av15, rfl, rfl⟩
  refine s_fact (fun H h => ((Acc.own (T := VlT) (L := (txtN ((made l).1) (ofS ((made l).2) v)).args) 0 rfl) H h).form) (fun hf17 => ?_)
  refine s_nil (xs_held [4, 4, 4, 4] ?_)
  refine h_stepS 10 ?_
  refine s_call [2, 0] (same_s (txtN ((made l).1) (ofS ((made l).2) v))) ?_
  rintro _ _ ⟨rfl, rfl⟩
  refine s_nil (xs_held [4, 4, 4, 4] ?_)
  refine hp_ 11 [4, 4, 4, 4] (.bool true) ?_
  refine hp_ 12 [4, 4, 4, 4] (.bool true) ?_
  refine hp_ 13 [4, 4, 4, 4] (pB g10 0) ?_
  refine h_l 14 rfl [4, 4, 4, 4] (fun _ => (t_load 2 (pB hb6 0))) ?_
  refine h_l 15 rfl [4, 4, 4, 4] (fun _ => (t_loadA 0 #[.int .i64 ((ofS ((made l).2) v).kind), .int .i64 ((ofS ((made l).2) v).p), .int .i64 ((ofS ((made l).2) v).q), .string ((ofS ((made l).2) v).str), .int .i64 ((ofS ((made l).2) v).ref)])) ?_
  refine hp_ 17 [4, 4, 4, 4] (pB g10 1) ?_
  refine h_l 18 rfl [4, 4, 4, 4] (fun _ => (t_load 2 (pB gb7 0))) ?_
  refine h_l 19 rfl [4, 4, 4, 4] (fun _ => (t_loadA 0 #[.int .i64 ((ofS ((made l).2) v).kind), .int .i64 ((ofS ((made l).2) v).p), .int .i64 ((ofS ((made l).2) v).q), .string ((ofS ((made l).2) v).str), .int .i64 ((ofS ((made l).2) v).ref)])) ?_
  refine h_stepS 16 ?_
  refine s_call [3] (mlen_s (st := (made l).1) hsm (by omega) (ofS ((made l).2) v)) ?_
  rintro _ _ ⟨av18, rfl, rfl⟩
  refine s_fact (fun H h => ((Acc.own (T := VlT) (L := (lenN ((made l).1) (ofS ((made l).2) v)).args) 0 rfl) H h).form) (fun hf19 => ?_)
  refine s_nil (xs_held [5, 5, 5, 5] ?_)
  refine h_stepS 20 ?_
  refine s_call [4] (rvlen_s (st := (made l).1) hsm (by omega) (ofS ((made l).2) v)) ?_
  rintro _ _ ⟨av20, rfl, rfl⟩
  refine s_fact (fun H h => ((Acc.own (T := VlT) (L := (lenN ((made l).1) (ofS ((made l).2) v)).args) 0 rfl) H h).form) (fun hf21 => ?_)
  refine s_nil (xs_held [6, 6, 6, 6] ?_)
  refine h_stepS 21 ?_
  refine s_call [2, 0] (same_s (lenN ((made l).1) (ofS ((made l).2) v))) ?_
  rintro _ _ ⟨rfl, rfl⟩
  refine s_nil (xs_held [6, 6, 6, 6] ?_)
  refine hp_ 22 [6, 6, 6, 6] (.bool true) ?_
  refine hp_ 23 [6, 6, 6, 6] (.bool true) ?_
  refine h_stepS 24 ?_
  refine s_vcall (fun _ h => lives_s) ?_
  rintro _ rfl
  refine s_nil (xs_held [6, 6, 6, 6] ?_)
  refine hp_ 25 [6, 6, 6, 6] (.bool true) ?_
  refine hp_ 26 [6, 6, 6, 6] (.bool true) ?_
  refine h_doneS ?_
  refine xs_then ?_
  refine k_ret ?_
  exact xs_fin [.bool true] [] (SI.tmp 4 SI.nil) (fun _ h => h.re [] [0, 0, 0, 0, 0, 0, 0, 0, 0, 0]) ⟨rfl, rfl⟩
end Go.Proofs.YtplkkhpokodbmaaGreatDoor
end
section
set_option linter.unusedSimpArgs false
set_option linter.unusedVariables false
namespace Go.J
open Go.ChangeShapes Go.WideShapes Go.RowKit Go.Hp
open Go.Mem (Ty)
section
variable {H : Type} {enc : TypeId × Value → H} {P : Program} {W : World}
abbrev Tr (enc : TypeId × Value → H) (P : Program) (W : World) (t : TypeId) (cs : List Value) : Prop := ∃ n x, DataW.trod enc P W 0 (fun _ => true) true n t cs = some x
theorem tr_len {t : TypeId} {fs : Array Field} {cs : List Value} (hu : P.underlying t = some (.struct fs)) (h : Tr enc P W t cs) : cs.length = P.cellsOf t := by
  obtain ⟨fuel, x, hx⟩ := h
  obtain ⟨xs, n, _, _, hlen, hxl, hall⟩ := DataW.trod_struct hu hx
  exact hlen
theorem tr_int {t : TypeId} {k : IntKind} {cs : List Value} (hu : P.underlying t = some (.int k)) (h : Tr enc P W t cs) : ∃ n, cs = [.int k n] ∧ (Lit.int k n).wf = true := by
  obtain ⟨fuel, x, hx⟩ := h
  obtain ⟨n, h1, _, h3⟩ := DataW.trod_int hu hx
  exact ⟨n, h1, h3⟩
end
end Go.J
end
section
set_option linter.unusedSimpArgs false
set_option linter.unusedVariables false
namespace Go.J
open Go.ChangeShapes Go.WideShapes Go.RowKit Go.Hp
open Go.Mem (Ty)
section
variable {H : Type} {enc : TypeId × Value → H} {P : Program} {W : World}
abbrev TrS (enc : TypeId × Value → H) (P : Program) (W : World) (t : TypeId) (cs : List Value) : Prop := ∃ n x, DataW.trod enc P W 0 (fun _ => true) true n t cs = some x ∧ (x.1.weights P t).all (· ≤ reachBytes) = true
theorem TrS.tr {t : TypeId} {cs : List Value} (h : TrS enc P W t cs) : Tr enc P W t cs := by obtain ⟨n, x, h, _⟩ := h; exact ⟨n, x, h⟩
theorem each_at {p : Nat → Bool} : ∀ {ts : List TypeId} {ds : List (DataW H)} {j : Nat} {t : TypeId} {d : DataW H}, (DataW.weightsEach P ts ds).all p = true → ts[j]? = some t → ds[j]? = some d → (d.weights P t).all p = true
  | t :: ts, d :: ds, 0, _, _, h, rfl, rfl => by
    rw [DataW.weightsEach, List.all_append, Bool.and_eq_true] at h; exact h.1
  | t :: ts, d :: ds, j + 1, _, _, h, h1, h2 => by
    rw [DataW.weightsEach, List.all_append, Bool.and_eq_true] at h; exact each_at h.2 h1 h2
  | [], _, _, _, _, _, h, _ => by simp at h
  | _ :: _, [], _, _, _, _, _, h => by simp at h
theorem all_at {p : Nat → Bool} {e : TypeId} : ∀ {ds : List (DataW H)} {j : Nat} {d : DataW H}, (DataW.weightsAll P e ds).all p = true → ds[j]? = some d → (d.weights P e).all p = true
  | d :: ds, 0, _, h, rfl => by
    rw [DataW.weightsAll, List.all_append, Bool.and_eq_true] at h; exact h.1
  | d :: ds, j + 1, _, h, h2 => by
    rw [DataW.weightsAll, List.all_append, Bool.and_eq_true] at h; exact all_at h.2 h2
  | [], _, _, _, h => by simp at h
/-- An argument, as the row hands it. -/
theorem trs_arg {ts : List TypeId} {ds gs : List (DataW H)} {us : List TypeId} {j : Nat} {t : TypeId} {v : Value} {d : DataW H} {p : List MemPlace} (hw : (DataW.weightsEach P (ts ++ us) (ds ++ gs)).all (· ≤ reachBytes) = true) (ht : (ts ++ us)[j]? = some t) (hd : (ds ++ gs)[j]? = some d)
    (h : DataW.Trod enc P W 0 (fun _ => true) true t v d p) : TrS enc P W t v.cells.toList := by
  obtain ⟨n, h⟩ := h
  exact ⟨n, _, h, each_at hw ht hd⟩
theorem trs_field {t : TypeId} {fs : Array Field} {cs : List Value} (hu : P.underlying t = some (.struct fs)) (h : TrS enc P W t cs) (j : Nat) (u : TypeId) (off m : Nat) (hf : (fs[j]?).map (fun f => (f.type, f.offset)) = some (u, off) := by rfl) (hc : P.cellsOf u = m := by kernel_rfl) : TrS enc P W u ((cs.drop off).take m) := by
  obtain ⟨fuel, x, hx, hw⟩ := h
  obtain ⟨xs, n, _, rfl, hlen, hxl, hall⟩ := DataW.trod_struct hu hx
  cases hfj : fs[j]? with
  | none => rw [hfj] at hf; cases hf
  | some f =>
    rw [hfj] at hf
    injection hf with hf; injection hf with e1 e2
    subst e1 e2 hc
    have h2 := hall j f hfj
    have hj : j < xs.length := by rw [hxl]; exact (Array.getElem?_eq_some_iff.1 hfj).1
    rw [List.getElem?_eq_getElem hj] at h2
    refine ⟨n, _, h2, ?_⟩
    simp only [DataW.weights, hu] at hw
    exact each_at hw (by rw [List.getElem?_map, Array.getElem?_toList, hfj]; rfl) (by rw [List.getElem?_map, List.getElem?_eq_getElem hj]; rfl)
theorem trs_len {t : TypeId} {fs : Array Field} {cs : List Value} (hu : P.underlying t = some (.struct fs)) (h : TrS enc P W t cs) (m : Nat) (hc : P.cellsOf t = m := by kernel_rfl) : cs.length = m := (tr_len hu h.tr).trans hc
theorem wf64 {n : Int} (h : (Lit.int .i64 n).wf = true) : -9223372036854775808 ≤ n ∧ n ≤ 9223372036854775807 := by
  simp only [Lit.wf, Bool.and_eq_true, decide_eq_true_eq] at h
  have e1 : IntKind.i64.min = -9223372036854775808 := by decide
  have e2 : IntKind.i64.max = 9223372036854775807 := by decide
  omega
theorem trs_int {t : TypeId} {cs : List Value} (hu : P.underlying t = some (.int .i64)) (h : TrS enc P W t cs) : ∃ n, cs = [.int .i64 n] ∧ -9223372036854775808 ≤ n ∧ n ≤ 9223372036854775807 := by
  obtain ⟨n, h1, h2⟩ := tr_int hu h.tr
  exact ⟨n, h1, wf64 h2⟩
theorem trs_str {t : TypeId} {cs : List Value} (hu : P.underlying t = some .string) (h : TrS enc P W t cs) : ∃ s, cs = [.string s] ∧ (s.size : Int) ≤ 140737488351232 := by
  obtain ⟨fuel, x, hx, hw⟩ := h
  obtain ⟨s, h1, rfl, _⟩ := DataW.trod_string hu hx
  refine ⟨s, h1, ?_⟩
  simp only [DataW.weights, List.all_cons, List.all_nil, Bool.and_true, decide_eq_true_eq] at hw
  have e : reachBytes = 140737488351232 := rfl
  have e2 : s.data.toList.length = s.size := rfl
  omega
/-- A slice that is read: its elements, and that each of them is read. -/
theorem trs_slice {α : Type} [Inhabited α] {T : Ty α} (hT : T.Ok P) {t : TypeId} {cs : List Value} (ht : P.underlying t = some (.slice T.id)) (hc : P.cellsOf T.id = T.size)
    {Q : α → Prop} (hdec : ∀ cs, TrS enc P W T.id cs → ∃ x, T.enc x = cs ∧ Q x) (h : TrS enc P W t cs) : ∃ v L, cs = [v] ∧ Sl W.heap T v L ∧ (∀ y ∈ L, Q y) ∧ L.length * P.bytesOf T.id ≤ 140737488351232 := by
  obtain ⟨fuel, x, hf, hw⟩ := h
  rcases Deep.open_slice ht hf with ⟨h0, _⟩ | ⟨a, len0, cap, m, n, D, Pl, h0, _, hl, hm, hmm, ex, hx⟩
  · exact ⟨_, [], h0, .inl ⟨⟨none, rfl⟩, rfl⟩, by simp⟩
  simp only [if_true] at hmm
  subst hmm
  subst ex
  simp only [DataW.weights, ht, List.all_cons, List.all_append, Bool.and_eq_true, decide_eq_true_eq, List.length_map, List.length_range] at hw
  have hwD : ∀ i, i < m → ((D i).weights P T.id).all (· ≤ reachBytes) = true := fun i hi => by
    by_cases h : i < len0
    · exact all_at (j := i) hw.2.1 (by simp [h])
    · exact all_at (j := i - len0) hw.2.2 (by
        rw [List.getElem?_map, List.getElem?_range (by omega)]; simp; congr 1; omega)
  have hroom : len0 * P.bytesOf T.id ≤ 140737488351232 := Nat.le_trans (Nat.mul_le_mul_right _ (by omega)) hw.1
  have hpos := hT.pos
  rw [hc] at hx
  by_cases hcap : m = 0
  · subst hcap
    obtain rfl : len0 = 0 := by omega
    exact ⟨_, [], h0, .inl ⟨⟨some a, rfl⟩, rfl⟩, by simp⟩
  obtain ⟨g, off, spot⟩ := a
  have key : spot = none ∧ ∃ arr e fr, W.heap[g]? = some (.cells arr e fr) := by
    obtain ⟨cs', h1, h2⟩ := hx 0 (by omega)
    obtain ⟨_, hlen, hcell⟩ := World.cells?_some h1
    have h3 := hcell 0 hpos
    simp only [Nat.zero_mul, Addr.add, if_true] at h3
    have hne : cs'[0]? ≠ none := by rw [List.getElem?_eq_getElem (by omega)]; exact fun h => nomatch h
    unfold World.cell? at h3
    simp only at h3
    cases hg : W.heap[g]? with
    | none => rw [hg] at h3; simp only at h3; exact absurd h3.symm hne
    | some ob =>
      rw [hg] at h3
      cases ob <;> simp only at h3 <;> first | (exact absurd h3.symm hne) | skip
      rename_i arr e fr
      cases spot with
      | none => exact ⟨rfl, arr, e, fr, rfl⟩
      | some s => simp only [Option.isSome_some, if_true] at h3; exact absurd h3.symm hne
  obtain ⟨rfl, arr, e, fr, hg⟩ := key
  obtain ⟨X, hX⟩ := Deep.choose_lt (α := α) (p := fun i x => (∀ j u, (T.enc x)[j]? = some u → arr[off + i * T.size + j]? = some u) ∧ Q x) (fun i hi => by
    obtain ⟨cs', h1, h2⟩ := hx i hi
    obtain ⟨_, hlen, hcell⟩ := World.cells?_some h1
    obtain ⟨x, hx', hQ⟩ := hdec cs' ⟨_, _, h2, hwD i hi⟩
    refine ⟨x, fun j u hj => ?_, hQ⟩
    rw [hx'] at hj
    have hjl : j < T.size := by rw [← hlen]; exact (List.getElem?_eq_some_iff.1 hj).1
    have := hcell j hjl
    rw [Mem.addr_add, Mem.addr_add, cell_of_row W g _ arr e fr hg, hj] at this
    exact this)
  have hget : ∀ i j, i < m → j < T.size → ∃ u, (T.enc (X i))[j]? = some u ∧ arr[off + i * T.size + j]? = some u := fun i j hi hj => by
    have : j < (T.enc (X i)).length := by rw [hT.len]; exact hj
    exact ⟨_, List.getElem?_eq_getElem this, (hX i hi).1 j _ (List.getElem?_eq_getElem this)⟩
  refine ⟨_, (List.range len0).map X, h0, .inr ⟨g, off, m, arr, e, fr, by simp, hg, by simpa using hl, hm, ?_, ?_⟩, ?_, by simpa using hroom⟩
  · intro hcp
    obtain ⟨u, _, hu⟩ := hget (m - 1) (T.size - 1) (by omega) (by omega)
    have hlt := (Array.getElem?_eq_some_iff.1 hu).1
    have : m * T.size = (m - 1) * T.size + T.size := by rw [Nat.sub_mul]; have : T.size ≤ m * T.size := Nat.le_mul_of_pos_left _ hcp; omega
    omega
  · apply List.ext_getElem?
    intro q
    have hfl := hT.flat_len ((List.range len0).map X)
    simp only [List.length_map, List.length_range] at hfl ⊢
    by_cases hq : q < len0 * T.size
    · have hi : q / T.size < len0 := Nat.div_lt_of_lt_mul (by rw [Nat.mul_comm]; exact hq)
      have hj : q % T.size < T.size := Nat.mod_lt _ hpos
      have e1 : q = q / T.size * T.size + q % T.size := by rw [Nat.mul_comm]; exact (Nat.div_add_mod _ _).symm
      obtain ⟨u, h1, h2⟩ := hget (q / T.size) (q % T.size) (by omega) hj
      have hL : ((List.range len0).map X)[q / T.size]? = some (X (q / T.size)) := by simp [hi]
      have h3 := hT.flat_get hL hj
      rw [← e1, h1] at h3
      rw [h3, List.getElem?_take, if_pos hq, List.getElem?_drop, Array.getElem?_toList]
      rw [← h2]
      congr 1
      omega
    · rw [List.getElem?_eq_none (by simp; omega), List.getElem?_eq_none (by rw [hfl]; omega)]
  · intro y hy
    simp only [List.mem_map, List.mem_range] at hy
    obtain ⟨i, hi, rfl⟩ := hy
    exact (hX i (by omega)).2
end
end Go.J
end
section
set_option linter.unusedSimpArgs false
set_option linter.unusedVariables false
set_option maxRecDepth 100000
namespace Go.Proofs.YtplkkhpokodbmaaGreatDoor
open Go.ChangeShapes Go.WideShapes Go.ChangeAt Go.RowKit Go.Hp Go.J Go.S
instance : Inhabited Spc := ⟨⟨zVl, 0⟩⟩
instance : Inhabited Opc := ⟨⟨0, ⟨zVl, 0⟩, ⟨zVl, 0⟩, ⟨zVl, 0⟩⟩⟩
def okS (x : Spc) : Prop := -9223372036854775808 ≤ x.v.ref ∧ x.v.ref ≤ 9223372036854775807
def okO (x : Opc) : Prop := True
theorem openSp {H : Type} {enc : TypeId × Value → H} {W : World} {cs : List Value} (h : TrS enc Tryz.prog W 28 cs) : ∃ x, SpT.enc x = cs ∧ okS x := by
  have hl := trs_len Tryz.underlying28 h 6
  obtain ⟨x0, e0, b0⟩ := trs_int Tryz.underlying3 (trs_field Tryz.underlying26 (trs_field Tryz.underlying28 h 0 26 0 5) 0 3 0 1)
  obtain ⟨x1, e1, b1⟩ := trs_int Tryz.underlying3 (trs_field Tryz.underlying24 (trs_field Tryz.underlying26 (trs_field Tryz.underlying28 h 0 26 0 5) 1 24 1 2) 0 3 0 1)
  obtain ⟨x2, e2, b2⟩ := trs_int Tryz.underlying3 (trs_field Tryz.underlying24 (trs_field Tryz.underlying26 (trs_field Tryz.underlying28 h 0 26 0 5) 1 24 1 2) 1 3 1 1)
  obtain ⟨x3, e3, b3⟩ := trs_str Tryz.underlying9 (trs_field Tryz.underlying26 (trs_field Tryz.underlying28 h 0 26 0 5) 2 9 3 1)
  obtain ⟨x4, e4, b4⟩ := trs_int Tryz.underlying3 (trs_field Tryz.underlying26 (trs_field Tryz.underlying28 h 0 26 0 5) 3 3 4 1)
  obtain ⟨x5, e5, b5⟩ := trs_int Tryz.underlying3 (trs_field Tryz.underlying28 h 1 3 5 1)
  match cs, hl with
  | [c0, c1, c2, c3, c4, c5], _ =>
    obtain rfl : c0 = _ := (List.cons.inj (show [c0] = _ from e0)).1
    obtain rfl : c1 = _ := (List.cons.inj (show [c1] = _ from e1)).1
    obtain rfl : c2 = _ := (List.cons.inj (show [c2] = _ from e2)).1
    obtain rfl : c3 = _ := (List.cons.inj (show [c3] = _ from e3)).1
    obtain rfl : c4 = _ := (List.cons.inj (show [c4] = _ from e4)).1
    obtain rfl : c5 = _ := (List.cons.inj (show [c5] = _ from e5)).1
    exact ⟨⟨⟨x0, x1, x2, x3, x4⟩, x5⟩, rfl, ⟨b4.1, b4.2⟩⟩
theorem openOp {H : Type} {enc : TypeId × Value → H} {W : World} {cs : List Value} (h : TrS enc Tryz.prog W 54 cs) : ∃ x, OpT.enc x = cs ∧ okO x := by
  have hl := trs_len Tryz.underlying54 h 19
  obtain ⟨x0, e0, b0⟩ := trs_int Tryz.underlying3 (trs_field Tryz.underlying54 h 0 3 0 1)
  obtain ⟨x1, e1, b1⟩ := trs_int Tryz.underlying3 (trs_field Tryz.underlying26 (trs_field Tryz.underlying28 (trs_field Tryz.underlying54 h 1 28 1 6) 0 26 0 5) 0 3 0 1)
  obtain ⟨x2, e2, b2⟩ := trs_int Tryz.underlying3 (trs_field Tryz.underlying24 (trs_field Tryz.underlying26 (trs_field Tryz.underlying28 (trs_field Tryz.underlying54 h 1 28 1 6) 0 26 0 5) 1 24 1 2) 0 3 0 1)
  obtain ⟨x3, e3, b3⟩ := trs_int Tryz.underlying3 (trs_field Tryz.underlying24 (trs_field Tryz.underlying26 (trs_field Tryz.underlying28 (trs_field Tryz.underlying54 h 1 28 1 6) 0 26 0 5) 1 24 1 2) 1 3 1 1)
  obtain ⟨x4, e4, b4⟩ := trs_str Tryz.underlying9 (trs_field Tryz.underlying26 (trs_field Tryz.underlying28 (trs_field Tryz.underlying54 h 1 28 1 6) 0 26 0 5) 2 9 3 1)
  obtain ⟨x5, e5, b5⟩ := trs_int Tryz.underlying3 (trs_field Tryz.underlying26 (trs_field Tryz.underlying28 (trs_field Tryz.underlying54 h 1 28 1 6) 0 26 0 5) 3 3 4 1)
  obtain ⟨x6, e6, b6⟩ := trs_int Tryz.underlying3 (trs_field Tryz.underlying28 (trs_field Tryz.underlying54 h 1 28 1 6) 1 3 5 1)
  obtain ⟨x7, e7, b7⟩ := trs_int Tryz.underlying3 (trs_field Tryz.underlying26 (trs_field Tryz.underlying28 (trs_field Tryz.underlying54 h 2 28 7 6) 0 26 0 5) 0 3 0 1)
  obtain ⟨x8, e8, b8⟩ := trs_int Tryz.underlying3 (trs_field Tryz.underlying24 (trs_field Tryz.underlying26 (trs_field Tryz.underlying28 (trs_field Tryz.underlying54 h 2 28 7 6) 0 26 0 5) 1 24 1 2) 0 3 0 1)
  obtain ⟨x9, e9, b9⟩ := trs_int Tryz.underlying3 (trs_field Tryz.underlying24 (trs_field Tryz.underlying26 (trs_field Tryz.underlying28 (trs_field Tryz.underlying54 h 2 28 7 6) 0 26 0 5) 1 24 1 2) 1 3 1 1)
  obtain ⟨x10, e10, b10⟩ := trs_str Tryz.underlying9 (trs_field Tryz.underlying26 (trs_field Tryz.underlying28 (trs_field Tryz.underlying54 h 2 28 7 6) 0 26 0 5) 2 9 3 1)
  obtain ⟨x11, e11, b11⟩ := trs_int Tryz.underlying3 (trs_field Tryz.underlying26 (trs_field Tryz.underlying28 (trs_field Tryz.underlying54 h 2 28 7 6) 0 26 0 5) 3 3 4 1)
  obtain ⟨x12, e12, b12⟩ := trs_int Tryz.underlying3 (trs_field Tryz.underlying28 (trs_field Tryz.underlying54 h 2 28 7 6) 1 3 5 1)
  obtain ⟨x13, e13, b13⟩ := trs_int Tryz.underlying3 (trs_field Tryz.underlying26 (trs_field Tryz.underlying28 (trs_field Tryz.underlying54 h 3 28 13 6) 0 26 0 5) 0 3 0 1)
  obtain ⟨x14, e14, b14⟩ := trs_int Tryz.underlying3 (trs_field Tryz.underlying24 (trs_field Tryz.underlying26 (trs_field Tryz.underlying28 (trs_field Tryz.underlying54 h 3 28 13 6) 0 26 0 5) 1 24 1 2) 0 3 0 1)
  obtain ⟨x15, e15, b15⟩ := trs_int Tryz.underlying3 (trs_field Tryz.underlying24 (trs_field Tryz.underlying26 (trs_field Tryz.underlying28 (trs_field Tryz.underlying54 h 3 28 13 6) 0 26 0 5) 1 24 1 2) 1 3 1 1)
  obtain ⟨x16, e16, b16⟩ := trs_str Tryz.underlying9 (trs_field Tryz.underlying26 (trs_field Tryz.underlying28 (trs_field Tryz.underlying54 h 3 28 13 6) 0 26 0 5) 2 9 3 1)
  obtain ⟨x17, e17, b17⟩ := trs_int Tryz.underlying3 (trs_field Tryz.underlying26 (trs_field Tryz.underlying28 (trs_field Tryz.underlying54 h 3 28 13 6) 0 26 0 5) 3 3 4 1)
  obtain ⟨x18, e18, b18⟩ := trs_int Tryz.underlying3 (trs_field Tryz.underlying28 (trs_field Tryz.underlying54 h 3 28 13 6) 1 3 5 1)
  match cs, hl with
  | [c0, c1, c2, c3, c4, c5, c6, c7, c8, c9, c10, c11, c12, c13, c14, c15, c16, c17, c18], _ =>
    obtain rfl : c0 = _ := (List.cons.inj (show [c0] = _ from e0)).1
    obtain rfl : c1 = _ := (List.cons.inj (show [c1] = _ from e1)).1
    obtain rfl : c2 = _ := (List.cons.inj (show [c2] = _ from e2)).1
    obtain rfl : c3 = _ := (List.cons.inj (show [c3] = _ from e3)).1
    obtain rfl : c4 = _ := (List.cons.inj (show [c4] = _ from e4)).1
    obtain rfl : c5 = _ := (List.cons.inj (show [c5] = _ from e5)).1
    obtain rfl : c6 = _ := (List.cons.inj (show [c6] = _ from e6)).1
    obtain rfl : c7 = _ := (List.cons.inj (show [c7] = _ from e7)).1
    obtain rfl : c8 = _ := (List.cons.inj (show [c8] = _ from e8)).1
    obtain rfl : c9 = _ := (List.cons.inj (show [c9] = _ from e9)).1
    obtain rfl : c10 = _ := (List.cons.inj (show [c10] = _ from e10)).1
    obtain rfl : c11 = _ := (List.cons.inj (show [c11] = _ from e11)).1
    obtain rfl : c12 = _ := (List.cons.inj (show [c12] = _ from e12)).1
    obtain rfl : c13 = _ := (List.cons.inj (show [c13] = _ from e13)).1
    obtain rfl : c14 = _ := (List.cons.inj (show [c14] = _ from e14)).1
    obtain rfl : c15 = _ := (List.cons.inj (show [c15] = _ from e15)).1
    obtain rfl : c16 = _ := (List.cons.inj (show [c16] = _ from e16)).1
    obtain rfl : c17 = _ := (List.cons.inj (show [c17] = _ from e17)).1
    obtain rfl : c18 = _ := (List.cons.inj (show [c18] = _ from e18)).1
    exact ⟨⟨x0, ⟨⟨x1, x2, x3, x4, x5⟩, x6⟩, ⟨⟨x7, x8, x9, x10, x11⟩, x12⟩, ⟨⟨x13, x14, x15, x16, x17⟩, x18⟩⟩, rfl, trivial⟩
theorem openOps {H : Type} {enc : TypeId × Value → H} {W : World} {cs : List Value} (h : TrS enc Tryz.prog W 22 cs) : ∃ v L, cs = [v] ∧ Sl W.heap OpT v L ∧ (∀ y ∈ L, okO y) ∧ L.length * 176 ≤ 140737488351232 :=
  haveI : Inhabited Opc := ⟨OpT.zero⟩
  trs_slice OpT_ok Tryz.underlying22 (by kernel_rfl) (fun cs h => openOp h) h
theorem tab_of {W : World} (h : laidMetH Tryz.prog [("math/bits.deBruijn32tab", Rows.laid_math_bits_deBruijn32tab), ("math/bits.deBruijn64tab", Rows.laid_math_bits_deBruijn64tab), ("internal/strconv.uint64pow10", Rows.laid_internal_strconv_uint64pow10)] W) : KnTab (zoneOf W.heap) := by
  have h1 : Lib.TabIs Tryz.prog W "internal/strconv.uint64pow10" .u64 Lib.pow10Tab :=
    Lib.tabIs_of_head (rest := []) (g := 1) (t := 162) (e := 153) (n := 20) (by kernel_rfl) (by kernel_rfl) Tryz.underlying162 Tryz.underlying153 (by kernel_rfl) (by kernel_rfl) (laidMet.tail (laidMet.tail h))
  intro H hH w hw
  have hg : Tryz.prog.globalNamed "internal/strconv.uint64pow10" = some 1 := by kernel_rfl
  unfold Lib.TabIs World.var? at h1 ⊢
  rw [hg] at h1 ⊢
  simp only [Option.bind_some] at h1 ⊢
  have hlt : 1 < W.heap.size := by
    rcases Nat.lt_or_ge 1 W.heap.size with h | h
    · exact h
    · rw [Array.getElem?_eq_none h] at h1; cases h1
  rw [hw, (hH 1 hlt).1]
  exact h1
end Go.Proofs.YtplkkhpokodbmaaGreatDoor
end
section
set_option linter.unusedSimpArgs false
set_option linter.unusedVariables false
set_option maxRecDepth 100000
namespace Go.Proofs.YtplkkhpokodbmaaGreatDoor
open Go.ChangeShapes Go.WideShapes Go.ChangeAt Go.RowKit Go.Hp Go.J Go.S
theorem Tryz.own : ownKnob Tryz.prog.godebug = none := by kernel_rfl
theorem Tryz.laidOut : laidOutB Tryz.prog = true := by kernel_rfl
noncomputable def laidWorld (os : Os) : World :=
  { World.holding Tryz.prog os ⟨#[], #[], []⟩ with heap := ((((World.holding Tryz.prog os ⟨#[], #[], []⟩).heap.modify 1 fun
      | .cells _ t frozen => .cells #[.int .u64 1, .int .u64 10, .int .u64 100, .int .u64 1000, .int .u64 10000, .int .u64 100000, .int .u64 1000000, .int .u64 10000000, .int .u64 100000000, .int .u64 1000000000, .int .u64 10000000000, .int .u64 100000000000, .int .u64 1000000000000, .int .u64 10000000000000, .int .u64 100000000000000, .int .u64 1000000000000000, .int .u64 10000000000000000, .int .u64 100000000000000000, .int .u64 1000000000000000000, .int .u64 10000000000000000000] t frozen
      | o => o).modify 2 fun
      | .cells _ t frozen => .cells #[.int .u8 0, .int .u8 1, .int .u8 28, .int .u8 2, .int .u8 29, .int .u8 14, .int .u8 24, .int .u8 3, .int .u8 30, .int .u8 22, .int .u8 20, .int .u8 15, .int .u8 25, .int .u8 17, .int .u8 4, .int .u8 8, .int .u8 31, .int .u8 27, .int .u8 13, .int .u8 23, .int .u8 21, .int .u8 19, .int .u8 16, .int .u8 7, .int .u8 26, .int .u8 12, .int .u8 18, .int .u8 6, .int .u8 11, .int .u8 5, .int .u8 10, .int .u8 9] t frozen
      | o => o).modify 3 fun
      | .cells _ t frozen => .cells #[.int .u8 0, .int .u8 1, .int .u8 56, .int .u8 2, .int .u8 57, .int .u8 49, .int .u8 28, .int .u8 3, .int .u8 61, .int .u8 58, .int .u8 42, .int .u8 50, .int .u8 38, .int .u8 29, .int .u8 17, .int .u8 4, .int .u8 62, .int .u8 47, .int .u8 59, .int .u8 36, .int .u8 45, .int .u8 43, .int .u8 51, .int .u8 22, .int .u8 53, .int .u8 39, .int .u8 33, .int .u8 30, .int .u8 24, .int .u8 18, .int .u8 12, .int .u8 5, .int .u8 63, .int .u8 55, .int .u8 48, .int .u8 27, .int .u8 60, .int .u8 41, .int .u8 37, .int .u8 16, .int .u8 46, .int .u8 35, .int .u8 44, .int .u8 21, .int .u8 52, .int .u8 32, .int .u8 23, .int .u8 11, .int .u8 54, .int .u8 26, .int .u8 40, .int .u8 15, .int .u8 34, .int .u8 20, .int .u8 31, .int .u8 10, .int .u8 25, .int .u8 14, .int .u8 19, .int .u8 9, .int .u8 13, .int .u8 8, .int .u8 7, .int .u8 6] t frozen
      | o => o) }
end Go.Proofs.YtplkkhpokodbmaaGreatDoor
end
