/-
  Layer 15: needs, the texts of types. Each law says its conditions.
-/
import Derived.Test.YtplkkhpokodbmaaW8
set_option linter.unusedSimpArgs false
set_option linter.unusedVariables false
set_option maxRecDepth 100000
set_option maxHeartbeats 2000000
namespace Go.Proofs.Ytplkkhpokodbmaa
open Go.Hp Go.J Go.S
open Go.Mem (Ty KTy blk elemAt pre suf blk_pre blk_suf aget aset strK aggDesc)
open Go.Mem (adel apos aget_aset aget_adel)
def strW (s : ByteArray) : Value := .string s
def typeB (n : Int) : ByteArray := if n = 8 then ⟨#[117, 115, 101, 114, 100, 97, 116, 97]⟩ else if n = 7 then ⟨#[116, 104, 114, 101, 97, 100]⟩ else if n = 6 then ⟨#[102, 117, 110, 99, 116, 105, 111, 110]⟩ else if n = 5 then ⟨#[102, 117, 110, 99, 116, 105, 111, 110]⟩ else if n = 4 then ⟨#[116, 97, 98, 108, 101]⟩ else if n = 3 then ⟨#[115, 116, 114, 105, 110, 103]⟩ else if n = 2 then ⟨#[110, 117, 109, 98, 101, 114]⟩ else if n = 1 then ⟨#[98, 111, 111, 108, 101, 97, 110]⟩ else if n = 0 then ⟨#[110, 105, 108]⟩ else ByteArray.empty
def namesL : List (Int × ByteArray) := (aset (aset (aset (aset (aset (aset (aset (aset (aset [] 0 ⟨#[110, 105, 108]⟩) 1 ⟨#[98, 111, 111, 108, 101, 97, 110]⟩) 2 ⟨#[110, 117, 109, 98, 101, 114]⟩) 3 ⟨#[115, 116, 114, 105, 110, 103]⟩) 4 ⟨#[116, 97, 98, 108, 101]⟩) 5 ⟨#[102, 117, 110, 99, 116, 105, 111, 110]⟩) 6 ⟨#[102, 117, 110, 99, 116, 105, 111, 110]⟩) 7 ⟨#[116, 104, 114, 101, 97, 100]⟩) 8 ⟨#[117, 115, 101, 114, 100, 97, 116, 97]⟩)
theorem names_get (n : Int) : ((aget namesL n).map strW).getD (.string ByteArray.empty) = .string (typeB n) := by
  by_cases h8 : n = 8
  · subst h8; rfl
  by_cases h7 : n = 7
  · subst h7; rfl
  by_cases h6 : n = 6
  · subst h6; rfl
  by_cases h5 : n = 5
  · subst h5; rfl
  by_cases h4 : n = 4
  · subst h4; rfl
  by_cases h3 : n = 3
  · subst h3; rfl
  by_cases h2 : n = 2
  · subst h2; rfl
  by_cases h1 : n = 1
  · subst h1; rfl
  by_cases h0 : n = 0
  · subst h0; rfl
  simp [namesL, typeB, aget_aset, h0, h1, h2, h3, h4, h5, h6, h7, h8, Ne.symm h0, Ne.symm h1, Ne.symm h2, Ne.symm h3, Ne.symm h4, Ne.symm h5, Ne.symm h6, Ne.symm h7, Ne.symm h8]
  rfl
theorem typeB_size (n : Int) : (typeB n).size ≤ 10 := by
  unfold typeB
  repeat' split
  all_goals decide
theorem cat_le {a b : ByteArray} {n m : Nat} (ha : a.size ≤ n) (hb : b.size ≤ m) : (a ++ b).size ≤ n + m := by rw [ByteArray.size_append]; omega
theorem cat_ok {a b : ByteArray} {n m : Nat} (ha : a.size ≤ n) (hb : b.size ≤ m) (h : n + m ≤ 100000) : ((a.size : Int) + b.size) ≤ 9223372036854775807 := by omega
theorem names_s {Z : Zone} : SF Try.prog 124 #[] Z [] fun r Bs => ∃ b, r = .map (some b) ∧ Bs = [mpA iK strW b namesL] := by
 refine sf_enter Try.func124 3 [] (fun w0 => ?_)
 refine k_sr ?_
 refine sp (.map none) ?_
 refine s_nr ?_
 refine s_makeMap iK strW (fun b1 => ?_)
 refine s_insert 0 intOk Try.underlying153 0 (⟨#[110, 105, 108]⟩ : ByteArray) ?_
 refine s_insert 0 intOk Try.underlying153 1 (⟨#[98, 111, 111, 108, 101, 97, 110]⟩ : ByteArray) ?_
 refine s_insert 0 intOk Try.underlying153 2 (⟨#[110, 117, 109, 98, 101, 114]⟩ : ByteArray) ?_
 refine s_insert 0 intOk Try.underlying153 3 (⟨#[115, 116, 114, 105, 110, 103]⟩ : ByteArray) ?_
 refine s_insert 0 intOk Try.underlying153 4 (⟨#[116, 97, 98, 108, 101]⟩ : ByteArray) ?_
 refine s_insert 0 intOk Try.underlying153 5 (⟨#[102, 117, 110, 99, 116, 105, 111, 110]⟩ : ByteArray) ?_
 refine s_insert 0 intOk Try.underlying153 6 (⟨#[102, 117, 110, 99, 116, 105, 111, 110]⟩ : ByteArray) ?_
 refine s_insert 0 intOk Try.underlying153 7 (⟨#[116, 104, 114, 101, 97, 100]⟩ : ByteArray) ?_
 refine s_insert 0 intOk Try.underlying153 8 (⟨#[117, 115, 101, 114, 100, 97, 116, 97]⟩ : ByteArray) ?_
 refine sp (.map (some b1)) ?_
 refine sp (.map (some b1)) ?_
 refine s_nt ?_
 refine k_ret ?_
 exact xs_fin [.map (some b1)] [mpA iK strW b1 namesL] (SI.tmp 0 SI.nil) (fun _ h => h.re [0] []) ⟨b1, rfl, rfl⟩
theorem type_s {Z : Zone} (v : Vl) : SF Try.prog 110 #[v.v] Z [] fun r Bs => r = .string (typeB v.kind) ∧ Bs = [] := by
 refine sf_enter Try.func110 7 [(0, .agg #[.int .i64 v.kind, .int .i64 v.p, .int .i64 v.q, .string v.str, .int .i64 v.ref])] (fun w0 => ?_)
 refine k_sr ?_
 refine s_box #[.int .i64 v.kind, .int .i64 v.p, .int .i64 v.q, .string v.str, .int .i64 v.ref] (fun g1 => ?_)
 refine sp (.string ByteArray.empty) ?_
 refine s_nt ?_
 refine k_seq ?_
 refine k_held [blkA g1 #[.int .i64 v.kind, .int .i64 v.p, .int .i64 v.q, .string v.str, .int .i64 v.ref] 26] ?_
 refine hp_ 1 [0] (pB g1 0) ?_
 refine h_l 2 rfl [0] (fun _ => (t_load 0 (.int .i64 v.kind))) ?_
 refine h_stepS 0 ?_
 refine s_pcall (fun _ h => names_s) ?_
 rintro _ _ ⟨nb2, rfl, rfl⟩
 refine s_nil (xs_held [1] ?_)
 refine h_stepS 3 ?_
 refine s_lt (Lt.to (t_lookup 0 intOk Try.underlying153 (.string ByteArray.empty) v.kind) (names_get _)) ?_
 refine s_nil (xs_held [1] ?_)
 refine hp_ 4 [1] (.string (typeB v.kind)) ?_
 refine h_doneS ?_
 refine xs_then ?_
 refine k_ret ?_
 exact xs_fin [.string (typeB v.kind)] [] (SI.tmp 2 SI.nil) (fun _ h => h.re [] [0, 0]) ⟨rfl, rfl⟩
def attB (n : Int) : ByteArray := (⟨#[97, 116, 116, 101, 109, 112, 116, 32, 116, 111, 32, 105, 110, 100, 101, 120, 32, 97, 32]⟩ ++ typeB n) ++ ⟨#[32, 118, 97, 108, 117, 101]⟩
theorem attempt_s {Z : Zone} (v : Vl) : SF Try.prog 91 #[.string ⟨#[105, 110, 100, 101, 120]⟩, v.v] Z [] fun r Bs => r = .string (attB v.kind) ∧ Bs = [] := by
 refine sf_enter Try.func91 12 [(0, .string ⟨#[105, 110, 100, 101, 120]⟩), (1, .agg #[.int .i64 v.kind, .int .i64 v.p, .int .i64 v.q, .string v.str, .int .i64 v.ref])] (fun w0 => ?_)
 refine k_sr ?_
 refine s_box #[.int .i64 v.kind, .int .i64 v.p, .int .i64 v.q, .string v.str, .int .i64 v.ref] (fun g1 => ?_)
 refine sp (.string ByteArray.empty) ?_
 refine s_nr ?_
 refine sp (.string ⟨#[105, 110, 100, 101, 120]⟩) ?_
 refine s_lt (Lt.to (v' := .string ⟨#[97, 116, 116, 101, 109, 112, 116, 32, 116, 111, 32, 105, 110, 100, 101, 120]⟩) (t_cat ⟨#[97, 116, 116, 101, 109, 112, 116, 32, 116, 111, 32]⟩ ⟨#[105, 110, 100, 101, 120]⟩ (cat_ok (by decide : (⟨#[97, 116, 116, 101, 109, 112, 116, 32, 116, 111, 32]⟩ : ByteArray).size ≤ 11) (by decide : (⟨#[105, 110, 100, 101, 120]⟩ : ByteArray).size ≤ 5) (by decide))) (by kernel_rfl)) ?_
 refine s_lt (Lt.to (v' := .string ⟨#[97, 116, 116, 101, 109, 112, 116, 32, 116, 111, 32, 105, 110, 100, 101, 120, 32, 97, 32]⟩) (t_cat ⟨#[97, 116, 116, 101, 109, 112, 116, 32, 116, 111, 32, 105, 110, 100, 101, 120]⟩ ⟨#[32, 97, 32]⟩ (cat_ok (by decide : (⟨#[97, 116, 116, 101, 109, 112, 116, 32, 116, 111, 32, 105, 110, 100, 101, 120]⟩ : ByteArray).size ≤ 16) (by decide : (⟨#[32, 97, 32]⟩ : ByteArray).size ≤ 3) (by decide))) (by kernel_rfl)) ?_
 refine s_lt (t_loadA 0 #[.int .i64 v.kind, .int .i64 v.p, .int .i64 v.q, .string v.str, .int .i64 v.ref]) ?_
 refine s_vcall (fun _ h => type_s v) ?_
 rintro _ rfl
 refine s_lt (t_cat ⟨#[97, 116, 116, 101, 109, 112, 116, 32, 116, 111, 32, 105, 110, 100, 101, 120, 32, 97, 32]⟩ (typeB v.kind) (cat_ok (by decide : (⟨#[97, 116, 116, 101, 109, 112, 116, 32, 116, 111, 32, 105, 110, 100, 101, 120, 32, 97, 32]⟩ : ByteArray).size ≤ 19) (typeB_size _) (by decide))) ?_
 refine s_lt (t_cat (⟨#[97, 116, 116, 101, 109, 112, 116, 32, 116, 111, 32, 105, 110, 100, 101, 120, 32, 97, 32]⟩ ++ (typeB v.kind)) ⟨#[32, 118, 97, 108, 117, 101]⟩ (cat_ok (cat_le (by decide : (⟨#[97, 116, 116, 101, 109, 112, 116, 32, 116, 111, 32, 105, 110, 100, 101, 120, 32, 97, 32]⟩ : ByteArray).size ≤ 19) (typeB_size _)) (by decide : (⟨#[32, 118, 97, 108, 117, 101]⟩ : ByteArray).size ≤ 6) (by decide))) ?_
 refine sp (.string ((⟨#[97, 116, 116, 101, 109, 112, 116, 32, 116, 111, 32, 105, 110, 100, 101, 120, 32, 97, 32]⟩ ++ (typeB v.kind)) ++ ⟨#[32, 118, 97, 108, 117, 101]⟩)) ?_
 refine s_nt ?_
 refine k_ret ?_
 exact xs_fin [.string ((⟨#[97, 116, 116, 101, 109, 112, 116, 32, 116, 111, 32, 105, 110, 100, 101, 120, 32, 97, 32]⟩ ++ (typeB v.kind)) ++ ⟨#[32, 118, 97, 108, 117, 101]⟩)] [] (SI.tmp 4 SI.nil) (fun _ h => h.re [] [0]) ⟨rfl, rfl⟩
def libB (s : ByteArray) : Bool := (decide (s = ⟨#[98, 121, 116, 101]⟩) || (decide (s = ⟨#[99, 104, 97, 114]⟩) || (decide (s = ⟨#[102, 105, 110, 100]⟩) || (decide (s = ⟨#[102, 111, 114, 109, 97, 116]⟩) || (decide (s = ⟨#[103, 109, 97, 116, 99, 104]⟩) || (decide (s = ⟨#[103, 115, 117, 98]⟩) || (decide (s = ⟨#[108, 101, 110]⟩) || (decide (s = ⟨#[108, 111, 119, 101, 114]⟩) || (decide (s = ⟨#[109, 97, 116, 99, 104]⟩) || (decide (s = ⟨#[114, 101, 112]⟩) || (decide (s = ⟨#[114, 101, 118, 101, 114, 115, 101]⟩) || (decide (s = ⟨#[115, 117, 98]⟩) || decide (s = ⟨#[117, 112, 112, 101, 114]⟩)))))))))))))
theorem lib_size {s : ByteArray} (h : libB s = true) : s.size ≤ 10 := by
  simp only [libB, Bool.or_eq_true, decide_eq_true_eq] at h
  rcases h with rfl | rfl | rfl | rfl | rfl | rfl | rfl | rfl | rfl | rfl | rfl | rfl | rfl <;> decide
/-- The function of strings of a name. -/
def methV (k : Vl) : Vl := if k.kind = 3 ∧ libB k.str = true then ⟨6, 0, 0, ⟨#[115, 116, 114, 105, 110, 103, 46]⟩ ++ k.str, 0⟩ else zVl
structure Nd where
  kind : Int
  val : Vl
  fn : Vl
  args : List Vl
  after : Int
  str : ByteArray
def Nd.w (x : Nd) (av : Value) : Value := .agg #[.int .i64 x.kind, .int .i64 x.val.kind, .int .i64 x.val.p, .int .i64 x.val.q, .string x.val.str, .int .i64 x.val.ref, .int .i64 x.fn.kind, .int .i64 x.fn.p, .int .i64 x.fn.q, .string x.fn.str, .int .i64 x.fn.ref, av, .int .i64 x.after, .string x.str]
def giveN (v : Vl) : Nd := ⟨1, v, zVl, [], 0, ByteArray.empty⟩
def failN (s : ByteArray) : Nd := ⟨3, zVl, zVl, [], 0, s⟩
def callN (f : Vl) (after : Int) (l : List Vl) : Nd := ⟨2, zVl, f, l, after, ByteArray.empty⟩
def zNd : Nd := ⟨0, zVl, zVl, [], 0, ByteArray.empty⟩
theorem given_s {Z : Zone} (v : Vl) : SF Try.prog 54 #[v.v] Z [] fun r Bs => r = (giveN v).w (.slice none 0 0) ∧ Bs = [] := by
 refine sf_enter Try.func54 5 [(0, .agg #[.int .i64 v.kind, .int .i64 v.p, .int .i64 v.q, .string v.str, .int .i64 v.ref])] (fun w0 => ?_)
 refine k_sr ?_
 refine s_box #[.int .i64 v.kind, .int .i64 v.p, .int .i64 v.q, .string v.str, .int .i64 v.ref] (fun g1 => ?_)
 refine s_alloc (.agg #[.int .i64 0, .int .i64 0, .int .i64 0, .int .i64 0, .string ByteArray.empty, .int .i64 0, .int .i64 0, .int .i64 0, .int .i64 0, .string ByteArray.empty, .int .i64 0, (.slice none 0 0), .int .i64 0, .string ByteArray.empty]) #[.int .i64 0, .int .i64 0, .int .i64 0, .int .i64 0, .string ByteArray.empty, .int .i64 0, .int .i64 0, .int .i64 0, .int .i64 0, .string ByteArray.empty, .int .i64 0, (.slice none 0 0), .int .i64 0, .string ByteArray.empty] (fun g2 => ?_)
 refine s_nr ?_
 refine s_lt (t_loadA 1 #[.int .i64 v.kind, .int .i64 v.p, .int .i64 v.q, .string v.str, .int .i64 v.ref]) ?_
 refine s_lt (t_kern (.agg #[.int .i64 1, .int .i64 v.kind, .int .i64 v.p, .int .i64 v.q, .string v.str, .int .i64 v.ref, .int .i64 0, .int .i64 0, .int .i64 0, .string ByteArray.empty, .int .i64 0, (.slice none 0 0), .int .i64 0, .string ByteArray.empty])) ?_
 refine s_store 0 #[.int .i64 1, .int .i64 v.kind, .int .i64 v.p, .int .i64 v.q, .string v.str, .int .i64 v.ref, .int .i64 0, .int .i64 0, .int .i64 0, .string ByteArray.empty, .int .i64 0, (.slice none 0 0), .int .i64 0, .string ByteArray.empty] ?_
 refine s_nt ?_
 refine k_ret ?_
 exact xs_fin [.agg #[.int .i64 1, .int .i64 v.kind, .int .i64 v.p, .int .i64 v.q, .string v.str, .int .i64 v.ref, .int .i64 0, .int .i64 0, .int .i64 0, .string ByteArray.empty, .int .i64 0, (.slice none 0 0), .int .i64 0, .string ByteArray.empty]] [] (SI.agg 2 51 0 SI.nil) (fun _ h => h.re [] [0, 0]) ⟨rfl, rfl⟩
theorem failed_s {Z : Zone} (s : ByteArray) : SF Try.prog 90 #[.string s] Z [] fun r Bs => r = (failN s).w (.slice none 0 0) ∧ Bs = [] := by
 refine sf_enter Try.func90 5 [(0, .string s)] (fun w0 => ?_)
 refine k_sr ?_
 refine s_alloc (.agg #[.int .i64 0, .int .i64 0, .int .i64 0, .int .i64 0, .string ByteArray.empty, .int .i64 0, .int .i64 0, .int .i64 0, .int .i64 0, .string ByteArray.empty, .int .i64 0, (.slice none 0 0), .int .i64 0, .string ByteArray.empty]) #[.int .i64 0, .int .i64 0, .int .i64 0, .int .i64 0, .string ByteArray.empty, .int .i64 0, .int .i64 0, .int .i64 0, .int .i64 0, .string ByteArray.empty, .int .i64 0, (.slice none 0 0), .int .i64 0, .string ByteArray.empty] (fun g1 => ?_)
 refine s_nr ?_
 refine sp (.string s) ?_
 refine s_lt (t_kern (.agg #[.int .i64 3, .int .i64 0, .int .i64 0, .int .i64 0, .string ByteArray.empty, .int .i64 0, .int .i64 0, .int .i64 0, .int .i64 0, .string ByteArray.empty, .int .i64 0, (.slice none 0 0), .int .i64 0, .string s])) ?_
 refine s_store 0 #[.int .i64 3, .int .i64 0, .int .i64 0, .int .i64 0, .string ByteArray.empty, .int .i64 0, .int .i64 0, .int .i64 0, .int .i64 0, .string ByteArray.empty, .int .i64 0, (.slice none 0 0), .int .i64 0, .string s] ?_
 refine s_nt ?_
 refine k_ret ?_
 exact xs_fin [.agg #[.int .i64 3, .int .i64 0, .int .i64 0, .int .i64 0, .string ByteArray.empty, .int .i64 0, .int .i64 0, .int .i64 0, .int .i64 0, .string ByteArray.empty, .int .i64 0, (.slice none 0 0), .int .i64 0, .string s]] [] (SI.agg 2 51 0 SI.nil) (fun _ h => h.re [] [0]) ⟨rfl, rfl⟩
theorem called_s {Z : Zone} (f : Vl) (n : Int) (p : Option Addr) (l q : Nat) (L : List Vl) : SF Try.prog 58 #[f.v, .int .i64 n, .slice p l q] Z [] fun r Bs => r = (callN f n L).w (.slice p l q) ∧ Bs = [] := by
 refine sf_enter Try.func58 11 [(0, .agg #[.int .i64 f.kind, .int .i64 f.p, .int .i64 f.q, .string f.str, .int .i64 f.ref]), (1, .int .i64 n), (2, (.slice p l q))] (fun w0 => ?_)
 refine k_sr ?_
 refine s_box #[.int .i64 f.kind, .int .i64 f.p, .int .i64 f.q, .string f.str, .int .i64 f.ref] (fun g1 => ?_)
 refine s_alloc (.agg #[.int .i64 0, .int .i64 0, .int .i64 0, .int .i64 0, .string ByteArray.empty, .int .i64 0, .int .i64 0, .int .i64 0, .int .i64 0, .string ByteArray.empty, .int .i64 0, (.slice none 0 0), .int .i64 0, .string ByteArray.empty]) #[.int .i64 0, .int .i64 0, .int .i64 0, .int .i64 0, .string ByteArray.empty, .int .i64 0, .int .i64 0, .int .i64 0, .int .i64 0, .string ByteArray.empty, .int .i64 0, (.slice none 0 0), .int .i64 0, .string ByteArray.empty] (fun g2 => ?_)
 refine s_nr ?_
 refine s_lt (t_loadA 1 #[.int .i64 f.kind, .int .i64 f.p, .int .i64 f.q, .string f.str, .int .i64 f.ref]) ?_
 refine sp (.slice p l q) ?_
 refine sp (.int .i64 n) ?_
 refine s_lt (t_kern (.agg #[.int .i64 2, .int .i64 0, .int .i64 0, .int .i64 0, .string ByteArray.empty, .int .i64 0, .int .i64 f.kind, .int .i64 f.p, .int .i64 f.q, .string f.str, .int .i64 f.ref, (.slice p l q), .int .i64 n, .string ByteArray.empty])) ?_
 refine s_store 0 #[.int .i64 2, .int .i64 0, .int .i64 0, .int .i64 0, .string ByteArray.empty, .int .i64 0, .int .i64 f.kind, .int .i64 f.p, .int .i64 f.q, .string f.str, .int .i64 f.ref, (.slice p l q), .int .i64 n, .string ByteArray.empty] ?_
 refine s_nt ?_
 refine k_ret ?_
 exact xs_fin [.agg #[.int .i64 2, .int .i64 0, .int .i64 0, .int .i64 0, .string ByteArray.empty, .int .i64 0, .int .i64 f.kind, .int .i64 f.p, .int .i64 f.q, .string f.str, .int .i64 f.ref, (.slice p l q), .int .i64 n, .string ByteArray.empty]] [] (SI.agg 6 51 0 SI.nil) (fun _ h => h.re [] [0, 0]) ⟨rfl, rfl⟩
/-- A closure's call, its arguments as a list. -/
theorem s_callL {P : Program} {w0 : World} {ops : Array Oper} {Q : Exit → Act → World → Prop} {n : Nat} {E : Env} {Z : Zone} {As : List Asr} {o : Oper} {rest : List Oper} {f : FuncId} {x : Operand} {xs : Array Operand} {ts : Array TypeId} {first cap : Array Value} {vals : List Value} {R : Value → List Asr → Prop} {d : Nat} {As0 : List Asr} (is : List Nat) (hc : SF P f vals.toArray Z As0 R)
    (h : ∀ v Bs, R v Bs → SL P w0 ops Q n rest ((d, v) :: E) Z Bs) (hp : rearr As is = As0 := by rfl)
    (ho : o.op = .call { callee := .value x, args := xs, argTypes := ts } := by rfl) (hf : ev E x = .func (.func f) first cap := by rfl) (hx : (first.toList ++ (xs.toList.map (ev E))) ++ cap.toList = vals := by rfl) (hd : o.dst = some d := by rfl) (hfn : isFn P f = true := by kernel_rfl) (hk : okOp ops n E o = true := by kernel_rfl) : SL P w0 ops Q n (o :: rest) E Z As :=
  s_callC is hc h hp ho hf (by apply Array.toList_inj.1; simpa using hx) hd hfn hk
theorem t_clo {P : Program} {E : Env} {Z : Zone} {As : List Asr} {o : Oper} (f : FuncId) (vs us : List Value) {xs ys : Array Operand} (ho : o.op = .makeFunc (.func f) xs ys := by rfl) (hx : xs.toList.map (ev E) = vs := by rfl) (hy : ys.toList.map (ev E) = us := by rfl) : Lt P E o Z As (.func (.func f) vs.toArray us.toArray) := t_pure _ fun w => by
  unfold execOp
  simp only [ho]
  have a : xs.map (ev E) = vs.toArray := by apply Array.toList_inj.1; simpa using hx
  have b : ys.map (ev E) = us.toArray := by apply Array.toList_inj.1; simpa using hy
  rw [a, b]; rfl
/-- How a chain of values goes on. -/
def chn (S : Vl → Vl → Nd × Bool) (C : Vl → Vl → Nd) (H : Vl → Vl) : Nat → Vl → Nd
  | 0, _ => failN ⟨#[99, 104, 97, 105, 110, 32, 111, 102, 32, 109, 101, 116, 97, 116, 97, 98, 108, 101, 115, 32, 116, 111, 111, 32, 108, 111, 110, 103]⟩
  | n + 1, v => if (S v (H v)).2 = true then (S v (H v)).1 else if (H v).kind = 0 then failN (attB v.kind) else if fnB (H v) = true then C v (H v) else chn S C H n (H v)
section
variable {S : Vl → Vl → Nd × Bool} {C : Vl → Vl → Nd} {H : Vl → Vl} {i : Nat} {q : Vl}
theorem chn_set (hi : i < 32) (h : (S q (H q)).2 = true) : chn S C H (32 - i) q = (S q (H q)).1 := by rw [show 32 - i = (32 - (i + 1)) + 1 by omega, chn, if_pos h]
theorem chn_none (hi : i < 32) (h : (S q (H q)).2 = false) (h2 : (H q).kind = 0) : chn S C H (32 - i) q = failN (attB q.kind) := by rw [show 32 - i = (32 - (i + 1)) + 1 by omega, chn, if_neg (by rw [h]; decide), if_pos h2]
theorem chn_call (hi : i < 32) (h : (S q (H q)).2 = false) (h2 : ¬ (H q).kind = 0) (h3 : fnB (H q) = true) : chn S C H (32 - i) q = C q (H q) := by rw [show 32 - i = (32 - (i + 1)) + 1 by omega, chn, if_neg (by rw [h]; decide), if_neg h2, if_pos h3]
theorem chn_step (hi : i < 32) (h : (S q (H q)).2 = false) (h2 : ¬ (H q).kind = 0) (h3 : fnB (H q) = false) : chn S C H (32 - (i + 1)) (H q) = chn S C H (32 - i) q := by rw [show 32 - i = (32 - (i + 1)) + 1 by omega, chn, if_neg (by rw [h]; decide), if_neg h2, if_neg (by rw [h3]; decide)]
theorem chn_end (hi : ¬ i < 32) : chn S C H (32 - i) q = failN ⟨#[99, 104, 97, 105, 110, 32, 111, 102, 32, 109, 101, 116, 97, 116, 97, 98, 108, 101, 115, 32, 116, 111, 111, 32, 108, 111, 110, 103]⟩ := by rw [show 32 - i = 0 by omega, chn]
end
end Go.Proofs.Ytplkkhpokodbmaa
