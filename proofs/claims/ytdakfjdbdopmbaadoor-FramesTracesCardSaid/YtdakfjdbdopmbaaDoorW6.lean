/-
  join.
-/
import Derived.Test.YtdakfjdbdopmbaaDoorW5
set_option linter.unusedSimpArgs false
set_option linter.unusedVariables false
set_option maxRecDepth 100000
namespace Go.Proofs.YtdakfjdbdopmbaaDoor
open Go.Hp Go.J Go.S
open Go.Mem (Ty KTy blk elemAt pre suf blk_pre blk_suf aget aset strK aggDesc)
open Go.Mem
def strT (e : TypeId) : Ty ByteArray := ⟨e, 1, 16, false, fun s => .string s, ByteArray.empty⟩
theorem st_ok : (strT 9).Ok Tryd.prog := ok_of _ .string Tryd.t9 (by decide) (fun _ => rfl) (fun x u hu => by
    have : u = .string x := by simpa [Ty.enc, strT, Value.cells] using hu
    subst this; rfl) (fun _ => rfl) Tryd.underlying9 rfl (fun _ => rfl) (by kernel_rfl) (by kernel_rfl) (by kernel_rfl) (by kernel_rfl)
def joinT (M : List ByteArray) : ByteArray := M.foldl (· ++ ·) ByteArray.empty
def szs (M : List ByteArray) : Nat := (M.map ByteArray.size).sum
theorem fold_size (M : List ByteArray) (a : ByteArray) : (M.foldl (· ++ ·) a).size = a.size + szs M := by
  induction M generalizing a with
  | nil => simp [szs]
  | cons x r ih => rw [List.foldl_cons, ih, ByteArray.size_append]; simp [szs]; omega
theorem joinT_size (M : List ByteArray) : (joinT M).size = szs M := by rw [joinT, fold_size]; simp
theorem joinT_step {M : List ByteArray} {i : Nat} {y : ByteArray} (h : M[i]? = some y) : joinT (M.take (i + 1)) = joinT (M.take i) ++ y := by
  rw [joinT, List.take_add_one, h]; simp [joinT, List.foldl_append]
theorem szs_take (M : List ByteArray) (i : Nat) : szs (M.take i) ≤ szs M := by
  have e : szs M = szs (M.take i) + szs (M.drop i) := by rw [szs, szs, szs, ← List.sum_append, ← List.map_append, List.take_append_drop]
  omega
theorem join_room {M : List ByteArray} {i : Nat} {y : ByteArray} (h : M[i]? = some y) : (joinT (M.take i)).size + y.size ≤ szs M := by
  have e := congrArg ByteArray.size (joinT_step h); rw [ByteArray.size_append] at e
  rw [← e, joinT_size]; exact szs_take M _
theorem join_s {Z : Zone} {lv : Value} {M : List ByteArray} (hM : Kn Z (strT 9) lv M) (hz : (szs M : Int) ≤ 9223372036854775807) (hl : (M.length : Int) ≤ 100000) : SF Tryd.prog 30 #[lv] Z [] fun r Bs => r = .string (joinT M) ∧ Bs = [] := by
  refine sf_enter Tryd.func30 17 [(0, lv)] (fun w0 => ?_)
  refine k_seq ?_
  refine k_reg ?_
  refine s_lt (t_pure (.string ByteArray.empty)) ?_
  refine s_nil ?_
  refine xs_then ?_
  refine k_seq ?_
  refine k_reg ?_
  refine s_lt (t_pure (.string ByteArray.empty)) ?_
  refine s_nil ?_
  refine xs_then ?_
  refine k_seq ?_
  refine k_seq ?_
  refine k_reg ?_
  refine s_lt (t_pure lv) ?_
  refine s_lt (t_len st_ok Tryd.underlying46 (.zn hM)) ?_
  refine s_lt (t_pure (.int .i64 0)) ?_
  refine s_nil ?_
  refine xs_then ?_
  refine k_block ?_
  refine k_loop (ι := Nat) (fun i => i ≤ M.length) (fun i => [(2, .string ByteArray.empty), (3, .string (joinT (M.take i))), (6, lv), (7, .int .i64 (M.length : Int)), (8, .int .i64 (i : Int))]) (fun i => []) (fun i => M.length - i) 0 (Nat.zero_le _) (sub_of rfl ⟨⟨rfl, rfl⟩, ⟨⟨rfl, rfl⟩, ⟨⟨rfl, rfl⟩, ⟨⟨rfl, rfl⟩, ⟨⟨rfl, rfl⟩, trivial⟩⟩⟩⟩⟩) (fun _ h => h.re [] []) ?_
  rintro i hi1
  show SK _ _ _ _ _ [(2, .string ByteArray.empty), (3, .string (joinT (M.take i))), (6, lv), (7, .int .i64 (M.length : Int)), (8, .int .i64 (i : Int))] _ []
  refine k_seq ?_
  refine k_reg ?_
  refine s_lt t_cmp ?_
  refine s_nil ?_
  refine xs_then ?_
  refine k_seq ?_
  refine k_cond (decide ((i : Int) < (M.length : Int))) (fun c2 => ?_) (fun c2 => ?_)
  ·
    have p3 := of_decide_eq_true c2
    refine k_skip ?_
    refine xs_then ?_
    refine k_seq ?_
    refine k_block ?_
    refine k_seq ?_
    refine k_reg ?_
    refine s_lt (t_index st_ok Tryd.underlying46 (.zn hM) (i : Int) i (by omega) (by (try simp only [List.length_nil, List.length_cons, List.length_append, List.length_take, List.length_drop, List.length_set, List.length_replicate, List.length_reverse]); omega) (by omega)) ?_
    obtain ⟨y4, hy5⟩ : ∃ y, M[i]? = some y := ⟨_, List.getElem?_eq_getElem (by (try simp only [List.length_nil, List.length_cons, List.length_append, List.length_take, List.length_drop, List.length_set, List.length_replicate, List.length_reverse]); omega)⟩
    refine s_lt (t_loadE st_ok (.zn hM) hy5) ?_
    refine s_lt (t_pure (.string y4)) ?_
    refine s_nil ?_
    refine xs_then ?_
    refine k_reg ?_
    refine s_lt (t_pure (.string (joinT (M.take i)))) ?_
    refine s_lt (t_pure (.string y4)) ?_
    refine s_lt (t_cat (joinT (M.take i)) y4 (by have := join_room hy5; omega)) ?_
    refine s_lt (t_pure (.string ((joinT (M.take i)) ++ y4))) ?_
    refine s_nil ?_
    refine xs_block ?_
    refine xs_then ?_
    refine k_reg ?_
    refine s_lt (t_add (i : Int) 1 (by (try simp only [List.length_nil, List.length_cons, List.length_append, List.length_take, List.length_drop, List.length_set, List.length_replicate, List.length_reverse]); omega)) ?_
    refine s_lt (t_pure (.int .i64 ((i : Int) + 1))) ?_
    refine s_nil ?_
    rw [← joinT_step hy5]
    exact xs_round (i + 1) (by omega) (by omega) (sub_of rfl ⟨⟨rfl, rfl⟩, ⟨⟨rfl, rfl⟩, ⟨⟨rfl, rfl⟩, ⟨⟨rfl, rfl⟩, ⟨⟨rfl, rfl⟩, trivial⟩⟩⟩⟩⟩) (fun _ h => h.re [] [])
  ·
    have p6 := of_decide_eq_false c2
    refine k_exit ?_
    refine xs_exit ?_
    refine xs_exit ?_
    refine xs_here ?_
    refine xs_then ?_
    refine k_seq ?_
    refine k_reg ?_
    refine s_lt (t_pure (.string (joinT (M.take i)))) ?_
    refine s_lt (t_pure (.string (joinT (M.take i)))) ?_
    refine s_nil ?_
    refine xs_then ?_
    refine k_ret ?_
    have hi0 : i = M.length := by omega
    exact xs_fin [.string (joinT (M.take i))] [] (SI.tmp 2 SI.nil) (fun _ h => h.re [] []) ⟨by rw [hi0, List.take_length]; rfl, rfl⟩
end Go.Proofs.YtdakfjdbdopmbaaDoor
