/-
  FramesArguments: parameters and varargs are together the arguments; for every list and number.
-/
import Derived.Test.YtikbimlfbcffhaaW7
set_option linter.unusedSimpArgs false
set_option linter.unusedVariables false
set_option maxRecDepth 100000
namespace Go.Proofs.Ytikbimlfbcffhaa
open Go.Hp Go.J Go.S
open Go.Mem (Ty KTy blk elemAt pre suf blk_pre blk_suf aget aset strK)

theorem par_n {n : Int} (h0 : 0 ≤ n) (h1 : n ≤ 200) : par n = n := by simp only [par, clip]; omega
theorem fit_len {l : List Vl} {n : Int} (h0 : 0 ≤ n) (h1 : n ≤ 200) : ((fitL l n).length : Int) = n := by
  rw [fitL, if_neg (by omega), fitN_len]; simp only [clip]; omega
theorem ext_no (l : List Vl) (n : Int) : extraL l n false = [] := by simp [extraL]
theorem fit_zero {l : List Vl} {n : Int} {i : Nat} {y : Vl} (h0 : 0 ≤ n) (hi : l.length ≤ i) (hy : (fitL l n)[i]? = some y) : y = zVl := by
  rw [fitL, if_neg (by omega), fitN] at hy
  rw [List.getElem?_append_right (by simp; omega)] at hy
  rw [List.getElem?_replicate] at hy
  split at hy
  · exact (Option.some.inj hy).symm
  · cases hy
theorem fit_take {l : List Vl} {n : Int} (h0 : 0 ≤ n) (h1 : n ≤ 200) (h : (l.length : Int) < n) : (fitL l n).take l.length = l := by
  rw [fitL, if_neg (by omega), fitN, List.take_append_of_le_length (by simp [clip]; omega), List.take_take]
  rw [List.take_of_length_le]; simp only [clip]; omega
theorem fit_all {l : List Vl} {n : Int} (h0 : 0 ≤ n) (h1 : n ≤ 200) (h : ¬ (l.length : Int) < n) : fitL l n ++ extraL l n true = l := by
  have e : clip n = n := by simp only [clip]; omega
  rw [fitL, if_neg (by omega), fitN, e, show n.toNat - l.length = 0 by omega, List.replicate_zero, List.append_nil, extraL, par_n h0 h1]
  by_cases hn : n < l.length
  · rw [if_pos ⟨rfl, hn⟩, List.take_append_drop]
  · rw [if_neg (by simp; omega), List.append_nil, List.take_of_length_le (by omega)]
theorem ext_len (l : List Vl) (n : Int) (b : Bool) : (extraL l n b).length ≤ l.length := by
  rw [extraL]; split
  · simp
  · simp
theorem ext_none {l : List Vl} {n : Int} (h0 : 0 ≤ n) (h1 : n ≤ 200) (h : (l.length : Int) < n) : extraL l n true = [] := by
  rw [extraL, if_neg]; rw [par_n h0 h1]; simp; omega
theorem args_s {Z : Zone} {lv : Value} {l : List Vl} (n : Int) (hL : Kn Z VlT lv l) : SF Try.prog 7 #[lv, .int .i64 n] Z [] fun v Bs => v = .bool true ∧ Bs = [] := by
  refine sf_enter Try.func7 105 [(0, lv), (1, .int .i64 n)] (fun w0 => ?_)
  refine k_fact (fun H h => (hL.get h).len_le) (fun lL => ?_)
  refine k_seq ?_
  refine k_reg ?_
  refine s_lt (t_pure (.bool false)) ?_
  refine s_nil ?_
  refine xs_then ?_
  refine k_seq ?_
  refine k_cut (ι := Unit) (fun _ => True) (fun _ => [(0, lv), (1, .int .i64 n), (4, .bool false), (20, .bool ((decide ((200 : Int) < (l.length : Int))) || ((decide (n < 0)) || (decide ((200 : Int) < n)))))]) (fun _ => []) ?_ (fun _ _ => ?_)
  ·
    refine k_reg ?_
    refine s_lt (t_pure lv) ?_
    refine s_lt (t_len VlT_ok Try.underlying36 (.zn hL)) ?_
    refine s_lt t_cmp ?_
    refine s_lt (t_pure (.bool (decide ((200 : Int) < (l.length : Int))))) ?_
    refine s_fork 13 (decide ((200 : Int) < (l.length : Int))) (fun c1 => ?_) (fun c1 => ?_)
    ·
      have p2 := of_decide_eq_true c1
      refine s_skip ?_
      refine s_skip ?_
      refine s_lt (t_pure (.bool true)) ?_
      refine s_lt (t_pure (.bool true)) ?_
      refine s_skip ?_
      refine s_skip ?_
      refine s_lt (t_pure (.bool true)) ?_
      refine s_nil ?_
      exact xs_cut () trivial (sub_of rfl ⟨⟨rfl, rfl⟩, ⟨⟨rfl, rfl⟩, ⟨⟨rfl, rfl⟩, ⟨⟨rfl, show Value.bool true = Value.bool ((decide ((200 : Int) < (l.length : Int))) || ((decide (n < 0)) || (decide ((200 : Int) < n)))) by simp [c1]⟩, trivial⟩⟩⟩⟩) (fun _ h => h.re [] [])
    ·
      have p3 := of_decide_eq_false c1
      refine s_lt (t_pure (.int .i64 n)) ?_
      refine s_lt t_cmp ?_
      refine s_lt (t_pure (.bool (decide (n < 0)))) ?_
      refine s_lt (t_pure (.bool (decide (n < 0)))) ?_
      refine s_fork 17 (decide (n < 0)) (fun c4 => ?_) (fun c4 => ?_)
      ·
        have p5 := of_decide_eq_true c4
        refine s_skip ?_
        refine s_skip ?_
        refine s_lt (t_pure (.bool true)) ?_
        refine s_nil ?_
        exact xs_cut () trivial (sub_of rfl ⟨⟨rfl, rfl⟩, ⟨⟨rfl, rfl⟩, ⟨⟨rfl, rfl⟩, ⟨⟨rfl, show Value.bool true = Value.bool ((decide ((200 : Int) < (l.length : Int))) || ((decide (n < 0)) || (decide ((200 : Int) < n)))) by simp [c1, c4]⟩, trivial⟩⟩⟩⟩) (fun _ h => h.re [] [])
      ·
        have p6 := of_decide_eq_false c4
        refine s_lt (t_pure (.int .i64 n)) ?_
        refine s_lt t_cmp ?_
        refine s_lt (t_pure (.bool (decide ((200 : Int) < n)))) ?_
        refine s_nil ?_
        exact xs_cut () trivial (sub_of rfl ⟨⟨rfl, rfl⟩, ⟨⟨rfl, rfl⟩, ⟨⟨rfl, rfl⟩, ⟨⟨rfl, show Value.bool (decide ((200 : Int) < n)) = Value.bool ((decide ((200 : Int) < (l.length : Int))) || ((decide (n < 0)) || (decide ((200 : Int) < n)))) by simp [c1, c4]⟩, trivial⟩⟩⟩⟩) (fun _ h => h.re [] [])
  ·
    refine k_cond ((decide ((200 : Int) < (l.length : Int))) || ((decide (n < 0)) || (decide ((200 : Int) < n)))) (fun c7 => ?_) (fun c7 => ?_)
    ·
      have p8 := c7
      simp only [Bool.and_eq_true, Bool.or_eq_true, Bool.and_eq_false_iff, Bool.or_eq_false_iff, Bool.not_eq_true', Bool.not_eq_false', decide_eq_true_eq, decide_eq_false_iff_not] at p8
      refine k_seq ?_
      refine k_reg ?_
      refine s_vcall (fun _ h => awake_s) ?_
      rintro _ rfl
      refine s_lt (t_pure (.bool true)) ?_
      refine s_nil ?_
      refine xs_then ?_
      refine k_ret ?_
      refine xs_ret ?_
      exact xs_fin [.bool true] [] (SI.tmp 4 SI.nil) (fun _ h => h.re [] []) ⟨rfl, rfl⟩
    ·
      obtain ⟨c9, c10⟩ := or_f c7
      have p11 := of_decide_eq_false c9
      obtain ⟨c12, c13⟩ := or_f c10
      have p14 := of_decide_eq_false c12
      have p15 := of_decide_eq_false c13
      have h0 : 0 ≤ n := by omega
      have h1 : n ≤ 200 := by omega
      have h2 : l.length ≤ 200 := by omega
      have hpar := par_n h0 h1
      have hxl := ext_len l n true
      have hfl := fit_len (l := l) h0 h1
      rw [← hpar] at hfl
      refine k_skip ?_
      refine xs_then ?_
      refine k_seq ?_
      refine k_reg ?_
      refine s_lt (t_pure lv) ?_
      refine s_lt (t_pure (.int .i64 n)) ?_
      refine s_pcall (fun _ h => enter_s n true (Acc.kn (.zn hL) h) (by omega)) ?_
      rintro _ _ ⟨v16, v17, rfl, rfl⟩
      refine s_lt (t_pure (.tuple #[v16, v17])) ?_
      refine s_lt (t_pure v16) ?_
      refine s_lt (t_pure v17) ?_
      refine s_lt (t_pure v16) ?_
      refine s_lt (t_pure v17) ?_
      refine s_nil ?_
      refine xs_then ?_
      refine k_seq ?_
      refine k_reg ?_
      refine s_lt (t_pure lv) ?_
      refine s_lt (t_pure (.int .i64 n)) ?_
      refine s_pcall (fun _ h => enter_s n false (Acc.kn (.zn hL) h) (by omega)) ?_
      rintro _ _ ⟨v18, v19, rfl, rfl⟩
      refine s_lt (t_pure (.tuple #[v18, v19])) ?_
      refine s_lt (t_pure v18) ?_
      refine s_lt (t_pure v19) ?_
      refine s_lt (t_pure v18) ?_
      refine s_lt (t_pure v19) ?_
      refine s_nil ?_
      refine xs_then ?_
      refine k_seq ?_
      refine k_seq ?_
      refine k_reg ?_
      refine s_lt (t_pure v16) ?_
      refine s_lt (t_len VlT_ok Try.underlying36 (.own 2)) ?_
      refine s_lt (t_pure (.int .i64 n)) ?_
      refine s_lt (Lt.to t_cmp (congrArg Value.bool (decide_eq_false (by rw [hpar]; exact not_not_intro (fit_len h0 h1)) : (decide (((fitL l (par n)).length : Int) ≠ n)) = false))) ?_
      refine s_lt (t_pure (.bool false)) ?_
      refine s_lt (t_pure v19) ?_
      refine s_lt (t_len VlT_ok Try.underlying36 (.own 1)) ?_
      refine s_lt (Lt.to t_cmp (congrArg Value.bool (decide_eq_false (by rw [ext_no]; simp) : (decide (((extraL l n false).length : Int) ≠ 0)) = false))) ?_
      refine s_lt (t_pure (.bool false)) ?_
      refine s_lt (t_pure (.bool false)) ?_
      refine s_lt (t_pure v16) ?_
      refine s_lt (t_pure v18) ?_
      refine s_vcall (fun _ h => values_s (Acc.kn (.own 2) h) (Acc.kn (.own 0) h)) ?_
      rintro u21 e20
      obtain rfl : u21 = .bool true := e20.trans (congrArg Value.bool (decide_eq_true rfl))
      refine s_lt (t_pure (.bool false)) ?_
      refine s_lt (t_pure (.bool false)) ?_
      refine s_lt (t_pure (.bool false)) ?_
      refine s_lt (t_pure v16) ?_
      refine s_lt (t_pure lv) ?_
      refine s_lt (t_pure (.int .i64 n)) ?_
      refine s_pcall (fun _ h => fit_s n (Acc.kn (.zn hL) h) (by omega)) ?_
      rintro v22 _ rfl
      refine s_vcall (fun _ h => values_s (Acc.kn (.own 3) h) (Acc.kn (.own 0) h)) ?_
      rintro u24 e23
      obtain rfl : u24 = .bool true := e23.trans (congrArg Value.bool (decide_eq_true (by rw [hpar])))
      refine s_lt (t_pure (.bool false)) ?_
      refine s_lt (t_pure (.bool false)) ?_
      refine s_lt (t_pure (.bool false)) ?_
      refine s_lt (t_pure lv) ?_
      refine s_pcall (fun _ h => fit_s (-1) (Acc.kn (.zn hL) h) (by omega)) ?_
      rintro v25 _ rfl
      refine s_lt (t_pure lv) ?_
      refine s_vcall (fun _ h => values_s (Acc.kn (.own 0) h) (Acc.kn (.zn hL) h)) ?_
      rintro u27 e26
      obtain rfl : u27 = .bool true := e26.trans (congrArg Value.bool (decide_eq_true rfl))
      refine s_lt (t_pure (.bool false)) ?_
      refine s_lt (t_pure (.bool false)) ?_
      refine s_nil ?_
      refine xs_then ?_
      refine k_false ?_
      refine k_skip ?_
      refine xs_then ?_
      refine k_seq ?_
      refine k_seq ?_
      refine k_reg ?_
      refine s_lt (t_pure lv) ?_
      refine s_lt (t_len VlT_ok Try.underlying36 (.zn hL)) ?_
      refine s_lt (t_pure (.int .i64 (l.length : Int))) ?_
      refine s_nil ?_
      refine xs_then ?_
      refine k_block ?_
      refine k_loop (ι := Nat) (fun i => l.length ≤ i) (fun i => [(0, lv), (1, .int .i64 n), (4, .bool false), (5, v16), (6, v17), (9, .int .i64 (i : Int))]) (fun i => [own VlT v25 (fitL l (-1)), own VlT v22 (fitL l n), own VlT v18 (fitL l (par n)), own VlT v19 (extraL l n false), own VlT v16 (fitL l (par n)), own VlT v17 (extraL l n true)]) (fun i => n.toNat - i) l.length (Nat.le_refl _) (sub_of rfl ⟨⟨rfl, rfl⟩, ⟨⟨rfl, rfl⟩, ⟨⟨rfl, rfl⟩, ⟨⟨rfl, rfl⟩, ⟨⟨rfl, rfl⟩, ⟨⟨rfl, rfl⟩, trivial⟩⟩⟩⟩⟩⟩) (fun _ h => h.re [0, 0, 0, 0, 0, 0] []) ?_
      rintro i hi28
      show SK _ _ _ _ _ [(0, lv), (1, .int .i64 n), (4, .bool false), (5, v16), (6, v17), (9, .int .i64 (i : Int))] _ [own VlT v25 (fitL l (-1)), own VlT v22 (fitL l n), own VlT v18 (fitL l (par n)), own VlT v19 (extraL l n false), own VlT v16 (fitL l (par n)), own VlT v17 (extraL l n true)]
      refine k_seq ?_
      refine k_seq ?_
      refine k_reg ?_
      refine s_lt (t_pure (.int .i64 (i : Int))) ?_
      refine s_lt (t_pure (.int .i64 n)) ?_
      refine s_lt t_cmp ?_
      refine s_nil ?_
      refine xs_then ?_
      refine k_cond (decide ((i : Int) < n)) (fun c29 => ?_) (fun c29 => ?_)
      ·
        have p30 := of_decide_eq_true c29
        refine k_skip ?_
        refine xs_then ?_
        refine k_seq ?_
        refine k_block ?_
        refine k_seq ?_
        refine k_reg ?_
        refine s_lt (t_pure v16) ?_
        refine s_lt (t_pure (.int .i64 (i : Int))) ?_
        refine s_lt (t_index VlT_ok Try.underlying36 (.own 4) (i : Int) i (by omega) (by (try simp only [List.length_nil, List.length_cons, List.length_append, List.length_take, List.length_drop, List.length_set, List.length_replicate]); omega) (by omega)) ?_
        obtain ⟨y31, hy32⟩ : ∃ y, (fitL l (par n))[i]? = some y := ⟨_, List.getElem?_eq_getElem (by (try simp only [List.length_nil, List.length_cons, List.length_append, List.length_take, List.length_drop, List.length_set, List.length_replicate]); omega)⟩
        refine s_lt (t_loadE VlT_ok (.own 4) hy32) ?_
        refine s_lt (t_kern (.agg #[.int .i64 0, .int .i64 0, .int .i64 0, .string ByteArray.empty, .int .i64 0])) ?_
        refine s_lt (Lt.to (t_eqS (fun w => (eqVl y31 (⟨0, 0, 0, ByteArray.empty, 0⟩ : Vl) w).2)) (congrArg Value.bool ((congrArg Bool.not (decide_eq_true (fit_zero h0 (by omega) (by have := hy32; rwa [hpar] at this)))).trans rfl : (!(decide (y31 = (⟨0, 0, 0, ByteArray.empty, 0⟩ : Vl)))) = false))) ?_
        refine s_nil ?_
        refine xs_then ?_
        refine k_false ?_
        refine k_skip ?_
        refine xs_block ?_
        refine xs_then ?_
        refine k_reg ?_
        refine s_lt (t_pure (.int .i64 (i : Int))) ?_
        refine s_lt (t_add (i : Int) 1 (by (try simp only [List.length_nil, List.length_cons, List.length_append, List.length_take, List.length_drop, List.length_set, List.length_replicate]); omega)) ?_
        refine s_lt (t_pure (.int .i64 ((i : Int) + 1))) ?_
        refine s_nil ?_
        exact xs_round (i + 1) (by omega) (by have := hi28; omega) (sub_of rfl ⟨⟨rfl, rfl⟩, ⟨⟨rfl, rfl⟩, ⟨⟨rfl, rfl⟩, ⟨⟨rfl, rfl⟩, ⟨⟨rfl, rfl⟩, ⟨⟨rfl, rfl⟩, trivial⟩⟩⟩⟩⟩⟩) (fun _ h => h.re [0, 0, 0, 0, 0, 0] [])
      ·
        have p33 := of_decide_eq_false c29
        refine k_exit ?_
        refine xs_exit ?_
        refine xs_exit ?_
        refine xs_here ?_
        refine xs_then ?_
        refine k_seq ?_
        refine k_seq ?_
        refine k_reg ?_
        refine s_lt (t_pure (.int .i64 n)) ?_
        refine s_lt (t_pure lv) ?_
        refine s_lt (t_len VlT_ok Try.underlying36 (.zn hL)) ?_
        refine s_lt t_cmp ?_
        refine s_nil ?_
        refine xs_then ?_
        refine k_cond (decide ((l.length : Int) < n)) (fun c34 => ?_) (fun c34 => ?_)
        ·
          have p35 := of_decide_eq_true c34
          refine k_seq ?_
          refine k_reg ?_
          refine s_lt (t_pure v17) ?_
          refine s_lt (t_len VlT_ok Try.underlying36 (.own 5)) ?_
          refine s_lt (Lt.to t_cmp (congrArg Value.bool (decide_eq_true (by rw [ext_none h0 h1 (by omega)]; rfl) : (decide (((extraL l n true).length : Int) = 0)) = true))) ?_
          refine s_lt (t_pure (.bool true)) ?_
          refine s_lt (t_pure v16) ?_
          refine s_lt (t_pure lv) ?_
          refine s_lt (t_len VlT_ok Try.underlying36 (.zn hL)) ?_
          refine s_lt (t_pre VlT_ok Try.underlying36 (.own 4) (l.length : Int) l.length (by omega) (by (try simp only [List.length_nil, List.length_cons, List.length_append, List.length_take, List.length_drop, List.length_set, List.length_replicate]); omega) (by omega)) ?_
          refine s_lt (t_pure lv) ?_
          refine s_vcall (fun _ h => values_s (Acc.kn (Acc.pre (.own 4) VlT_ok l.length (by omega)) h) (Acc.kn (.zn hL) h)) ?_
          rintro u37 e36
          obtain rfl : u37 = .bool true := e36.trans (congrArg Value.bool (decide_eq_true (by rw [hpar]; exact fit_take h0 h1 (by omega))))
          refine s_lt (t_pure (.bool true)) ?_
          refine s_lt (t_pure (.bool true)) ?_
          refine s_vcall (fun _ h => awake_s) ?_
          rintro _ rfl
          refine s_lt (t_pure (.bool true)) ?_
          refine s_lt (t_pure (.bool true)) ?_
          refine s_nil ?_
          refine xs_then ?_
          refine k_ret ?_
          refine xs_ret ?_
          exact xs_fin [.bool true] [] (SI.tmp 4 SI.nil) (fun _ h => h.re [] [0, 0, 0, 0, 0, 0]) ⟨rfl, rfl⟩
        ·
          have p38 := of_decide_eq_false c34
          refine k_skip ?_
          refine xs_then ?_
          refine k_seq ?_
          refine k_reg ?_
          refine s_buildSlice (e := 54) [] #[] (fun g39 => ?_) (hb := by kernel_rfl)
          refine s_lt (t_pure v16) ?_
          refine s_mem (fun _ h => Holds.slice 0 h VlT_ok []) ?_
          refine s_append (L := []) 0 VlT_ok Try.underlying36 (.own 5) (by show _ * 48 ≤ _; (try simp only [List.length_nil, List.length_cons, List.length_append, List.length_take, List.length_drop, List.length_set, List.length_replicate]); omega) (by (try simp only [List.length_nil, List.length_cons, List.length_append, List.length_take, List.length_drop, List.length_set, List.length_replicate]); omega) (fun v40 => ?_)
          refine s_lt (t_pure v17) ?_
          refine s_append (L := ([] ++ (fitL l (par n)))) 0 VlT_ok Try.underlying36 (.own 6) (by show _ * 48 ≤ _; (try simp only [List.length_nil, List.length_cons, List.length_append, List.length_take, List.length_drop, List.length_set, List.length_replicate]); omega) (by (try simp only [List.length_nil, List.length_cons, List.length_append, List.length_take, List.length_drop, List.length_set, List.length_replicate]); omega) (fun v41 => ?_)
          refine s_lt (t_pure lv) ?_
          refine s_vcall (fun _ h => values_s (Acc.kn (.own 0) h) (Acc.kn (.zn hL) h)) ?_
          rintro u43 e42
          obtain rfl : u43 = .bool true := e42.trans (congrArg Value.bool (decide_eq_true (by rw [hpar, List.nil_append]; exact fit_all h0 h1 (by omega))))
          refine s_lt (t_pure (.bool true)) ?_
          refine s_vcall (fun _ h => awake_s) ?_
          rintro _ rfl
          refine s_lt (t_pure (.bool true)) ?_
          refine s_lt (t_pure (.bool true)) ?_
          refine s_nil ?_
          refine xs_then ?_
          refine k_ret ?_
          exact xs_fin [.bool true] [] (SI.tmp 4 SI.nil) (fun _ h => h.re [] [0, 0, 0, 0, 0, 0, 0]) ⟨rfl, rfl⟩
end Go.Proofs.Ytikbimlfbcffhaa
