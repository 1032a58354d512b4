/-
  The decimal numeral, by the reference.
-/
import Derived.Test.YtiddapedgkifoaaDoorW1
import Derived.Test.YtiddapedgkifoaaDoorL1
set_option linter.unusedSimpArgs false
set_option linter.unusedVariables false
set_option maxRecDepth 100000
namespace Go.Proofs.YtiddapedgkifoaaDoor
open Go.Hp Go.J Go.S
open Go.Mem (Ty KTy blk elemAt pre suf blk_pre blk_suf aget aset strK aggDesc)
open Go.Lib (decDigits itoa)
theorem bt_ok : (byteT 5).Ok Tryd.prog := byteT_ok (i := Tryd.t5) Tryd.underlying5 (by kernel_rfl) (by kernel_rfl) (by kernel_rfl) (by kernel_rfl)
theorem u64_quo (a b : Nat) (hb : 0 < b) (ha : a < 18446744073709551616) : IntKind.u64.wrap (Int.tdiv (a : Int) (b : Int)) = ((a / b : Nat) : Int) := by
  have e : Int.tdiv (a : Int) (b : Int) = ((a / b : Nat) : Int) := rfl
  have : a / b ≤ a := Nat.div_le_self _ _
  rw [e, u64_wrap (Int.natCast_nonneg _) (Int.ofNat_lt.2 (Nat.lt_of_le_of_lt this ha))]
theorem drop_rev {D : List UInt8} {i : Nat} {y : UInt8} (hi : 0 < i) (hy : D[i - 1]? = some y) : (D.drop (i - 1)).reverse = (D.drop i).reverse ++ [y] := by
  have hlt := (List.getElem?_eq_some_iff.1 hy).1
  rw [List.drop_eq_getElem_cons hlt, show i - 1 + 1 = i by omega, List.reverse_cons, (List.getElem?_eq_some_iff.1 hy).2]
theorem base_s {Z : Zone} (n : Int) (h0 : -9223372036854775808 ≤ n) (h1 : n ≤ 9223372036854775807) : SF Tryd.prog 41 #[.int .i64 n, .int .i64 10] Z [] fun v Bs => v = .tuple #[.string ⟨(itoa n).toArray⟩, .int .i64 0] ∧ Bs = [] := by
  refine sf_enter Tryd.func41 66 [(0, .int .i64 n), (1, .int .i64 10)] (fun w0 => ?_)
  refine k_seq ?_
  refine k_reg ?_
  refine s_lt (t_pure (.string ByteArray.empty)) ?_
  refine s_lt (t_pure (.int .i64 0)) ?_
  refine s_nil ?_
  refine xs_then ?_
  refine k_seq ?_
  refine k_seq ?_
  refine k_reg ?_
  refine s_lt (t_pure (.int .i64 10)) ?_
  refine s_lt (t_cmp (c := false)) ?_
  refine s_lt (t_pure (.bool false)) ?_
  refine s_lt (t_pure (.int .i64 10)) ?_
  refine s_lt (t_cmp (c := false)) ?_
  refine s_lt (t_pure (.bool false)) ?_
  refine s_nil ?_
  refine xs_then ?_
  refine k_false ?_
  refine k_skip ?_
  refine xs_then ?_
  refine k_seq ?_
  refine k_reg ?_
  refine s_lt (t_pure (.int .i64 n)) ?_
  refine s_lt (t_convK n Tryd.underlying3 Tryd.underlying59) ?_
  refine s_lt (t_pure (.int .u64 (IntKind.u64.wrap n))) ?_
  refine s_nil ?_
  refine xs_then ?_
  refine k_seq ?_
  refine k_seq ?_
  refine k_reg ?_
  refine s_lt (t_pure (.int .i64 n)) ?_
  refine s_lt t_cmp ?_
  refine s_nil ?_
  refine xs_then ?_
  refine k_cond (decide (n < 0)) (fun c1 => ?_) (fun c1 => ?_)
  ·
    have p2 := of_decide_eq_true c1
    refine k_reg ?_
    refine s_lt (t_pure (.int .u64 (IntKind.u64.wrap n))) ?_
    refine s_lt (t_negK (IntKind.u64.wrap n)) ?_
    refine s_lt (t_pure (.int .u64 (IntKind.u64.wrap (-(IntKind.u64.wrap n))))) ?_
    refine s_nil ?_
    refine xs_then ?_
    refine k_seq ?_
    refine k_reg ?_
    refine s_lt (t_pure (.string ⟨#[48, 49, 50, 51, 52, 53, 54, 55, 56, 57, 97, 98, 99, 100, 101, 102, 103, 104, 105, 106, 107, 108, 109, 110, 111, 112, 113, 114, 115, 116, 117, 118, 119, 120, 121, 122]⟩)) ?_
    refine s_nil ?_
    refine xs_then ?_
    refine k_seq ?_
    obtain ⟨U, hU, hU2⟩ : ∃ U : Nat, (U : Int) = (IntKind.u64.wrap (-(IntKind.u64.wrap n))) ∧ U = n.natAbs := ⟨n.natAbs, by rw [u64_neg (by omega) (by omega)]; omega, rfl⟩
    rw [← hU]
    have hU3 : U < 18446744073709551616 := by omega
    have hd := dec_len hU3
    refine k_reg ?_
    refine s_buildSlice (e := 5) [] #[] (fun g3 => ?_) (hb := by kernel_rfl)
    refine s_lt (t_pure (.slice (some ⟨g3, 0, none⟩) 0 0)) ?_
    refine s_nil ?_
    refine xs_then ?_
    refine k_seq ?_
    refine k_block ?_
    refine k_mem (fun _ h => Holds.slice 0 h bt_ok []) ?_
    refine k_loop (ι := Value × Nat × List UInt8) (fun (sx, u, l) => u < 18446744073709551616 ∧ decDigits U = left u l ++ l.reverse) (fun (sx, u, l) => [(0, .int .i64 n), (1, .int .i64 10), (4, .string ByteArray.empty), (5, .int .i64 0), (6, .int .u64 (u : Int)), (7, .string ⟨#[48, 49, 50, 51, 52, 53, 54, 55, 56, 57, 97, 98, 99, 100, 101, 102, 103, 104, 105, 106, 107, 108, 109, 110, 111, 112, 113, 114, 115, 116, 117, 118, 119, 120, 121, 122]⟩), (8, sx)]) (fun (sx, u, l) => [own (byteT 5) sx l]) (fun (sx, u, l) => u + (1 - l.length)) ((.slice (some ⟨g3, 0, none⟩) 0 0), U, []) ⟨by omega, by simp [left]⟩ (sub_of rfl ⟨⟨rfl, rfl⟩, ⟨⟨rfl, rfl⟩, ⟨⟨rfl, rfl⟩, ⟨⟨rfl, rfl⟩, ⟨⟨rfl, rfl⟩, ⟨⟨rfl, rfl⟩, ⟨⟨rfl, rfl⟩, trivial⟩⟩⟩⟩⟩⟩⟩) (fun _ h => h.re [0] []) ?_
    rintro ⟨sx, u, l⟩ hi4
    replace hi4 : u < 18446744073709551616 ∧ decDigits U = left u l ++ l.reverse := hi4
    show SK _ _ _ _ _ [(0, .int .i64 n), (1, .int .i64 10), (4, .string ByteArray.empty), (5, .int .i64 0), (6, .int .u64 (u : Int)), (7, .string ⟨#[48, 49, 50, 51, 52, 53, 54, 55, 56, 57, 97, 98, 99, 100, 101, 102, 103, 104, 105, 106, 107, 108, 109, 110, 111, 112, 113, 114, 115, 116, 117, 118, 119, 120, 121, 122]⟩), (8, sx)] _ [own (byteT 5) sx l]
    obtain ⟨hl1, hl2⟩ := hi4
    have hl3 := left_len hl2
    refine k_seq ?_
    refine k_cut (ι := Unit) (fun _ => True) (fun _ => [(0, .int .i64 n), (1, .int .i64 10), (4, .string ByteArray.empty), (5, .int .i64 0), (6, .int .u64 (u : Int)), (7, .string ⟨#[48, 49, 50, 51, 52, 53, 54, 55, 56, 57, 97, 98, 99, 100, 101, 102, 103, 104, 105, 106, 107, 108, 109, 110, 111, 112, 113, 114, 115, 116, 117, 118, 119, 120, 121, 122]⟩), (8, sx), (24, .int .u64 (u : Int)), (25, .bool (decide ((0 : Int) < (u : Int)))), (26, .bool (decide ((0 : Int) < (u : Int)))), (30, .bool ((decide ((0 : Int) < (u : Int))) || (decide ((l.length : Int) = 0))))]) (fun _ => [own (byteT 5) sx l]) ?_ (fun _ _ => ?_)
    ·
      refine k_reg ?_
      refine s_lt (t_pure (.int .u64 (u : Int))) ?_
      refine s_lt t_cmp ?_
      refine s_lt (t_pure (.bool (decide ((0 : Int) < (u : Int))))) ?_
      refine s_fork 26 (decide ((0 : Int) < (u : Int))) (fun c5 => ?_) (fun c5 => ?_)
      ·
        have p6 := of_decide_eq_true c5
        refine s_skip ?_
        refine s_skip ?_
        refine s_skip ?_
        refine s_lt (t_pure (.bool true)) ?_
        refine s_nil ?_
        exact xs_cut () trivial (sub_of rfl ⟨⟨rfl, rfl⟩, ⟨⟨rfl, rfl⟩, ⟨⟨rfl, rfl⟩, ⟨⟨rfl, rfl⟩, ⟨⟨rfl, rfl⟩, ⟨⟨rfl, rfl⟩, ⟨⟨rfl, rfl⟩, ⟨⟨rfl, rfl⟩, ⟨⟨rfl, rfl⟩, ⟨⟨rfl, show Value.bool true = Value.bool (decide ((0 : Int) < (u : Int))) by first | (simp only [c5, Bool.true_and, Bool.false_and, Bool.and_true, Bool.and_false, Bool.true_or, Bool.or_true, Bool.false_or, Bool.or_false, Bool.not_true, Bool.not_false]; done) | simp [c5]⟩, ⟨⟨rfl, show Value.bool true = Value.bool ((decide ((0 : Int) < (u : Int))) || (decide ((l.length : Int) = 0))) by first | (simp only [c5, Bool.true_and, Bool.false_and, Bool.and_true, Bool.and_false, Bool.true_or, Bool.or_true, Bool.false_or, Bool.or_false, Bool.not_true, Bool.not_false]; done) | simp [c5]⟩, trivial⟩⟩⟩⟩⟩⟩⟩⟩⟩⟩⟩) (fun _ h => h.re [0] [])
      ·
        have p7 := of_decide_eq_false c5
        refine s_lt (t_pure sx) ?_
        refine s_lt (t_len bt_ok Tryd.underlying60 (.own 0)) ?_
        refine s_lt t_cmp ?_
        refine s_lt (t_pure (.bool (decide ((l.length : Int) = 0)))) ?_
        refine s_nil ?_
        exact xs_cut () trivial (sub_of rfl ⟨⟨rfl, rfl⟩, ⟨⟨rfl, rfl⟩, ⟨⟨rfl, rfl⟩, ⟨⟨rfl, rfl⟩, ⟨⟨rfl, rfl⟩, ⟨⟨rfl, rfl⟩, ⟨⟨rfl, rfl⟩, ⟨⟨rfl, rfl⟩, ⟨⟨rfl, rfl⟩, ⟨⟨rfl, show Value.bool false = Value.bool (decide ((0 : Int) < (u : Int))) by first | (simp only [c5, Bool.true_and, Bool.false_and, Bool.and_true, Bool.and_false, Bool.true_or, Bool.or_true, Bool.false_or, Bool.or_false, Bool.not_true, Bool.not_false]; done) | simp [c5]⟩, ⟨⟨rfl, show Value.bool (decide ((l.length : Int) = 0)) = Value.bool ((decide ((0 : Int) < (u : Int))) || (decide ((l.length : Int) = 0))) by first | (simp only [c5, Bool.true_and, Bool.false_and, Bool.and_true, Bool.and_false, Bool.true_or, Bool.or_true, Bool.false_or, Bool.or_false, Bool.not_true, Bool.not_false]; done) | simp [c5]⟩, trivial⟩⟩⟩⟩⟩⟩⟩⟩⟩⟩⟩) (fun _ h => h.re [0] [])
    ·
      refine k_cond ((decide ((0 : Int) < (u : Int))) || (decide ((l.length : Int) = 0))) (fun c8 => ?_) (fun c8 => ?_)
      ·
        have p9 := c8
        simp only [Bool.and_eq_true, Bool.or_eq_true, Bool.and_eq_false_iff, Bool.or_eq_false_iff, Bool.not_eq_true', Bool.not_eq_false', decide_eq_true_eq, decide_eq_false_iff_not] at p9
        have hcond := p9
        refine k_skip ?_
        refine xs_then ?_
        refine k_block ?_
        refine k_seq ?_
        refine k_reg ?_
        refine s_lt (t_pure sx) ?_
        refine s_lt (t_pure (.string ⟨#[48, 49, 50, 51, 52, 53, 54, 55, 56, 57, 97, 98, 99, 100, 101, 102, 103, 104, 105, 106, 107, 108, 109, 110, 111, 112, 113, 114, 115, 116, 117, 118, 119, 120, 121, 122]⟩)) ?_
        refine s_lt (t_pure (.int .u64 (u : Int))) ?_
        refine s_lt (t_pure (.int .i64 10)) ?_
        refine s_lt (t_conv 10 (by decide) Tryd.underlying3 Tryd.underlying59) ?_
        refine s_lt (Lt.to (v' := .int .u64 ((u % 10 : Nat) : Int)) (t_rem (u : Int) 10 (by omega)) rfl) ?_
        refine s_lt (t_idxS Tryd.underlying9 names36 ((u % 10 : Nat) : Int) (UInt8.ofNat (48 + u % 10)) (by omega) (names_get _ (by omega))) ?_
        refine s_buildSlice (e := 5) [(0, .int .u8 ((UInt8.ofNat (48 + u % 10)).toNat : Int))] #[.int .u8 ((UInt8.ofNat (48 + u % 10)).toNat : Int)] (fun g10 => ?_) (hb := by kernel_rfl)
        refine s_append (L := l) 1 bt_ok Tryd.underlying60 (.lit 0 bt_ok [(UInt8.ofNat (48 + u % 10))]) (by show _ * 1 ≤ _; (try simp only [List.length_nil, List.length_cons, List.length_append, List.length_take, List.length_drop, List.length_set, List.length_replicate, List.length_reverse]); omega) (by (try simp only [List.length_nil, List.length_cons, List.length_append, List.length_take, List.length_drop, List.length_set, List.length_replicate, List.length_reverse]); omega) (fun v11 => ?_)
        refine s_lt (t_pure v11) ?_
        refine s_nil ?_
        refine xs_then ?_
        refine k_reg ?_
        refine s_lt (t_pure (.int .u64 (u : Int))) ?_
        refine s_lt (t_pure (.int .i64 10)) ?_
        refine s_lt (t_conv 10 (by decide) Tryd.underlying3 Tryd.underlying59) ?_
        refine s_lt (Lt.to (v' := .int .u64 ((u / 10 : Nat) : Int)) (t_quoK (u : Int) 10 (by omega)) (congrArg (Value.int .u64) (u64_quo u 10 (by omega) (by omega)))) ?_
        refine s_lt (t_pure (.int .u64 ((u / 10 : Nat) : Int))) ?_
        refine s_nil ?_
        refine xs_block ?_
        exact xs_round (v11, u / 10, (l ++ [(UInt8.ofNat (48 + u % 10))])) (by show u / 10 + (1 - (l ++ [_]).length) < u + (1 - l.length); simp only [List.length_append, List.length_cons, List.length_nil]; omega) (by refine ⟨by omega, ?_⟩; rw [hl2]; exact left_step u l (by rcases hcond with h | h; exact .inl (by omega); exact .inr (List.eq_nil_of_length_eq_zero (by omega)))) (sub_of rfl ⟨⟨rfl, rfl⟩, ⟨⟨rfl, rfl⟩, ⟨⟨rfl, rfl⟩, ⟨⟨rfl, rfl⟩, ⟨⟨rfl, rfl⟩, ⟨⟨rfl, rfl⟩, ⟨⟨rfl, rfl⟩, trivial⟩⟩⟩⟩⟩⟩⟩) (fun _ h => h.re [1] [1])
      ·
        obtain ⟨c12, c13⟩ := or_f c8
        have p14 := of_decide_eq_false c12
        have p15 := of_decide_eq_false c13
        have hfin := left_end hl2 (by omega) (by omega)
        refine k_exit ?_
        refine xs_exit ?_
        refine xs_exit ?_
        refine xs_here ?_
        refine xs_then ?_
        refine k_seq ?_
        refine k_seq ?_
        refine k_reg ?_
        refine s_lt (t_pure (.int .i64 n)) ?_
        refine s_lt (Lt.to t_cmp (congrArg Value.bool (c1 : (decide (n < 0)) = true))) ?_
        refine s_nil ?_
        refine xs_then ?_
        refine k_true ?_
        refine k_reg ?_
        refine s_lt (t_pure sx) ?_
        refine s_buildSlice (e := 5) [(0, .int .u8 45)] #[.int .u8 45] (fun g16 => ?_) (hb := by kernel_rfl)
        refine s_append (L := l) 1 bt_ok Tryd.underlying60 (.lit 0 bt_ok [45]) (by show _ * 1 ≤ _; (try simp only [List.length_nil, List.length_cons, List.length_append, List.length_take, List.length_drop, List.length_set, List.length_replicate, List.length_reverse]); omega) (by (try simp only [List.length_nil, List.length_cons, List.length_append, List.length_take, List.length_drop, List.length_set, List.length_replicate, List.length_reverse]); omega) (fun v17 => ?_)
        refine s_lt (t_pure v17) ?_
        refine s_nil ?_
        refine xs_then ?_
        refine k_seq ?_
        refine k_reg ?_
        refine s_buildSlice (e := 5) [] #[] (fun g18 => ?_) (hb := by kernel_rfl)
        refine s_lt (t_pure (.slice (some ⟨g18, 0, none⟩) 0 0)) ?_
        refine s_nil ?_
        refine xs_then ?_
        refine k_seq ?_
        refine k_seq ?_
        refine k_reg ?_
        refine s_lt (t_pure v17) ?_
        refine s_lt (t_len bt_ok Tryd.underlying60 (.own 2)) ?_
        refine s_lt (t_sub ((l ++ [45]).length : Int) 1 (by (try simp only [List.length_nil, List.length_cons, List.length_append, List.length_take, List.length_drop, List.length_set, List.length_replicate, List.length_reverse]); omega)) ?_
        refine s_lt (t_pure (.int .i64 (((l ++ [45]).length : Int) - 1))) ?_
        refine s_nil ?_
        refine xs_then ?_
        refine k_block ?_
        refine k_mem (fun _ h => Holds.slice 0 h bt_ok []) ?_
        obtain ⟨D, hD⟩ : ∃ x, x = (l ++ [45]) := ⟨_, rfl⟩
        rw [← hD]
        have hDl : D.length ≤ 30 := by rw [hD]; (try simp only [List.length_nil, List.length_cons, List.length_append, List.length_take, List.length_drop, List.length_set, List.length_replicate, List.length_reverse]); omega
        refine k_loop (ι := Value × Nat) (fun (sy, i) => i ≤ D.length) (fun (sy, i) => [(4, .string ByteArray.empty), (5, .int .i64 0), (8, v17), (9, sy), (10, .int .i64 ((i : Int) - 1))]) (fun (sy, i) => [own (byteT 5) sy ((D.drop i).reverse), own (byteT 5) v17 D]) (fun (sy, i) => i) ((.slice (some ⟨g18, 0, none⟩) 0 0), D.length) (Nat.le_refl _) (sub_of rfl ⟨⟨rfl, rfl⟩, ⟨⟨rfl, rfl⟩, ⟨⟨rfl, rfl⟩, ⟨⟨rfl, rfl⟩, ⟨⟨rfl, rfl⟩, trivial⟩⟩⟩⟩⟩) (fun _ h => by show Holds _ [own _ _ (D.drop D.length).reverse, _] _; rw [List.drop_length]; exact h.re [0, 1] [2]) ?_
        rintro ⟨sy, i⟩ hi19
        replace hi19 : i ≤ D.length := hi19
        show SK _ _ _ _ _ [(4, .string ByteArray.empty), (5, .int .i64 0), (8, v17), (9, sy), (10, .int .i64 ((i : Int) - 1))] _ [own (byteT 5) sy ((D.drop i).reverse), own (byteT 5) v17 D]
        refine k_seq ?_
        refine k_seq ?_
        refine k_reg ?_
        refine s_lt (t_pure (.int .i64 ((i : Int) - 1))) ?_
        refine s_lt t_cmp ?_
        refine s_nil ?_
        refine xs_then ?_
        refine k_cond (decide ((0 : Int) ≤ ((i : Int) - 1))) (fun c20 => ?_) (fun c20 => ?_)
        ·
          have p21 := of_decide_eq_true c20
          refine k_skip ?_
          refine xs_then ?_
          refine k_seq ?_
          refine k_block ?_
          refine k_reg ?_
          refine s_lt (t_pure sy) ?_
          refine s_lt (t_pure v17) ?_
          refine s_lt (t_pure (.int .i64 ((i : Int) - 1))) ?_
          refine s_lt (t_index bt_ok Tryd.underlying60 (.own 1) ((i : Int) - 1) (i - 1) (by omega) (by (try simp only [List.length_nil, List.length_cons, List.length_append, List.length_take, List.length_drop, List.length_set, List.length_replicate, List.length_reverse]); omega) (by omega)) ?_
          obtain ⟨y22, hy23⟩ : ∃ y, D[(i - 1)]? = some y := ⟨_, List.getElem?_eq_getElem (by (try simp only [List.length_nil, List.length_cons, List.length_append, List.length_take, List.length_drop, List.length_set, List.length_replicate, List.length_reverse]); omega)⟩
          refine s_lt (t_loadE bt_ok (.own 1) hy23) ?_
          refine s_buildSlice (e := 5) [(0, .int .u8 (y22.toNat : Int))] #[.int .u8 (y22.toNat : Int)] (fun g24 => ?_) (hb := by kernel_rfl)
          refine s_append (L := (D.drop i).reverse) 1 bt_ok Tryd.underlying60 (.lit 0 bt_ok [y22]) (by show _ * 1 ≤ _; (try simp only [List.length_nil, List.length_cons, List.length_append, List.length_take, List.length_drop, List.length_set, List.length_replicate, List.length_reverse]); omega) (by (try simp only [List.length_nil, List.length_cons, List.length_append, List.length_take, List.length_drop, List.length_set, List.length_replicate, List.length_reverse]); omega) (fun v25 => ?_)
          refine s_lt (t_pure v25) ?_
          refine s_nil ?_
          refine xs_block ?_
          refine xs_then ?_
          refine k_reg ?_
          refine s_lt (t_pure (.int .i64 ((i : Int) - 1))) ?_
          refine s_lt (t_sub ((i : Int) - 1) 1 (by (try simp only [List.length_nil, List.length_cons, List.length_append, List.length_take, List.length_drop, List.length_set, List.length_replicate, List.length_reverse]); omega)) ?_
          refine s_lt (t_pure (.int .i64 (((i : Int) - 1) - 1))) ?_
          refine s_nil ?_
          rw [show (i : Int) - 1 - 1 = ((i - 1 : Nat) : Int) - 1 by omega]
          exact xs_round (v25, i - 1) (by show i - 1 < i; omega) (by show i - 1 ≤ D.length; omega) (sub_of rfl ⟨⟨rfl, rfl⟩, ⟨⟨rfl, rfl⟩, ⟨⟨rfl, rfl⟩, ⟨⟨rfl, rfl⟩, ⟨⟨rfl, rfl⟩, trivial⟩⟩⟩⟩⟩) (fun _ h => by show Holds _ [own _ _ (D.drop (i - 1)).reverse, _] _; rw [drop_rev (by omega) (by first | exact hy23 | (rw [← hy23]; congr 1; omega))]; exact h.re [1, 1] [2])
        ·
          have p26 := of_decide_eq_false c20
          refine k_exit ?_
          refine xs_exit ?_
          refine xs_exit ?_
          refine xs_here ?_
          refine xs_then ?_
          refine k_seq ?_
          refine k_reg ?_
          refine s_lt (t_pure sy) ?_
          refine s_lt (t_bytes bt_ok Tryd.underlying60 Tryd.underlying5 Tryd.underlying9 (.own 0)) ?_
          refine s_lt (t_pure (.string ⟨((D.drop i).reverse).toArray⟩)) ?_
          refine s_lt (t_pure (.int .i64 0)) ?_
          refine s_nil ?_
          refine xs_then ?_
          refine k_ret ?_
          have hi0 : i = 0 := by omega
          have he : itoa n = (D.drop i).reverse := by
            rw [hi0, List.drop_zero, itoa]
            first
            | (rw [if_pos (by omega), ← hU2, hfin, hD]; simp)
            | rw [if_neg (by omega), show n.toNat = U by omega, hfin, hD]
          exact xs_fin [.string ⟨((D.drop i).reverse).toArray⟩, .int .i64 0] [] (SI.tmp 4 (SI.tmp 5 SI.nil)) (fun _ h => h.re [] [0, 0]) ⟨by rw [he]; rfl, rfl⟩
  ·
    have p27 := of_decide_eq_false c1
    refine k_skip ?_
    refine xs_then ?_
    refine k_seq ?_
    refine k_reg ?_
    refine s_lt (t_pure (.string ⟨#[48, 49, 50, 51, 52, 53, 54, 55, 56, 57, 97, 98, 99, 100, 101, 102, 103, 104, 105, 106, 107, 108, 109, 110, 111, 112, 113, 114, 115, 116, 117, 118, 119, 120, 121, 122]⟩)) ?_
    refine s_nil ?_
    refine xs_then ?_
    refine k_seq ?_
    obtain ⟨U, hU, hU2⟩ : ∃ U : Nat, (U : Int) = (IntKind.u64.wrap n) ∧ U = n.natAbs := ⟨n.natAbs, by rw [u64_wrap (by omega) (by omega)]; omega, rfl⟩
    rw [← hU]
    have hU3 : U < 18446744073709551616 := by omega
    have hd := dec_len hU3
    refine k_reg ?_
    refine s_buildSlice (e := 5) [] #[] (fun g28 => ?_) (hb := by kernel_rfl)
    refine s_lt (t_pure (.slice (some ⟨g28, 0, none⟩) 0 0)) ?_
    refine s_nil ?_
    refine xs_then ?_
    refine k_seq ?_
    refine k_block ?_
    refine k_mem (fun _ h => Holds.slice 0 h bt_ok []) ?_
    refine k_loop (ι := Value × Nat × List UInt8) (fun (sx, u, l) => u < 18446744073709551616 ∧ decDigits U = left u l ++ l.reverse) (fun (sx, u, l) => [(0, .int .i64 n), (1, .int .i64 10), (4, .string ByteArray.empty), (5, .int .i64 0), (6, .int .u64 (u : Int)), (7, .string ⟨#[48, 49, 50, 51, 52, 53, 54, 55, 56, 57, 97, 98, 99, 100, 101, 102, 103, 104, 105, 106, 107, 108, 109, 110, 111, 112, 113, 114, 115, 116, 117, 118, 119, 120, 121, 122]⟩), (8, sx)]) (fun (sx, u, l) => [own (byteT 5) sx l]) (fun (sx, u, l) => u + (1 - l.length)) ((.slice (some ⟨g28, 0, none⟩) 0 0), U, []) ⟨by omega, by simp [left]⟩ (sub_of rfl ⟨⟨rfl, rfl⟩, ⟨⟨rfl, rfl⟩, ⟨⟨rfl, rfl⟩, ⟨⟨rfl, rfl⟩, ⟨⟨rfl, rfl⟩, ⟨⟨rfl, rfl⟩, ⟨⟨rfl, rfl⟩, trivial⟩⟩⟩⟩⟩⟩⟩) (fun _ h => h.re [0] []) ?_
    rintro ⟨sx, u, l⟩ hi29
    replace hi29 : u < 18446744073709551616 ∧ decDigits U = left u l ++ l.reverse := hi29
    show SK _ _ _ _ _ [(0, .int .i64 n), (1, .int .i64 10), (4, .string ByteArray.empty), (5, .int .i64 0), (6, .int .u64 (u : Int)), (7, .string ⟨#[48, 49, 50, 51, 52, 53, 54, 55, 56, 57, 97, 98, 99, 100, 101, 102, 103, 104, 105, 106, 107, 108, 109, 110, 111, 112, 113, 114, 115, 116, 117, 118, 119, 120, 121, 122]⟩), (8, sx)] _ [own (byteT 5) sx l]
    obtain ⟨hl1, hl2⟩ := hi29
    have hl3 := left_len hl2
    refine k_seq ?_
    refine k_cut (ι := Unit) (fun _ => True) (fun _ => [(0, .int .i64 n), (1, .int .i64 10), (4, .string ByteArray.empty), (5, .int .i64 0), (6, .int .u64 (u : Int)), (7, .string ⟨#[48, 49, 50, 51, 52, 53, 54, 55, 56, 57, 97, 98, 99, 100, 101, 102, 103, 104, 105, 106, 107, 108, 109, 110, 111, 112, 113, 114, 115, 116, 117, 118, 119, 120, 121, 122]⟩), (8, sx), (24, .int .u64 (u : Int)), (25, .bool (decide ((0 : Int) < (u : Int)))), (26, .bool (decide ((0 : Int) < (u : Int)))), (30, .bool ((decide ((0 : Int) < (u : Int))) || (decide ((l.length : Int) = 0))))]) (fun _ => [own (byteT 5) sx l]) ?_ (fun _ _ => ?_)
    ·
      refine k_reg ?_
      refine s_lt (t_pure (.int .u64 (u : Int))) ?_
      refine s_lt t_cmp ?_
      refine s_lt (t_pure (.bool (decide ((0 : Int) < (u : Int))))) ?_
      refine s_fork 26 (decide ((0 : Int) < (u : Int))) (fun c30 => ?_) (fun c30 => ?_)
      ·
        have p31 := of_decide_eq_true c30
        refine s_skip ?_
        refine s_skip ?_
        refine s_skip ?_
        refine s_lt (t_pure (.bool true)) ?_
        refine s_nil ?_
        exact xs_cut () trivial (sub_of rfl ⟨⟨rfl, rfl⟩, ⟨⟨rfl, rfl⟩, ⟨⟨rfl, rfl⟩, ⟨⟨rfl, rfl⟩, ⟨⟨rfl, rfl⟩, ⟨⟨rfl, rfl⟩, ⟨⟨rfl, rfl⟩, ⟨⟨rfl, rfl⟩, ⟨⟨rfl, rfl⟩, ⟨⟨rfl, show Value.bool true = Value.bool (decide ((0 : Int) < (u : Int))) by first | (simp only [c30, Bool.true_and, Bool.false_and, Bool.and_true, Bool.and_false, Bool.true_or, Bool.or_true, Bool.false_or, Bool.or_false, Bool.not_true, Bool.not_false]; done) | simp [c30]⟩, ⟨⟨rfl, show Value.bool true = Value.bool ((decide ((0 : Int) < (u : Int))) || (decide ((l.length : Int) = 0))) by first | (simp only [c30, Bool.true_and, Bool.false_and, Bool.and_true, Bool.and_false, Bool.true_or, Bool.or_true, Bool.false_or, Bool.or_false, Bool.not_true, Bool.not_false]; done) | simp [c30]⟩, trivial⟩⟩⟩⟩⟩⟩⟩⟩⟩⟩⟩) (fun _ h => h.re [0] [])
      ·
        have p32 := of_decide_eq_false c30
        refine s_lt (t_pure sx) ?_
        refine s_lt (t_len bt_ok Tryd.underlying60 (.own 0)) ?_
        refine s_lt t_cmp ?_
        refine s_lt (t_pure (.bool (decide ((l.length : Int) = 0)))) ?_
        refine s_nil ?_
        exact xs_cut () trivial (sub_of rfl ⟨⟨rfl, rfl⟩, ⟨⟨rfl, rfl⟩, ⟨⟨rfl, rfl⟩, ⟨⟨rfl, rfl⟩, ⟨⟨rfl, rfl⟩, ⟨⟨rfl, rfl⟩, ⟨⟨rfl, rfl⟩, ⟨⟨rfl, rfl⟩, ⟨⟨rfl, rfl⟩, ⟨⟨rfl, show Value.bool false = Value.bool (decide ((0 : Int) < (u : Int))) by first | (simp only [c30, Bool.true_and, Bool.false_and, Bool.and_true, Bool.and_false, Bool.true_or, Bool.or_true, Bool.false_or, Bool.or_false, Bool.not_true, Bool.not_false]; done) | simp [c30]⟩, ⟨⟨rfl, show Value.bool (decide ((l.length : Int) = 0)) = Value.bool ((decide ((0 : Int) < (u : Int))) || (decide ((l.length : Int) = 0))) by first | (simp only [c30, Bool.true_and, Bool.false_and, Bool.and_true, Bool.and_false, Bool.true_or, Bool.or_true, Bool.false_or, Bool.or_false, Bool.not_true, Bool.not_false]; done) | simp [c30]⟩, trivial⟩⟩⟩⟩⟩⟩⟩⟩⟩⟩⟩) (fun _ h => h.re [0] [])
    ·
      refine k_cond ((decide ((0 : Int) < (u : Int))) || (decide ((l.length : Int) = 0))) (fun c33 => ?_) (fun c33 => ?_)
      ·
        have p34 := c33
        simp only [Bool.and_eq_true, Bool.or_eq_true, Bool.and_eq_false_iff, Bool.or_eq_false_iff, Bool.not_eq_true', Bool.not_eq_false', decide_eq_true_eq, decide_eq_false_iff_not] at p34
        have hcond := p34
        refine k_skip ?_
        refine xs_then ?_
        refine k_block ?_
        refine k_seq ?_
        refine k_reg ?_
        refine s_lt (t_pure sx) ?_
        refine s_lt (t_pure (.string ⟨#[48, 49, 50, 51, 52, 53, 54, 55, 56, 57, 97, 98, 99, 100, 101, 102, 103, 104, 105, 106, 107, 108, 109, 110, 111, 112, 113, 114, 115, 116, 117, 118, 119, 120, 121, 122]⟩)) ?_
        refine s_lt (t_pure (.int .u64 (u : Int))) ?_
        refine s_lt (t_pure (.int .i64 10)) ?_
        refine s_lt (t_conv 10 (by decide) Tryd.underlying3 Tryd.underlying59) ?_
        refine s_lt (Lt.to (v' := .int .u64 ((u % 10 : Nat) : Int)) (t_rem (u : Int) 10 (by omega)) rfl) ?_
        refine s_lt (t_idxS Tryd.underlying9 names36 ((u % 10 : Nat) : Int) (UInt8.ofNat (48 + u % 10)) (by omega) (names_get _ (by omega))) ?_
        refine s_buildSlice (e := 5) [(0, .int .u8 ((UInt8.ofNat (48 + u % 10)).toNat : Int))] #[.int .u8 ((UInt8.ofNat (48 + u % 10)).toNat : Int)] (fun g35 => ?_) (hb := by kernel_rfl)
        refine s_append (L := l) 1 bt_ok Tryd.underlying60 (.lit 0 bt_ok [(UInt8.ofNat (48 + u % 10))]) (by show _ * 1 ≤ _; (try simp only [List.length_nil, List.length_cons, List.length_append, List.length_take, List.length_drop, List.length_set, List.length_replicate, List.length_reverse]); omega) (by (try simp only [List.length_nil, List.length_cons, List.length_append, List.length_take, List.length_drop, List.length_set, List.length_replicate, List.length_reverse]); omega) (fun v36 => ?_)
        refine s_lt (t_pure v36) ?_
        refine s_nil ?_
        refine xs_then ?_
        refine k_reg ?_
        refine s_lt (t_pure (.int .u64 (u : Int))) ?_
        refine s_lt (t_pure (.int .i64 10)) ?_
        refine s_lt (t_conv 10 (by decide) Tryd.underlying3 Tryd.underlying59) ?_
        refine s_lt (Lt.to (v' := .int .u64 ((u / 10 : Nat) : Int)) (t_quoK (u : Int) 10 (by omega)) (congrArg (Value.int .u64) (u64_quo u 10 (by omega) (by omega)))) ?_
        refine s_lt (t_pure (.int .u64 ((u / 10 : Nat) : Int))) ?_
        refine s_nil ?_
        refine xs_block ?_
        exact xs_round (v36, u / 10, (l ++ [(UInt8.ofNat (48 + u % 10))])) (by show u / 10 + (1 - (l ++ [_]).length) < u + (1 - l.length); simp only [List.length_append, List.length_cons, List.length_nil]; omega) (by refine ⟨by omega, ?_⟩; rw [hl2]; exact left_step u l (by rcases hcond with h | h; exact .inl (by omega); exact .inr (List.eq_nil_of_length_eq_zero (by omega)))) (sub_of rfl ⟨⟨rfl, rfl⟩, ⟨⟨rfl, rfl⟩, ⟨⟨rfl, rfl⟩, ⟨⟨rfl, rfl⟩, ⟨⟨rfl, rfl⟩, ⟨⟨rfl, rfl⟩, ⟨⟨rfl, rfl⟩, trivial⟩⟩⟩⟩⟩⟩⟩) (fun _ h => h.re [1] [1])
      ·
        obtain ⟨c37, c38⟩ := or_f c33
        have p39 := of_decide_eq_false c37
        have p40 := of_decide_eq_false c38
        have hfin := left_end hl2 (by omega) (by omega)
        refine k_exit ?_
        refine xs_exit ?_
        refine xs_exit ?_
        refine xs_here ?_
        refine xs_then ?_
        refine k_seq ?_
        refine k_seq ?_
        refine k_reg ?_
        refine s_lt (t_pure (.int .i64 n)) ?_
        refine s_lt (Lt.to t_cmp (congrArg Value.bool (c1 : (decide (n < 0)) = false))) ?_
        refine s_nil ?_
        refine xs_then ?_
        refine k_false ?_
        refine k_skip ?_
        refine xs_then ?_
        refine k_seq ?_
        refine k_reg ?_
        refine s_buildSlice (e := 5) [] #[] (fun g41 => ?_) (hb := by kernel_rfl)
        refine s_lt (t_pure (.slice (some ⟨g41, 0, none⟩) 0 0)) ?_
        refine s_nil ?_
        refine xs_then ?_
        refine k_seq ?_
        refine k_seq ?_
        refine k_reg ?_
        refine s_lt (t_pure sx) ?_
        refine s_lt (t_len bt_ok Tryd.underlying60 (.own 1)) ?_
        refine s_lt (t_sub (l.length : Int) 1 (by (try simp only [List.length_nil, List.length_cons, List.length_append, List.length_take, List.length_drop, List.length_set, List.length_replicate, List.length_reverse]); omega)) ?_
        refine s_lt (t_pure (.int .i64 ((l.length : Int) - 1))) ?_
        refine s_nil ?_
        refine xs_then ?_
        refine k_block ?_
        refine k_mem (fun _ h => Holds.slice 0 h bt_ok []) ?_
        obtain ⟨D, hD⟩ : ∃ x, x = l := ⟨_, rfl⟩
        rw [← hD]
        have hDl : D.length ≤ 30 := by rw [hD]; (try simp only [List.length_nil, List.length_cons, List.length_append, List.length_take, List.length_drop, List.length_set, List.length_replicate, List.length_reverse]); omega
        refine k_loop (ι := Value × Nat) (fun (sy, i) => i ≤ D.length) (fun (sy, i) => [(4, .string ByteArray.empty), (5, .int .i64 0), (8, sx), (9, sy), (10, .int .i64 ((i : Int) - 1))]) (fun (sy, i) => [own (byteT 5) sy ((D.drop i).reverse), own (byteT 5) sx D]) (fun (sy, i) => i) ((.slice (some ⟨g41, 0, none⟩) 0 0), D.length) (Nat.le_refl _) (sub_of rfl ⟨⟨rfl, rfl⟩, ⟨⟨rfl, rfl⟩, ⟨⟨rfl, rfl⟩, ⟨⟨rfl, rfl⟩, ⟨⟨rfl, rfl⟩, trivial⟩⟩⟩⟩⟩) (fun _ h => by show Holds _ [own _ _ (D.drop D.length).reverse, _] _; rw [List.drop_length]; exact h.re [0, 0] []) ?_
        rintro ⟨sy, i⟩ hi42
        replace hi42 : i ≤ D.length := hi42
        show SK _ _ _ _ _ [(4, .string ByteArray.empty), (5, .int .i64 0), (8, sx), (9, sy), (10, .int .i64 ((i : Int) - 1))] _ [own (byteT 5) sy ((D.drop i).reverse), own (byteT 5) sx D]
        refine k_seq ?_
        refine k_seq ?_
        refine k_reg ?_
        refine s_lt (t_pure (.int .i64 ((i : Int) - 1))) ?_
        refine s_lt t_cmp ?_
        refine s_nil ?_
        refine xs_then ?_
        refine k_cond (decide ((0 : Int) ≤ ((i : Int) - 1))) (fun c43 => ?_) (fun c43 => ?_)
        ·
          have p44 := of_decide_eq_true c43
          refine k_skip ?_
          refine xs_then ?_
          refine k_seq ?_
          refine k_block ?_
          refine k_reg ?_
          refine s_lt (t_pure sy) ?_
          refine s_lt (t_pure sx) ?_
          refine s_lt (t_pure (.int .i64 ((i : Int) - 1))) ?_
          refine s_lt (t_index bt_ok Tryd.underlying60 (.own 1) ((i : Int) - 1) (i - 1) (by omega) (by (try simp only [List.length_nil, List.length_cons, List.length_append, List.length_take, List.length_drop, List.length_set, List.length_replicate, List.length_reverse]); omega) (by omega)) ?_
          obtain ⟨y45, hy46⟩ : ∃ y, D[(i - 1)]? = some y := ⟨_, List.getElem?_eq_getElem (by (try simp only [List.length_nil, List.length_cons, List.length_append, List.length_take, List.length_drop, List.length_set, List.length_replicate, List.length_reverse]); omega)⟩
          refine s_lt (t_loadE bt_ok (.own 1) hy46) ?_
          refine s_buildSlice (e := 5) [(0, .int .u8 (y45.toNat : Int))] #[.int .u8 (y45.toNat : Int)] (fun g47 => ?_) (hb := by kernel_rfl)
          refine s_append (L := (D.drop i).reverse) 1 bt_ok Tryd.underlying60 (.lit 0 bt_ok [y45]) (by show _ * 1 ≤ _; (try simp only [List.length_nil, List.length_cons, List.length_append, List.length_take, List.length_drop, List.length_set, List.length_replicate, List.length_reverse]); omega) (by (try simp only [List.length_nil, List.length_cons, List.length_append, List.length_take, List.length_drop, List.length_set, List.length_replicate, List.length_reverse]); omega) (fun v48 => ?_)
          refine s_lt (t_pure v48) ?_
          refine s_nil ?_
          refine xs_block ?_
          refine xs_then ?_
          refine k_reg ?_
          refine s_lt (t_pure (.int .i64 ((i : Int) - 1))) ?_
          refine s_lt (t_sub ((i : Int) - 1) 1 (by (try simp only [List.length_nil, List.length_cons, List.length_append, List.length_take, List.length_drop, List.length_set, List.length_replicate, List.length_reverse]); omega)) ?_
          refine s_lt (t_pure (.int .i64 (((i : Int) - 1) - 1))) ?_
          refine s_nil ?_
          rw [show (i : Int) - 1 - 1 = ((i - 1 : Nat) : Int) - 1 by omega]
          exact xs_round (v48, i - 1) (by show i - 1 < i; omega) (by show i - 1 ≤ D.length; omega) (sub_of rfl ⟨⟨rfl, rfl⟩, ⟨⟨rfl, rfl⟩, ⟨⟨rfl, rfl⟩, ⟨⟨rfl, rfl⟩, ⟨⟨rfl, rfl⟩, trivial⟩⟩⟩⟩⟩) (fun _ h => by show Holds _ [own _ _ (D.drop (i - 1)).reverse, _] _; rw [drop_rev (by omega) (by first | exact hy46 | (rw [← hy46]; congr 1; omega))]; exact h.re [1, 1] [2])
        ·
          have p49 := of_decide_eq_false c43
          refine k_exit ?_
          refine xs_exit ?_
          refine xs_exit ?_
          refine xs_here ?_
          refine xs_then ?_
          refine k_seq ?_
          refine k_reg ?_
          refine s_lt (t_pure sy) ?_
          refine s_lt (t_bytes bt_ok Tryd.underlying60 Tryd.underlying5 Tryd.underlying9 (.own 0)) ?_
          refine s_lt (t_pure (.string ⟨((D.drop i).reverse).toArray⟩)) ?_
          refine s_lt (t_pure (.int .i64 0)) ?_
          refine s_nil ?_
          refine xs_then ?_
          refine k_ret ?_
          have hi0 : i = 0 := by omega
          have he : itoa n = (D.drop i).reverse := by
            rw [hi0, List.drop_zero, itoa]
            first
            | (rw [if_pos (by omega), ← hU2, hfin, hD]; simp)
            | rw [if_neg (by omega), show n.toNat = U by omega, hfin, hD]
          exact xs_fin [.string ⟨((D.drop i).reverse).toArray⟩, .int .i64 0] [] (SI.tmp 4 (SI.tmp 5 SI.nil)) (fun _ h => h.re [] [0, 0]) ⟨by rw [he]; rfl, rfl⟩
end Go.Proofs.YtiddapedgkifoaaDoor
