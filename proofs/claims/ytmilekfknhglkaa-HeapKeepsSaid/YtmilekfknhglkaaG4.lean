/-
  Tables of the program: what follows a key, sizes, insertion, removal. Each law says its conditions.
-/
import Derived.Test.YtmilekfknhglkaaG3
import Derived.Test.YtmilekfknhglkaaG2
import Derived.Shelf.Sort.Plain
import Derived.Lib.SlKeysI
import Derived.Shelf.SlIterI.Nil
import Derived.Shelf.SortM.Plain
import Derived.Shelf.SortM.SortNone
import Derived.Ground.GgzProg
import Derived.Ground.SlgmProg
section
set_option linter.unusedSimpArgs false
set_option linter.unusedVariables false
set_option maxRecDepth 100000
set_option maxHeartbeats 2000000
namespace Go.Proofs.Ytmilekfknhglkaa
open Go.Hp Go.J Go.S
open Go.Mem (Ty KTy blk elemAt pre suf blk_pre blk_suf aget aset strK aggDesc)
open Go.Mem (adel apos aget_aset aget_adel)
theorem tbafter_s {Z : Zone} {F : List Asr} {b : Nat} {L : List Vl} {S : List Slt} (hl : L.length ≤ 100000) (hs : S.length ≤ 100000) (x : Int) (hx0 : 0 ≤ x) (hx1 : x ≤ L.length) : SF Try.prog 49 #[.pointer (some ⟨b, 0, none⟩), .int .i64 x] Z (tbA b L S :: F) fun r Bs => r = nextV (tafter ⟨L, S⟩ x.toNat) ∧ Bs = tbA b L S :: F := by
 refine sf_enter Try.func49 48 [(0, pB b 0), (1, .int .i64 x)] (fun w0 => ?_)
 refine k_sr ?_
 refine s_alloc (.agg #[.int .i64 0, .int .i64 0, .int .i64 0, .string ByteArray.empty, .int .i64 0]) #[.int .i64 0, .int .i64 0, .int .i64 0, .string ByteArray.empty, .int .i64 0] (fun g1 => ?_)
 refine s_alloc (.agg #[.int .i64 0, .int .i64 0, .int .i64 0, .string ByteArray.empty, .int .i64 0]) #[.int .i64 0, .int .i64 0, .int .i64 0, .string ByteArray.empty, .int .i64 0] (fun g2 => ?_)
 refine sp (.bool false) ?_
 refine sp (.int .i64 0) ?_
 refine s_nt ?_
 refine k_seq ?_
 refine k_sr ?_
 refine sp (.int .i64 x) ?_
 refine sp (.int .i64 x) ?_
 refine s_nt ?_
 refine k_block ?_
 refine k_loop (ι := Nat) (fun i => x.toNat ≤ i ∧ i ≤ L.length ∧ seek (L.drop i) i = seek (L.drop x.toNat) x.toNat) (fun i => [(0, pB b 0), (4, pB g1 0), (5, pB g2 0), (8, .int .i64 (i : Int))]) (fun i => blkA g2 #[.int .i64 0, .int .i64 0, .int .i64 0, .string ByteArray.empty, .int .i64 0] 26 :: blkA g1 #[.int .i64 0, .int .i64 0, .int .i64 0, .string ByteArray.empty, .int .i64 0] 26 :: tbA b L S :: F) (fun i => L.length - i) x.toNat ⟨by omega, by omega, rfl⟩ (sub_of rfl ⟨⟨rfl, rfl⟩, ⟨⟨rfl, rfl⟩, ⟨⟨rfl, rfl⟩, ⟨⟨rfl, congrArg (Value.int .i64) (by omega)⟩, trivial⟩⟩⟩⟩) (fun _ h => h.re [0, 0, 0] []) ?_
 rintro i hi3
 show SK _ _ _ _ _ [(0, .pointer (some ⟨b, 0, none⟩)), (4, .pointer (some ⟨g1, 0, none⟩)), (5, .pointer (some ⟨g2, 0, none⟩)), (8, .int .i64 (i : Int))] _ (blkA g2 #[.int .i64 0, .int .i64 0, .int .i64 0, .string ByteArray.empty, .int .i64 0] 26 :: blkA g1 #[.int .i64 0, .int .i64 0, .int .i64 0, .string ByteArray.empty, .int .i64 0] 26 :: tbA b L S :: F)
 refine k_seq ?_
 refine k_sr ?_
 refine sp (.int .i64 (i : Int)) ?_
 refine sp (pB b 0) ?_
 refine sp (pB b 0) ?_
 refine sp (pB b 0) ?_
 refine s_mem2 (fun H h => tb_open (h.re [2] [])) (fun lv4 r5 hw => ?_)
 refine s_lt (t_load 0 lv4) ?_
 refine s_lt (t_len VlT_ok Try.underlying22 (.own 1)) ?_
 refine s_lt t_cmp ?_
 refine s_nt ?_
 refine k_cond (decide ((i : Int) < (L.length : Int))) (fun c6 => ?_) (fun c6 => ?_)
 ·
  have p7 := of_decide_eq_true c6
  refine k_st ?_
  refine k_seq ?_
  refine k_block ?_
  refine k_sr ?_
  refine sp (pB b 0) ?_
  refine sp (pB b 0) ?_
  refine sp (pB b 0) ?_
  refine s_lt (t_load 0 lv4) ?_
  refine sp (.int .i64 (i : Int)) ?_
  refine s_lt (t_index VlT_ok Try.underlying22 (.own 1) (i : Int) i (by omega) (by (try simp only [lnm]); omega) (by omega)) ?_
  refine sp (.pointer (some (elemAt VlT.size lv4 i))) ?_
  obtain ⟨y8, hy9⟩ : ∃ y, L[i]? = some y := ⟨_, List.getElem?_eq_getElem (by (try simp only [lnm]); omega)⟩
  refine s_lt (t_loadF 0 VlT_ok (.own 1) hy9) ?_
  refine s_lt t_cmp ?_
  refine s_nt ?_
  refine k_cond (decide (y8.kind ≠ 0)) (fun c10 => ?_) (fun c10 => ?_)
  ·
   have p11 := of_decide_eq_true c10
   refine k_seq ?_
   refine k_held [blkA b #[lv4, pB r5 0] 80, own VlT lv4 L] ?_
   refine hp_ 0 [0, 0] (.int .i64 (i : Int)) ?_
   refine h_l 1 rfl [0, 0] (fun _ => (t_add (i : Int) 1 (by (try simp only [lnm]); omega))) ?_
   refine hp_ 3 [0, 0] (pB b 0) ?_
   refine hp_ 4 [0, 0] (pB b 0) ?_
   refine hp_ 5 [0, 0] (pB b 0) ?_
   refine h_l 6 rfl [0, 0] (fun _ => (t_load 0 lv4)) ?_
   refine hp_ 7 [0, 0] (.int .i64 (i : Int)) ?_
   refine h_l 8 rfl [0, 0] (fun _ => (t_index VlT_ok Try.underlying22 (.own 1) (i : Int) i (by omega) (by (try simp only [lnm]); omega) (by omega))) ?_
   refine h_l 9 rfl [0, 0] (fun _ => (t_loadE VlT_ok (.own 1) hy9)) ?_
   refine h_stepS 2 ?_
   refine s_vcall (fun _ h => ofint_s ((i : Int) + 1)) ?_
   rintro _ rfl
   refine s_nil (xs_held [0, 0] ?_)
   refine h_stepS 10 ?_
   refine s_store 4 #[.int .i64 ((ofI ((i : Int) + 1)).kind), .int .i64 ((ofI ((i : Int) + 1)).p), .int .i64 ((ofI ((i : Int) + 1)).q), .string ((ofI ((i : Int) + 1)).str), .int .i64 ((ofI ((i : Int) + 1)).ref)] ?_
   refine s_nil (xs_held [0, 0] ?_)
   refine h_stepS 11 ?_
   refine s_store 3 #[.int .i64 y8.kind, .int .i64 y8.p, .int .i64 y8.q, .string y8.str, .int .i64 y8.ref] ?_
   refine s_nil (xs_held [0, 0] ?_)
   refine hp_ 12 [0, 0] (.bool true) ?_
   refine hp_ 13 [0, 0] (.int .i64 0) ?_
   refine h_doneS ?_
   refine xs_then ?_
   refine k_ret ?_
   refine xs_retBlock ?_
   refine xs_ret ?_
   refine xs_ret ?_
   refine xs_retBlock ?_
   refine xs_ret ?_
   refine xs_mem (fun _ h => tb_shut (h.re [0, 0, 0] [])) ?_
   have hp : tafter ⟨L, S⟩ x.toNat = (ofI ((i : Int) + 1), y8, true, 0) := after_found (T := ⟨L, S⟩) hi3.2.2 hy9 (of_decide_eq_true c10)
   refine xs_fin [.agg #[.int .i64 ((ofI ((i : Int) + 1)).kind), .int .i64 ((ofI ((i : Int) + 1)).p), .int .i64 ((ofI ((i : Int) + 1)).q), .string ((ofI ((i : Int) + 1)).str), .int .i64 ((ofI ((i : Int) + 1)).ref)], .agg #[.int .i64 y8.kind, .int .i64 y8.p, .int .i64 y8.q, .string y8.str, .int .i64 y8.ref], .bool true, .int .i64 0] (tbA b L S :: F) (SI.agg 4 26 2 (SI.agg 5 26 1 (SI.tmp 6 (SI.tmp 7 SI.nil)))) (fun _ h => h.re [0] [1, 1]) ⟨?_, rfl⟩
   rw [hp]; rfl
  ·
   have p12 := Decidable.not_not.1 (of_decide_eq_false c10)
   refine k_skip ?_
   refine xs_block ?_
   refine xs_then ?_
   refine k_reg ?_
   refine sp (.int .i64 (i : Int)) ?_
   refine s_lt (t_add (i : Int) 1 (by (try simp only [lnm]); omega)) ?_
   refine sp (.int .i64 ((i : Int) + 1)) ?_
   refine s_nil ?_
   refine xs_mem (fun _ h => tb_shut (h.re [0, 0, 0] [])) ?_
   exact xs_round (i + 1) (by omega) ⟨by omega, by omega, seek_step hi3.2.2 hy9 (of_decide_eq_false c10)⟩ (sub_of rfl ⟨⟨rfl, rfl⟩, ⟨⟨rfl, rfl⟩, ⟨⟨rfl, rfl⟩, ⟨⟨rfl, rfl⟩, trivial⟩⟩⟩⟩) (fun _ h => h.re [1, 1, 0] [])
 ·
  have p13 := of_decide_eq_false c6
  refine k_exit ?_
  refine xs_exit ?_
  refine xs_exit ?_
  refine xs_here ?_
  refine xs_then ?_
  refine k_sr ?_
  refine sp (pB b 0) ?_
  refine sp (pB b 0) ?_
  refine sp (pB b 1) ?_
  refine s_lt (t_load 0 (pB r5 0)) ?_
  refine s_lt (t_kern (.agg #[.int .i64 0, .int .i64 0, .int .i64 0, .string ByteArray.empty, .int .i64 0])) ?_
  refine s_call [2] (omnext_s (S := S) (by (try simp only [lnm]); omega) zVl) ?_
  rintro _ _ ⟨rfl, rfl⟩
  refine sp (.agg #[.int .i64 (((onext S zVl).1).kind), .int .i64 (((onext S zVl).1).p), .int .i64 (((onext S zVl).1).q), .string (((onext S zVl).1).str), .int .i64 (((onext S zVl).1).ref)]) ?_
  refine sp (.agg #[.int .i64 (((onext S zVl).2.1).kind), .int .i64 (((onext S zVl).2.1).p), .int .i64 (((onext S zVl).2.1).q), .string (((onext S zVl).2.1).str), .int .i64 (((onext S zVl).2.1).ref)]) ?_
  refine sp (.bool ((onext S zVl).2.2.1)) ?_
  refine sp (.int .i64 ((onext S zVl).2.2.2)) ?_
  refine s_store 4 #[.int .i64 (((onext S zVl).1).kind), .int .i64 (((onext S zVl).1).p), .int .i64 (((onext S zVl).1).q), .string (((onext S zVl).1).str), .int .i64 (((onext S zVl).1).ref)] ?_
  refine s_store 3 #[.int .i64 (((onext S zVl).2.1).kind), .int .i64 (((onext S zVl).2.1).p), .int .i64 (((onext S zVl).2.1).q), .string (((onext S zVl).2.1).str), .int .i64 (((onext S zVl).2.1).ref)] ?_
  refine sp (.bool ((onext S zVl).2.2.1)) ?_
  refine sp (.int .i64 ((onext S zVl).2.2.2)) ?_
  refine s_nt ?_
  refine k_ret ?_
  refine xs_mem (fun _ h => tb_shut (h.re [1, 1, 0] [])) ?_
  have hp : tafter ⟨L, S⟩ x.toNat = onext S zVl := after_none (T := ⟨L, S⟩) hi3.2.2 (by show L.length ≤ i; omega)
  refine xs_fin [.agg #[.int .i64 (((onext S zVl).1).kind), .int .i64 (((onext S zVl).1).p), .int .i64 (((onext S zVl).1).q), .string (((onext S zVl).1).str), .int .i64 (((onext S zVl).1).ref)], .agg #[.int .i64 (((onext S zVl).2.1).kind), .int .i64 (((onext S zVl).2.1).p), .int .i64 (((onext S zVl).2.1).q), .string (((onext S zVl).2.1).str), .int .i64 (((onext S zVl).2.1).ref)], .bool ((onext S zVl).2.2.1), .int .i64 ((onext S zVl).2.2.2)] (tbA b L S :: F) (SI.agg 4 26 2 (SI.agg 5 26 1 (SI.tmp 6 (SI.tmp 7 SI.nil)))) (fun _ h => h.re [0] [1, 1]) ⟨?_, rfl⟩
  rw [hp]; rfl
theorem tbnext_s {Z : Zone} {F : List Asr} {b : Nat} {L : List Vl} {S : List Slt} (hl : L.length ≤ 100000) (hs : S.length ≤ 100000) (k : Vl) : SF Try.prog 17 #[.pointer (some ⟨b, 0, none⟩), k.v] Z (tbA b L S :: F) fun r Bs => r = nextV (tnext ⟨L, S⟩ k) ∧ Bs = tbA b L S :: F := by
 refine sf_enter Try.func17 89 [(0, pB b 0), (1, .agg #[.int .i64 k.kind, .int .i64 k.p, .int .i64 k.q, .string k.str, .int .i64 k.ref])] (fun w0 => ?_)
 refine k_sr ?_
 refine s_box #[.int .i64 k.kind, .int .i64 k.p, .int .i64 k.q, .string k.str, .int .i64 k.ref] (fun g1 => ?_)
 refine s_alloc (.agg #[.int .i64 0, .int .i64 0, .int .i64 0, .string ByteArray.empty, .int .i64 0]) #[.int .i64 0, .int .i64 0, .int .i64 0, .string ByteArray.empty, .int .i64 0] (fun g2 => ?_)
 refine s_alloc (.agg #[.int .i64 0, .int .i64 0, .int .i64 0, .string ByteArray.empty, .int .i64 0]) #[.int .i64 0, .int .i64 0, .int .i64 0, .string ByteArray.empty, .int .i64 0] (fun g3 => ?_)
 refine sp (.bool false) ?_
 refine sp (.int .i64 0) ?_
 refine s_nt ?_
 refine k_seq ?_
 refine k_sr ?_
 refine sp (pB b 0) ?_
 refine sp (.bool false) ?_
 refine s_nt ?_
 refine k_false ?_
 refine k_st ?_
 refine k_seq ?_
 refine k_sr ?_
 refine s_lt (t_loadA 2 #[.int .i64 k.kind, .int .i64 k.p, .int .i64 k.q, .string k.str, .int .i64 k.ref]) ?_
 refine s_lt (t_kern (.agg #[.int .i64 0, .int .i64 0, .int .i64 0, .string ByteArray.empty, .int .i64 0])) ?_
 refine s_lt (t_eqS (fun w => (eqVlT k zVl w).1)) ?_
 refine s_nt ?_
 refine k_cond (decide (k = zVl)) (fun c4 => ?_) (fun c4 => ?_)
 ·
  have p5 := of_decide_eq_true c4
  refine k_sr ?_
  refine sp (pB b 0) ?_
  refine s_call [3] (tbafter_s (L := L) (S := S) (by (try simp only [lnm]); omega) (by (try simp only [lnm]); omega) 0 (by omega) (by (try simp only [lnm]); omega)) ?_
  rintro _ _ ⟨rfl, rfl⟩
  refine sp (.agg #[.int .i64 (((tafter ⟨L, S⟩ (0 : Int).toNat).1).kind), .int .i64 (((tafter ⟨L, S⟩ (0 : Int).toNat).1).p), .int .i64 (((tafter ⟨L, S⟩ (0 : Int).toNat).1).q), .string (((tafter ⟨L, S⟩ (0 : Int).toNat).1).str), .int .i64 (((tafter ⟨L, S⟩ (0 : Int).toNat).1).ref)]) ?_
  refine sp (.agg #[.int .i64 (((tafter ⟨L, S⟩ (0 : Int).toNat).2.1).kind), .int .i64 (((tafter ⟨L, S⟩ (0 : Int).toNat).2.1).p), .int .i64 (((tafter ⟨L, S⟩ (0 : Int).toNat).2.1).q), .string (((tafter ⟨L, S⟩ (0 : Int).toNat).2.1).str), .int .i64 (((tafter ⟨L, S⟩ (0 : Int).toNat).2.1).ref)]) ?_
  refine sp (.bool ((tafter ⟨L, S⟩ (0 : Int).toNat).2.2.1)) ?_
  refine sp (.int .i64 ((tafter ⟨L, S⟩ (0 : Int).toNat).2.2.2)) ?_
  refine s_store 2 #[.int .i64 (((tafter ⟨L, S⟩ (0 : Int).toNat).1).kind), .int .i64 (((tafter ⟨L, S⟩ (0 : Int).toNat).1).p), .int .i64 (((tafter ⟨L, S⟩ (0 : Int).toNat).1).q), .string (((tafter ⟨L, S⟩ (0 : Int).toNat).1).str), .int .i64 (((tafter ⟨L, S⟩ (0 : Int).toNat).1).ref)] ?_
  refine s_store 1 #[.int .i64 (((tafter ⟨L, S⟩ (0 : Int).toNat).2.1).kind), .int .i64 (((tafter ⟨L, S⟩ (0 : Int).toNat).2.1).p), .int .i64 (((tafter ⟨L, S⟩ (0 : Int).toNat).2.1).q), .string (((tafter ⟨L, S⟩ (0 : Int).toNat).2.1).str), .int .i64 (((tafter ⟨L, S⟩ (0 : Int).toNat).2.1).ref)] ?_
  refine sp (.bool ((tafter ⟨L, S⟩ (0 : Int).toNat).2.2.1)) ?_
  refine sp (.int .i64 ((tafter ⟨L, S⟩ (0 : Int).toNat).2.2.2)) ?_
  refine s_nt ?_
  refine k_ret ?_
  refine xs_ret ?_
  have hp : tnext ⟨L, S⟩ k = tafter ⟨L, S⟩ 0 := by rw [of_decide_eq_true c4]; exact tnext_nil
  refine xs_fin [.agg #[.int .i64 (((tafter ⟨L, S⟩ (0 : Int).toNat).1).kind), .int .i64 (((tafter ⟨L, S⟩ (0 : Int).toNat).1).p), .int .i64 (((tafter ⟨L, S⟩ (0 : Int).toNat).1).q), .string (((tafter ⟨L, S⟩ (0 : Int).toNat).1).str), .int .i64 (((tafter ⟨L, S⟩ (0 : Int).toNat).1).ref)], .agg #[.int .i64 (((tafter ⟨L, S⟩ (0 : Int).toNat).2.1).kind), .int .i64 (((tafter ⟨L, S⟩ (0 : Int).toNat).2.1).p), .int .i64 (((tafter ⟨L, S⟩ (0 : Int).toNat).2.1).q), .string (((tafter ⟨L, S⟩ (0 : Int).toNat).2.1).str), .int .i64 (((tafter ⟨L, S⟩ (0 : Int).toNat).2.1).ref)], .bool ((tafter ⟨L, S⟩ (0 : Int).toNat).2.2.1), .int .i64 ((tafter ⟨L, S⟩ (0 : Int).toNat).2.2.2)] (tbA b L S :: F) (SI.agg 4 26 2 (SI.agg 5 26 1 (SI.tmp 6 (SI.tmp 7 SI.nil)))) (fun _ h => h.re [0] [1, 1, 1]) ⟨?_, rfl⟩
  rw [hp]; rfl
 ·
  have p6 := of_decide_eq_false c4
  refine k_st ?_
  refine k_sr ?_
  refine s_lt (t_loadA 2 #[.int .i64 k.kind, .int .i64 k.p, .int .i64 k.q, .string k.str, .int .i64 k.ref]) ?_
  refine s_vcall (fun _ h => integer_s k) ?_
  rintro u7 e8
  rcases int_cases k with ⟨hi9, hp10, hv11⟩ | ⟨hi12, hw13⟩
  ·
   rw [hi9, hp10] at e8; subst e8
   refine sp (.tuple #[.int .i64 (whole k), .bool true]) ?_
   refine sp (.int .i64 (whole k)) ?_
   refine sp (.bool true) ?_
   refine sp (.int .i64 (whole k)) ?_
   refine sp (.bool true) ?_
   refine s_nt ?_
   refine k_seq ?_
   refine k_sr ?_
   refine sp (.bool true) ?_
   refine sp (.bool true) ?_
   refine sp (.int .i64 (whole k)) ?_
   refine s_lt t_cmp ?_
   refine sp (.bool (decide ((1 : Int) ≤ (whole k)))) ?_
   refine sp (.bool (decide ((1 : Int) ≤ (whole k)))) ?_
   refine s_fork 37 (decide ((1 : Int) ≤ (whole k))) (fun c14 => ?_) (fun c14 => ?_)
   ·
    have p15 := of_decide_eq_true c14
    refine sp (.int .i64 (whole k)) ?_
    refine sp (pB b 0) ?_
    refine sp (pB b 0) ?_
    refine sp (pB b 0) ?_
    refine s_mem2 (fun H h => tb_open (h.re [3] [])) (fun lv16 r17 hw => ?_)
    refine s_lt (t_load 0 lv16) ?_
    refine s_lt (t_len VlT_ok Try.underlying22 (.own 1)) ?_
    refine s_lt t_cmp ?_
    refine sp (.bool (decide ((whole k) ≤ (L.length : Int)))) ?_
    refine s_nt ?_
    refine k_cond (decide ((whole k) ≤ (L.length : Int))) (fun c18 => ?_) (fun c18 => ?_)
    ·
     have p19 := of_decide_eq_true c18
     refine k_sr ?_
     refine sp (pB b 0) ?_
     refine sp (.int .i64 (whole k)) ?_
     refine s_mem (fun _ h => tb_shut (h.re [0, 0, 0] [])) ?_
     refine s_call [0] (tbafter_s (L := L) (S := S) (by (try simp only [lnm]); omega) (by (try simp only [lnm]); omega) (whole k) (by omega) (by (try simp only [lnm]); omega)) ?_
     rintro _ _ ⟨rfl, rfl⟩
     refine sp (.agg #[.int .i64 (((tafter ⟨L, S⟩ ((whole k) : Int).toNat).1).kind), .int .i64 (((tafter ⟨L, S⟩ ((whole k) : Int).toNat).1).p), .int .i64 (((tafter ⟨L, S⟩ ((whole k) : Int).toNat).1).q), .string (((tafter ⟨L, S⟩ ((whole k) : Int).toNat).1).str), .int .i64 (((tafter ⟨L, S⟩ ((whole k) : Int).toNat).1).ref)]) ?_
     refine sp (.agg #[.int .i64 (((tafter ⟨L, S⟩ ((whole k) : Int).toNat).2.1).kind), .int .i64 (((tafter ⟨L, S⟩ ((whole k) : Int).toNat).2.1).p), .int .i64 (((tafter ⟨L, S⟩ ((whole k) : Int).toNat).2.1).q), .string (((tafter ⟨L, S⟩ ((whole k) : Int).toNat).2.1).str), .int .i64 (((tafter ⟨L, S⟩ ((whole k) : Int).toNat).2.1).ref)]) ?_
     refine sp (.bool ((tafter ⟨L, S⟩ ((whole k) : Int).toNat).2.2.1)) ?_
     refine sp (.int .i64 ((tafter ⟨L, S⟩ ((whole k) : Int).toNat).2.2.2)) ?_
     refine s_store 2 #[.int .i64 (((tafter ⟨L, S⟩ ((whole k) : Int).toNat).1).kind), .int .i64 (((tafter ⟨L, S⟩ ((whole k) : Int).toNat).1).p), .int .i64 (((tafter ⟨L, S⟩ ((whole k) : Int).toNat).1).q), .string (((tafter ⟨L, S⟩ ((whole k) : Int).toNat).1).str), .int .i64 (((tafter ⟨L, S⟩ ((whole k) : Int).toNat).1).ref)] ?_
     refine s_store 1 #[.int .i64 (((tafter ⟨L, S⟩ ((whole k) : Int).toNat).2.1).kind), .int .i64 (((tafter ⟨L, S⟩ ((whole k) : Int).toNat).2.1).p), .int .i64 (((tafter ⟨L, S⟩ ((whole k) : Int).toNat).2.1).q), .string (((tafter ⟨L, S⟩ ((whole k) : Int).toNat).2.1).str), .int .i64 (((tafter ⟨L, S⟩ ((whole k) : Int).toNat).2.1).ref)] ?_
     refine sp (.bool ((tafter ⟨L, S⟩ ((whole k) : Int).toNat).2.2.1)) ?_
     refine sp (.int .i64 ((tafter ⟨L, S⟩ ((whole k) : Int).toNat).2.2.2)) ?_
     refine s_nt ?_
     refine k_ret ?_
     refine xs_ret ?_
     have hz : k ≠ zVl := of_decide_eq_false c4
     have hp : tnext ⟨L, S⟩ k = tafter ⟨L, S⟩ (whole k).toNat := tnext_in hz (by omega) (by show _ ≤ (L.length : Int); omega)
     refine xs_fin [.agg #[.int .i64 (((tafter ⟨L, S⟩ ((whole k) : Int).toNat).1).kind), .int .i64 (((tafter ⟨L, S⟩ ((whole k) : Int).toNat).1).p), .int .i64 (((tafter ⟨L, S⟩ ((whole k) : Int).toNat).1).q), .string (((tafter ⟨L, S⟩ ((whole k) : Int).toNat).1).str), .int .i64 (((tafter ⟨L, S⟩ ((whole k) : Int).toNat).1).ref)], .agg #[.int .i64 (((tafter ⟨L, S⟩ ((whole k) : Int).toNat).2.1).kind), .int .i64 (((tafter ⟨L, S⟩ ((whole k) : Int).toNat).2.1).p), .int .i64 (((tafter ⟨L, S⟩ ((whole k) : Int).toNat).2.1).q), .string (((tafter ⟨L, S⟩ ((whole k) : Int).toNat).2.1).str), .int .i64 (((tafter ⟨L, S⟩ ((whole k) : Int).toNat).2.1).ref)], .bool ((tafter ⟨L, S⟩ ((whole k) : Int).toNat).2.2.1), .int .i64 ((tafter ⟨L, S⟩ ((whole k) : Int).toNat).2.2.2)] (tbA b L S :: F) (SI.agg 4 26 2 (SI.agg 5 26 1 (SI.tmp 6 (SI.tmp 7 SI.nil)))) (fun _ h => h.re [0] [1, 1, 1]) ⟨?_, rfl⟩
     rw [hp]; rfl
    ·
     have p20 := of_decide_eq_false c18
     refine k_st ?_
     refine k_cut (ι := Nat × Nat) (fun _ => True) (fun (jb10, jb11) => [(0, pB b 0), (4, pB g2 0), (5, pB g3 0), (8, .int .i64 (whole k)), (9, .bool true), (10, pB jb10 0), (11, pB jb11 0), (12, .bool ((onext S k).2.2.1)), (13, .int .i64 ((onext S k).2.2.2))]) (fun (jb10, jb11) => blkA jb10 #[.int .i64 (((onext S k).1).kind), .int .i64 (((onext S k).1).p), .int .i64 (((onext S k).1).q), .string (((onext S k).1).str), .int .i64 (((onext S k).1).ref)] 26 :: blkA jb11 #[.int .i64 (((onext S k).2.1).kind), .int .i64 (((onext S k).2.1).p), .int .i64 (((onext S k).2.1).q), .string (((onext S k).2.1).str), .int .i64 (((onext S k).2.1).ref)] 26 :: blkA b #[lv16, pB r17 0] 80 :: own VlT lv16 L :: omA r17 S :: blkA g3 #[.int .i64 0, .int .i64 0, .int .i64 0, .string ByteArray.empty, .int .i64 0] 26 :: blkA g2 #[.int .i64 0, .int .i64 0, .int .i64 0, .string ByteArray.empty, .int .i64 0] 26 :: blkA g1 #[.int .i64 k.kind, .int .i64 k.p, .int .i64 k.q, .string k.str, .int .i64 k.ref] 26 :: F) ?_ (fun ix _ => ?_)
     ·
      refine k_held [blkA b #[lv16, pB r17 0] 80, own VlT lv16 L, blkA g3 #[.int .i64 0, .int .i64 0, .int .i64 0, .string ByteArray.empty, .int .i64 0] 26, blkA g2 #[.int .i64 0, .int .i64 0, .int .i64 0, .string ByteArray.empty, .int .i64 0] 26, blkA g1 #[.int .i64 k.kind, .int .i64 k.p, .int .i64 k.q, .string k.str, .int .i64 k.ref] 26] ?_
      refine hp_ 0 [0, 0, 1, 1, 1] (pB b 0) ?_
      refine hp_ 1 [0, 0, 1, 1, 1] (pB b 0) ?_
      refine hp_ 2 [0, 0, 1, 1, 1] (pB b 1) ?_
      refine h_l 3 rfl [0, 0, 1, 1, 1] (fun _ => (t_load 0 (pB r17 0))) ?_
      refine h_l 4 rfl [0, 0, 1, 1, 1] (fun _ => (t_loadA 4 #[.int .i64 k.kind, .int .i64 k.p, .int .i64 k.q, .string k.str, .int .i64 k.ref])) ?_
      refine h_stepS3 5 11 12 ?_ ?_ ?_
      ·
       refine s_call [2] (omnext_s (S := S) (by (try simp only [lnm]); omega) k) ?_
       rintro _ _ ⟨rfl, rfl⟩
       refine s_nil (xs_held [1, 1, 1, 1, 1] ?_)
       refine hp_ 6 [1, 1, 1, 1, 1] (.tuple #[.agg #[.int .i64 (((onext S k).1).kind), .int .i64 (((onext S k).1).p), .int .i64 (((onext S k).1).q), .string (((onext S k).1).str), .int .i64 (((onext S k).1).ref)], .agg #[.int .i64 (((onext S k).2.1).kind), .int .i64 (((onext S k).2.1).p), .int .i64 (((onext S k).2.1).q), .string (((onext S k).2.1).str), .int .i64 (((onext S k).2.1).ref)], .bool ((onext S k).2.2.1), .int .i64 ((onext S k).2.2.2)]) ?_
       refine hp_ 7 [1, 1, 1, 1, 1] (.agg #[.int .i64 (((onext S k).1).kind), .int .i64 (((onext S k).1).p), .int .i64 (((onext S k).1).q), .string (((onext S k).1).str), .int .i64 (((onext S k).1).ref)]) ?_
       refine hp_ 8 [1, 1, 1, 1, 1] (.agg #[.int .i64 (((onext S k).2.1).kind), .int .i64 (((onext S k).2.1).p), .int .i64 (((onext S k).2.1).q), .string (((onext S k).2.1).str), .int .i64 (((onext S k).2.1).ref)]) ?_
       refine hp_ 9 [1, 1, 1, 1, 1] (.bool ((onext S k).2.2.1)) ?_
       refine hp_ 10 [1, 1, 1, 1, 1] (.int .i64 ((onext S k).2.2.2)) ?_
       refine h_stepS2 11 12 ?_ ?_
       ·
        refine s_alloc (.agg #[.int .i64 0, .int .i64 0, .int .i64 0, .string ByteArray.empty, .int .i64 0]) #[.int .i64 0, .int .i64 0, .int .i64 0, .string ByteArray.empty, .int .i64 0] (fun g21 => ?_)
        refine s_nil (xs_held [2, 2, 2, 2, 2] ?_)
        refine h_stepS 12 ?_
        refine s_alloc (.agg #[.int .i64 0, .int .i64 0, .int .i64 0, .string ByteArray.empty, .int .i64 0]) #[.int .i64 0, .int .i64 0, .int .i64 0, .string ByteArray.empty, .int .i64 0] (fun g22 => ?_)
        refine s_nil (xs_held [3, 3, 3, 3, 3] ?_)
        refine h_stepS 13 ?_
        refine s_store 1 #[.int .i64 (((onext S k).1).kind), .int .i64 (((onext S k).1).p), .int .i64 (((onext S k).1).q), .string (((onext S k).1).str), .int .i64 (((onext S k).1).ref)] ?_
        refine s_nil (xs_held [3, 3, 3, 3, 3] ?_)
        refine h_stepS 14 ?_
        refine s_store 0 #[.int .i64 (((onext S k).2.1).kind), .int .i64 (((onext S k).2.1).p), .int .i64 (((onext S k).2.1).q), .string (((onext S k).2.1).str), .int .i64 (((onext S k).2.1).ref)] ?_
        refine s_nil (xs_held [3, 3, 3, 3, 3] ?_)
        refine hp_ 15 [3, 3, 3, 3, 3] (.bool ((onext S k).2.2.1)) ?_
        refine hp_ 16 [3, 3, 3, 3, 3] (.int .i64 ((onext S k).2.2.2)) ?_
        refine h_doneS ?_
        exact xcut (g21, g22) (fun _ h => h.re [1, 0, 1, 1, 0, 0, 0, 0] [])
       ·
        refine s_alloc (.agg #[.int .i64 0, .int .i64 0, .int .i64 0, .string ByteArray.empty, .int .i64 0]) #[.int .i64 0, .int .i64 0, .int .i64 0, .string ByteArray.empty, .int .i64 0] (fun g23 => ?_)
        refine s_nil (xs_held [2, 2, 2, 2, 2] ?_)
        refine h_stepS 11 ?_
        refine s_alloc (.agg #[.int .i64 0, .int .i64 0, .int .i64 0, .string ByteArray.empty, .int .i64 0]) #[.int .i64 0, .int .i64 0, .int .i64 0, .string ByteArray.empty, .int .i64 0] (fun g24 => ?_)
        refine s_nil (xs_held [3, 3, 3, 3, 3] ?_)
        refine h_stepS 13 ?_
        refine s_store 0 #[.int .i64 (((onext S k).1).kind), .int .i64 (((onext S k).1).p), .int .i64 (((onext S k).1).q), .string (((onext S k).1).str), .int .i64 (((onext S k).1).ref)] ?_
        refine s_nil (xs_held [3, 3, 3, 3, 3] ?_)
        refine h_stepS 14 ?_
        refine s_store 1 #[.int .i64 (((onext S k).2.1).kind), .int .i64 (((onext S k).2.1).p), .int .i64 (((onext S k).2.1).q), .string (((onext S k).2.1).str), .int .i64 (((onext S k).2.1).ref)] ?_
        refine s_nil (xs_held [3, 3, 3, 3, 3] ?_)
        refine hp_ 15 [3, 3, 3, 3, 3] (.bool ((onext S k).2.2.1)) ?_
        refine hp_ 16 [3, 3, 3, 3, 3] (.int .i64 ((onext S k).2.2.2)) ?_
        refine h_doneS ?_
        exact xcut (g24, g23) (fun _ h => h.re [0, 0, 1, 1, 0, 0, 0, 0] [])
      ·
       refine s_alloc (.agg #[.int .i64 0, .int .i64 0, .int .i64 0, .string ByteArray.empty, .int .i64 0]) #[.int .i64 0, .int .i64 0, .int .i64 0, .string ByteArray.empty, .int .i64 0] (fun g25 => ?_)
       refine s_nil (xs_held [1, 1, 2, 2, 2] ?_)
       refine h_stepS2 5 12 ?_ ?_
       ·
        refine s_call [3] (omnext_s (S := S) (by (try simp only [lnm]); omega) k) ?_
        rintro _ _ ⟨rfl, rfl⟩
        refine s_nil (xs_held [2, 2, 2, 2, 2] ?_)
        refine hp_ 6 [2, 2, 2, 2, 2] (.tuple #[.agg #[.int .i64 (((onext S k).1).kind), .int .i64 (((onext S k).1).p), .int .i64 (((onext S k).1).q), .string (((onext S k).1).str), .int .i64 (((onext S k).1).ref)], .agg #[.int .i64 (((onext S k).2.1).kind), .int .i64 (((onext S k).2.1).p), .int .i64 (((onext S k).2.1).q), .string (((onext S k).2.1).str), .int .i64 (((onext S k).2.1).ref)], .bool ((onext S k).2.2.1), .int .i64 ((onext S k).2.2.2)]) ?_
        refine hp_ 7 [2, 2, 2, 2, 2] (.agg #[.int .i64 (((onext S k).1).kind), .int .i64 (((onext S k).1).p), .int .i64 (((onext S k).1).q), .string (((onext S k).1).str), .int .i64 (((onext S k).1).ref)]) ?_
        refine hp_ 8 [2, 2, 2, 2, 2] (.agg #[.int .i64 (((onext S k).2.1).kind), .int .i64 (((onext S k).2.1).p), .int .i64 (((onext S k).2.1).q), .string (((onext S k).2.1).str), .int .i64 (((onext S k).2.1).ref)]) ?_
        refine hp_ 9 [2, 2, 2, 2, 2] (.bool ((onext S k).2.2.1)) ?_
        refine hp_ 10 [2, 2, 2, 2, 2] (.int .i64 ((onext S k).2.2.2)) ?_
        refine h_stepS 12 ?_
        refine s_alloc (.agg #[.int .i64 0, .int .i64 0, .int .i64 0, .string ByteArray.empty, .int .i64 0]) #[.int .i64 0, .int .i64 0, .int .i64 0, .string ByteArray.empty, .int .i64 0] (fun g26 => ?_)
        refine s_nil (xs_held [3, 3, 3, 3, 3] ?_)
        refine h_stepS 13 ?_
        refine s_store 2 #[.int .i64 (((onext S k).1).kind), .int .i64 (((onext S k).1).p), .int .i64 (((onext S k).1).q), .string (((onext S k).1).str), .int .i64 (((onext S k).1).ref)] ?_
        refine s_nil (xs_held [3, 3, 3, 3, 3] ?_)
        refine h_stepS 14 ?_
        refine s_store 0 #[.int .i64 (((onext S k).2.1).kind), .int .i64 (((onext S k).2.1).p), .int .i64 (((onext S k).2.1).q), .string (((onext S k).2.1).str), .int .i64 (((onext S k).2.1).ref)] ?_
        refine s_nil (xs_held [3, 3, 3, 3, 3] ?_)
        refine hp_ 15 [3, 3, 3, 3, 3] (.bool ((onext S k).2.2.1)) ?_
        refine hp_ 16 [3, 3, 3, 3, 3] (.int .i64 ((onext S k).2.2.2)) ?_
        refine h_doneS ?_
        exact xcut (g25, g26) (fun _ h => h.re [2, 0, 1, 1, 0, 0, 0, 0] [])
       ·
        refine s_alloc (.agg #[.int .i64 0, .int .i64 0, .int .i64 0, .string ByteArray.empty, .int .i64 0]) #[.int .i64 0, .int .i64 0, .int .i64 0, .string ByteArray.empty, .int .i64 0] (fun g27 => ?_)
        refine s_nil (xs_held [2, 2, 3, 3, 3] ?_)
        refine h_stepS 5 ?_
        refine s_call [4] (omnext_s (S := S) (by (try simp only [lnm]); omega) k) ?_
        rintro _ _ ⟨rfl, rfl⟩
        refine s_nil (xs_held [3, 3, 3, 3, 3] ?_)
        refine hp_ 6 [3, 3, 3, 3, 3] (.tuple #[.agg #[.int .i64 (((onext S k).1).kind), .int .i64 (((onext S k).1).p), .int .i64 (((onext S k).1).q), .string (((onext S k).1).str), .int .i64 (((onext S k).1).ref)], .agg #[.int .i64 (((onext S k).2.1).kind), .int .i64 (((onext S k).2.1).p), .int .i64 (((onext S k).2.1).q), .string (((onext S k).2.1).str), .int .i64 (((onext S k).2.1).ref)], .bool ((onext S k).2.2.1), .int .i64 ((onext S k).2.2.2)]) ?_
        refine hp_ 7 [3, 3, 3, 3, 3] (.agg #[.int .i64 (((onext S k).1).kind), .int .i64 (((onext S k).1).p), .int .i64 (((onext S k).1).q), .string (((onext S k).1).str), .int .i64 (((onext S k).1).ref)]) ?_
        refine hp_ 8 [3, 3, 3, 3, 3] (.agg #[.int .i64 (((onext S k).2.1).kind), .int .i64 (((onext S k).2.1).p), .int .i64 (((onext S k).2.1).q), .string (((onext S k).2.1).str), .int .i64 (((onext S k).2.1).ref)]) ?_
        refine hp_ 9 [3, 3, 3, 3, 3] (.bool ((onext S k).2.2.1)) ?_
        refine hp_ 10 [3, 3, 3, 3, 3] (.int .i64 ((onext S k).2.2.2)) ?_
        refine h_stepS 13 ?_
        refine s_store 2 #[.int .i64 (((onext S k).1).kind), .int .i64 (((onext S k).1).p), .int .i64 (((onext S k).1).q), .string (((onext S k).1).str), .int .i64 (((onext S k).1).ref)] ?_
        refine s_nil (xs_held [3, 3, 3, 3, 3] ?_)
        refine h_stepS 14 ?_
        refine s_store 1 #[.int .i64 (((onext S k).2.1).kind), .int .i64 (((onext S k).2.1).p), .int .i64 (((onext S k).2.1).q), .string (((onext S k).2.1).str), .int .i64 (((onext S k).2.1).ref)] ?_
        refine s_nil (xs_held [3, 3, 3, 3, 3] ?_)
        refine hp_ 15 [3, 3, 3, 3, 3] (.bool ((onext S k).2.2.1)) ?_
        refine hp_ 16 [3, 3, 3, 3, 3] (.int .i64 ((onext S k).2.2.2)) ?_
        refine h_doneS ?_
        exact xcut (g25, g27) (fun _ h => h.re [2, 1, 1, 1, 0, 0, 0, 0] [])
      ·
       refine s_alloc (.agg #[.int .i64 0, .int .i64 0, .int .i64 0, .string ByteArray.empty, .int .i64 0]) #[.int .i64 0, .int .i64 0, .int .i64 0, .string ByteArray.empty, .int .i64 0] (fun g28 => ?_)
       refine s_nil (xs_held [1, 1, 2, 2, 2] ?_)
       refine h_stepS2 5 11 ?_ ?_
       ·
        refine s_call [3] (omnext_s (S := S) (by (try simp only [lnm]); omega) k) ?_
        rintro _ _ ⟨rfl, rfl⟩
        refine s_nil (xs_held [2, 2, 2, 2, 2] ?_)
        refine hp_ 6 [2, 2, 2, 2, 2] (.tuple #[.agg #[.int .i64 (((onext S k).1).kind), .int .i64 (((onext S k).1).p), .int .i64 (((onext S k).1).q), .string (((onext S k).1).str), .int .i64 (((onext S k).1).ref)], .agg #[.int .i64 (((onext S k).2.1).kind), .int .i64 (((onext S k).2.1).p), .int .i64 (((onext S k).2.1).q), .string (((onext S k).2.1).str), .int .i64 (((onext S k).2.1).ref)], .bool ((onext S k).2.2.1), .int .i64 ((onext S k).2.2.2)]) ?_
        refine hp_ 7 [2, 2, 2, 2, 2] (.agg #[.int .i64 (((onext S k).1).kind), .int .i64 (((onext S k).1).p), .int .i64 (((onext S k).1).q), .string (((onext S k).1).str), .int .i64 (((onext S k).1).ref)]) ?_
        refine hp_ 8 [2, 2, 2, 2, 2] (.agg #[.int .i64 (((onext S k).2.1).kind), .int .i64 (((onext S k).2.1).p), .int .i64 (((onext S k).2.1).q), .string (((onext S k).2.1).str), .int .i64 (((onext S k).2.1).ref)]) ?_
        refine hp_ 9 [2, 2, 2, 2, 2] (.bool ((onext S k).2.2.1)) ?_
        refine hp_ 10 [2, 2, 2, 2, 2] (.int .i64 ((onext S k).2.2.2)) ?_
        refine h_stepS 11 ?_
        refine s_alloc (.agg #[.int .i64 0, .int .i64 0, .int .i64 0, .string ByteArray.empty, .int .i64 0]) #[.int .i64 0, .int .i64 0, .int .i64 0, .string ByteArray.empty, .int .i64 0] (fun g29 => ?_)
        refine s_nil (xs_held [3, 3, 3, 3, 3] ?_)
        refine h_stepS 13 ?_
        refine s_store 0 #[.int .i64 (((onext S k).1).kind), .int .i64 (((onext S k).1).p), .int .i64 (((onext S k).1).q), .string (((onext S k).1).str), .int .i64 (((onext S k).1).ref)] ?_
        refine s_nil (xs_held [3, 3, 3, 3, 3] ?_)
        refine h_stepS 14 ?_
        refine s_store 2 #[.int .i64 (((onext S k).2.1).kind), .int .i64 (((onext S k).2.1).p), .int .i64 (((onext S k).2.1).q), .string (((onext S k).2.1).str), .int .i64 (((onext S k).2.1).ref)] ?_
        refine s_nil (xs_held [3, 3, 3, 3, 3] ?_)
        refine hp_ 15 [3, 3, 3, 3, 3] (.bool ((onext S k).2.2.1)) ?_
        refine hp_ 16 [3, 3, 3, 3, 3] (.int .i64 ((onext S k).2.2.2)) ?_
        refine h_doneS ?_
        exact xcut (g29, g28) (fun _ h => h.re [0, 1, 1, 1, 0, 0, 0, 0] [])
       ·
        refine s_alloc (.agg #[.int .i64 0, .int .i64 0, .int .i64 0, .string ByteArray.empty, .int .i64 0]) #[.int .i64 0, .int .i64 0, .int .i64 0, .string ByteArray.empty, .int .i64 0] (fun g30 => ?_)
        refine s_nil (xs_held [2, 2, 3, 3, 3] ?_)
        refine h_stepS 5 ?_
        refine s_call [4] (omnext_s (S := S) (by (try simp only [lnm]); omega) k) ?_
        rintro _ _ ⟨rfl, rfl⟩
        refine s_nil (xs_held [3, 3, 3, 3, 3] ?_)
        refine hp_ 6 [3, 3, 3, 3, 3] (.tuple #[.agg #[.int .i64 (((onext S k).1).kind), .int .i64 (((onext S k).1).p), .int .i64 (((onext S k).1).q), .string (((onext S k).1).str), .int .i64 (((onext S k).1).ref)], .agg #[.int .i64 (((onext S k).2.1).kind), .int .i64 (((onext S k).2.1).p), .int .i64 (((onext S k).2.1).q), .string (((onext S k).2.1).str), .int .i64 (((onext S k).2.1).ref)], .bool ((onext S k).2.2.1), .int .i64 ((onext S k).2.2.2)]) ?_
        refine hp_ 7 [3, 3, 3, 3, 3] (.agg #[.int .i64 (((onext S k).1).kind), .int .i64 (((onext S k).1).p), .int .i64 (((onext S k).1).q), .string (((onext S k).1).str), .int .i64 (((onext S k).1).ref)]) ?_
        refine hp_ 8 [3, 3, 3, 3, 3] (.agg #[.int .i64 (((onext S k).2.1).kind), .int .i64 (((onext S k).2.1).p), .int .i64 (((onext S k).2.1).q), .string (((onext S k).2.1).str), .int .i64 (((onext S k).2.1).ref)]) ?_
        refine hp_ 9 [3, 3, 3, 3, 3] (.bool ((onext S k).2.2.1)) ?_
        refine hp_ 10 [3, 3, 3, 3, 3] (.int .i64 ((onext S k).2.2.2)) ?_
        refine h_stepS 13 ?_
        refine s_store 1 #[.int .i64 (((onext S k).1).kind), .int .i64 (((onext S k).1).p), .int .i64 (((onext S k).1).q), .string (((onext S k).1).str), .int .i64 (((onext S k).1).ref)] ?_
        refine s_nil (xs_held [3, 3, 3, 3, 3] ?_)
        refine h_stepS 14 ?_
        refine s_store 2 #[.int .i64 (((onext S k).2.1).kind), .int .i64 (((onext S k).2.1).p), .int .i64 (((onext S k).2.1).q), .string (((onext S k).2.1).str), .int .i64 (((onext S k).2.1).ref)] ?_
        refine s_nil (xs_held [3, 3, 3, 3, 3] ?_)
        refine hp_ 15 [3, 3, 3, 3, 3] (.bool ((onext S k).2.2.1)) ?_
        refine hp_ 16 [3, 3, 3, 3, 3] (.int .i64 ((onext S k).2.2.2)) ?_
        refine h_doneS ?_
        exact xcut (g30, g28) (fun _ h => h.re [1, 1, 1, 1, 0, 0, 0, 0] [])
     ·
      obtain ⟨jb10, jb11⟩ := ix
      show SK _ _ _ _ _ [(0, .pointer (some ⟨b, 0, none⟩)), (4, .pointer (some ⟨g2, 0, none⟩)), (5, .pointer (some ⟨g3, 0, none⟩)), (8, .int .i64 (whole k)), (9, .bool true), (10, .pointer (some ⟨jb10, 0, none⟩)), (11, .pointer (some ⟨jb11, 0, none⟩)), (12, .bool ((onext S k).2.2.1)), (13, .int .i64 ((onext S k).2.2.2))] _ (blkA jb10 #[.int .i64 (((onext S k).1).kind), .int .i64 (((onext S k).1).p), .int .i64 (((onext S k).1).q), .string (((onext S k).1).str), .int .i64 (((onext S k).1).ref)] 26 :: blkA jb11 #[.int .i64 (((onext S k).2.1).kind), .int .i64 (((onext S k).2.1).p), .int .i64 (((onext S k).2.1).q), .string (((onext S k).2.1).str), .int .i64 (((onext S k).2.1).ref)] 26 :: blkA b #[lv16, .pointer (some ⟨r17, 0, none⟩)] 80 :: own VlT lv16 L :: omA r17 S :: blkA g3 #[.int .i64 0, .int .i64 0, .int .i64 0, .string ByteArray.empty, .int .i64 0] 26 :: blkA g2 #[.int .i64 0, .int .i64 0, .int .i64 0, .string ByteArray.empty, .int .i64 0] 26 :: blkA g1 #[.int .i64 k.kind, .int .i64 k.p, .int .i64 k.q, .string k.str, .int .i64 k.ref] 26 :: F)
      refine k_seq ?_
      refine k_block ?_
      refine k_sr ?_
      refine sp (.int .i64 ((onext S k).2.2.2)) ?_
      refine s_lt t_cmp ?_
      refine sp (.bool (decide ((onext S k).2.2.2 = 0))) ?_
      refine s_nt ?_
      refine k_cond (decide ((onext S k).2.2.2 = 0)) (fun c31 => ?_) (fun c31 => ?_)
      ·
       have p32 := of_decide_eq_true c31
       refine k_seq ?_
       refine k_held [blkA jb10 #[.int .i64 (((onext S k).1).kind), .int .i64 (((onext S k).1).p), .int .i64 (((onext S k).1).q), .string (((onext S k).1).str), .int .i64 (((onext S k).1).ref)] 26, blkA jb11 #[.int .i64 (((onext S k).2.1).kind), .int .i64 (((onext S k).2.1).p), .int .i64 (((onext S k).2.1).q), .string (((onext S k).2.1).str), .int .i64 (((onext S k).2.1).ref)] 26, blkA b #[lv16, pB r17 0] 80, own VlT lv16 L, blkA g1 #[.int .i64 k.kind, .int .i64 k.p, .int .i64 k.q, .string k.str, .int .i64 k.ref] 26] ?_
       refine h_l 0 rfl [0, 0, 0, 0, 3] (fun _ => (t_loadA 0 #[.int .i64 (((onext S k).1).kind), .int .i64 (((onext S k).1).p), .int .i64 (((onext S k).1).q), .string (((onext S k).1).str), .int .i64 (((onext S k).1).ref)])) ?_
       refine h_l 1 rfl [0, 0, 0, 0, 3] (fun _ => (t_loadA 1 #[.int .i64 (((onext S k).2.1).kind), .int .i64 (((onext S k).2.1).p), .int .i64 (((onext S k).2.1).q), .string (((onext S k).2.1).str), .int .i64 (((onext S k).2.1).ref)])) ?_
       refine hp_ 2 [0, 0, 0, 0, 3] (.bool ((onext S k).2.2.1)) ?_
       refine hp_ 3 [0, 0, 0, 0, 3] (.int .i64 ((onext S k).2.2.2)) ?_
       refine h_stepS 4 ?_
       refine s_store 6 #[.int .i64 (((onext S k).1).kind), .int .i64 (((onext S k).1).p), .int .i64 (((onext S k).1).q), .string (((onext S k).1).str), .int .i64 (((onext S k).1).ref)] ?_
       refine s_nil (xs_held [0, 0, 0, 0, 3] ?_)
       refine h_stepS 5 ?_
       refine s_store 5 #[.int .i64 (((onext S k).2.1).kind), .int .i64 (((onext S k).2.1).p), .int .i64 (((onext S k).2.1).q), .string (((onext S k).2.1).str), .int .i64 (((onext S k).2.1).ref)] ?_
       refine s_nil (xs_held [0, 0, 0, 0, 3] ?_)
       refine hp_ 6 [0, 0, 0, 0, 3] (.bool ((onext S k).2.2.1)) ?_
       refine hp_ 7 [0, 0, 0, 0, 3] (.int .i64 ((onext S k).2.2.2)) ?_
       refine h_doneS ?_
       refine xs_then ?_
       refine k_ret ?_
       refine xs_retBlock ?_
       refine xs_ret ?_
       refine xs_mem (fun _ h => tb_shut (h.re [2, 2, 2] [])) ?_
       have hz : k ≠ zVl := of_decide_eq_false c4
       have hr : ¬ (1 ≤ whole k ∧ whole k ≤ ((⟨L, S⟩ : Tb).list.length : Int)) := by show ¬ (_ ∧ _ ≤ (L.length : Int)); omega
       have hp : tnext ⟨L, S⟩ k = onext S k := tnext_rest hz hr (of_decide_eq_true c31)
       refine xs_fin [.agg #[.int .i64 (((onext S k).1).kind), .int .i64 (((onext S k).1).p), .int .i64 (((onext S k).1).q), .string (((onext S k).1).str), .int .i64 (((onext S k).1).ref)], .agg #[.int .i64 (((onext S k).2.1).kind), .int .i64 (((onext S k).2.1).p), .int .i64 (((onext S k).2.1).q), .string (((onext S k).2.1).str), .int .i64 (((onext S k).2.1).ref)], .bool ((onext S k).2.2.1), .int .i64 ((onext S k).2.2.2)] (tbA b L S :: F) (SI.agg 4 26 4 (SI.agg 5 26 3 (SI.tmp 6 (SI.tmp 7 SI.nil)))) (fun _ h => h.re [0] [1, 1, 1, 1, 1]) ⟨?_, rfl⟩
       rw [hp]; rfl
      ·
       have p33 := of_decide_eq_false c31
       refine k_sr ?_
       refine sp (.bool true) ?_
       refine sp (.bool true) ?_
       refine sp (.int .i64 (whole k)) ?_
       refine s_lt (Lt.to t_cmp (congrArg Value.bool (c14 : (decide ((1 : Int) ≤ (whole k))) = true))) ?_
       refine sp (.bool true) ?_
       refine sp (.bool true) ?_
       refine s_nt ?_
       refine k_true ?_
       refine k_sr ?_
       refine sp (pB b 0) ?_
       refine sp (pB b 0) ?_
       refine sp (pB b 1) ?_
       refine s_lt (t_load 2 (pB r17 0)) ?_
       refine s_lt (t_kern (.agg #[.int .i64 0, .int .i64 0, .int .i64 0, .string ByteArray.empty, .int .i64 0])) ?_
       refine s_call [4] (omnext_s (S := S) (by (try simp only [lnm]); omega) zVl) ?_
       rintro _ _ ⟨rfl, rfl⟩
       refine sp (.agg #[.int .i64 (((onext S zVl).1).kind), .int .i64 (((onext S zVl).1).p), .int .i64 (((onext S zVl).1).q), .string (((onext S zVl).1).str), .int .i64 (((onext S zVl).1).ref)]) ?_
       refine sp (.agg #[.int .i64 (((onext S zVl).2.1).kind), .int .i64 (((onext S zVl).2.1).p), .int .i64 (((onext S zVl).2.1).q), .string (((onext S zVl).2.1).str), .int .i64 (((onext S zVl).2.1).ref)]) ?_
       refine sp (.bool ((onext S zVl).2.2.1)) ?_
       refine sp (.int .i64 ((onext S zVl).2.2.2)) ?_
       refine s_store 6 #[.int .i64 (((onext S zVl).1).kind), .int .i64 (((onext S zVl).1).p), .int .i64 (((onext S zVl).1).q), .string (((onext S zVl).1).str), .int .i64 (((onext S zVl).1).ref)] ?_
       refine s_store 5 #[.int .i64 (((onext S zVl).2.1).kind), .int .i64 (((onext S zVl).2.1).p), .int .i64 (((onext S zVl).2.1).q), .string (((onext S zVl).2.1).str), .int .i64 (((onext S zVl).2.1).ref)] ?_
       refine sp (.bool ((onext S zVl).2.2.1)) ?_
       refine sp (.int .i64 ((onext S zVl).2.2.2)) ?_
       refine s_nt ?_
       refine k_ret ?_
       refine xs_retBlock ?_
       refine xs_ret ?_
       refine xs_mem (fun _ h => tb_shut (h.re [3, 3, 0] [])) ?_
       have hz : k ≠ zVl := of_decide_eq_false c4
       have hr : ¬ (1 ≤ whole k ∧ whole k ≤ ((⟨L, S⟩ : Tb).list.length : Int)) := by show ¬ (_ ∧ _ ≤ (L.length : Int)); omega
       have hp : tnext ⟨L, S⟩ k = onext S zVl := tnext_over hz hr (of_decide_eq_false c31) (by omega)
       refine xs_fin [.agg #[.int .i64 (((onext S zVl).1).kind), .int .i64 (((onext S zVl).1).p), .int .i64 (((onext S zVl).1).q), .string (((onext S zVl).1).str), .int .i64 (((onext S zVl).1).ref)], .agg #[.int .i64 (((onext S zVl).2.1).kind), .int .i64 (((onext S zVl).2.1).p), .int .i64 (((onext S zVl).2.1).q), .string (((onext S zVl).2.1).str), .int .i64 (((onext S zVl).2.1).ref)], .bool ((onext S zVl).2.2.1), .int .i64 ((onext S zVl).2.2.2)] (tbA b L S :: F) (SI.agg 4 26 4 (SI.agg 5 26 3 (SI.tmp 6 (SI.tmp 7 SI.nil)))) (fun _ h => h.re [0] [1, 1, 1, 1, 1]) ⟨?_, rfl⟩
       rw [hp]; rfl
   ·
    have p34 := of_decide_eq_false c14
    refine s_skip ?_
    refine s_skip ?_
    refine s_skip ?_
    refine s_skip ?_
    refine s_skip ?_
    refine s_skip ?_
    refine s_skip ?_
    refine sp (.bool false) ?_
    refine s_nt ?_
    refine k_false ?_
    refine k_st ?_
    refine k_mem2 (fun H h => tb_open (h.re [3] [])) (fun lv35 r36 hw => ?_)
    refine k_cut (ι := Nat × Nat) (fun _ => True) (fun (jb10, jb11) => [(0, pB b 0), (4, pB g2 0), (5, pB g3 0), (8, .int .i64 (whole k)), (9, .bool true), (10, pB jb10 0), (11, pB jb11 0), (12, .bool ((onext S k).2.2.1)), (13, .int .i64 ((onext S k).2.2.2))]) (fun (jb10, jb11) => blkA jb10 #[.int .i64 (((onext S k).1).kind), .int .i64 (((onext S k).1).p), .int .i64 (((onext S k).1).q), .string (((onext S k).1).str), .int .i64 (((onext S k).1).ref)] 26 :: blkA jb11 #[.int .i64 (((onext S k).2.1).kind), .int .i64 (((onext S k).2.1).p), .int .i64 (((onext S k).2.1).q), .string (((onext S k).2.1).str), .int .i64 (((onext S k).2.1).ref)] 26 :: blkA b #[lv35, pB r36 0] 80 :: own VlT lv35 L :: omA r36 S :: blkA g3 #[.int .i64 0, .int .i64 0, .int .i64 0, .string ByteArray.empty, .int .i64 0] 26 :: blkA g2 #[.int .i64 0, .int .i64 0, .int .i64 0, .string ByteArray.empty, .int .i64 0] 26 :: blkA g1 #[.int .i64 k.kind, .int .i64 k.p, .int .i64 k.q, .string k.str, .int .i64 k.ref] 26 :: F) ?_ (fun ix _ => ?_)
    ·
     refine k_held [blkA b #[lv35, pB r36 0] 80, own VlT lv35 L, blkA g3 #[.int .i64 0, .int .i64 0, .int .i64 0, .string ByteArray.empty, .int .i64 0] 26, blkA g2 #[.int .i64 0, .int .i64 0, .int .i64 0, .string ByteArray.empty, .int .i64 0] 26, blkA g1 #[.int .i64 k.kind, .int .i64 k.p, .int .i64 k.q, .string k.str, .int .i64 k.ref] 26] ?_
     refine hp_ 0 [0, 0, 1, 1, 1] (pB b 0) ?_
     refine hp_ 1 [0, 0, 1, 1, 1] (pB b 0) ?_
     refine hp_ 2 [0, 0, 1, 1, 1] (pB b 1) ?_
     refine h_l 3 rfl [0, 0, 1, 1, 1] (fun _ => (t_load 0 (pB r36 0))) ?_
     refine h_l 4 rfl [0, 0, 1, 1, 1] (fun _ => (t_loadA 4 #[.int .i64 k.kind, .int .i64 k.p, .int .i64 k.q, .string k.str, .int .i64 k.ref])) ?_
     refine h_stepS3 5 11 12 ?_ ?_ ?_
     ·
      refine s_call [2] (omnext_s (S := S) (by (try simp only [lnm]); omega) k) ?_
      rintro _ _ ⟨rfl, rfl⟩
      refine s_nil (xs_held [1, 1, 1, 1, 1] ?_)
      refine hp_ 6 [1, 1, 1, 1, 1] (.tuple #[.agg #[.int .i64 (((onext S k).1).kind), .int .i64 (((onext S k).1).p), .int .i64 (((onext S k).1).q), .string (((onext S k).1).str), .int .i64 (((onext S k).1).ref)], .agg #[.int .i64 (((onext S k).2.1).kind), .int .i64 (((onext S k).2.1).p), .int .i64 (((onext S k).2.1).q), .string (((onext S k).2.1).str), .int .i64 (((onext S k).2.1).ref)], .bool ((onext S k).2.2.1), .int .i64 ((onext S k).2.2.2)]) ?_
      refine hp_ 7 [1, 1, 1, 1, 1] (.agg #[.int .i64 (((onext S k).1).kind), .int .i64 (((onext S k).1).p), .int .i64 (((onext S k).1).q), .string (((onext S k).1).str), .int .i64 (((onext S k).1).ref)]) ?_
      refine hp_ 8 [1, 1, 1, 1, 1] (.agg #[.int .i64 (((onext S k).2.1).kind), .int .i64 (((onext S k).2.1).p), .int .i64 (((onext S k).2.1).q), .string (((onext S k).2.1).str), .int .i64 (((onext S k).2.1).ref)]) ?_
      refine hp_ 9 [1, 1, 1, 1, 1] (.bool ((onext S k).2.2.1)) ?_
      refine hp_ 10 [1, 1, 1, 1, 1] (.int .i64 ((onext S k).2.2.2)) ?_
      refine h_stepS2 11 12 ?_ ?_
      ·
       refine s_alloc (.agg #[.int .i64 0, .int .i64 0, .int .i64 0, .string ByteArray.empty, .int .i64 0]) #[.int .i64 0, .int .i64 0, .int .i64 0, .string ByteArray.empty, .int .i64 0] (fun g37 => ?_)
       refine s_nil (xs_held [2, 2, 2, 2, 2] ?_)
       refine h_stepS 12 ?_
       refine s_alloc (.agg #[.int .i64 0, .int .i64 0, .int .i64 0, .string ByteArray.empty, .int .i64 0]) #[.int .i64 0, .int .i64 0, .int .i64 0, .string ByteArray.empty, .int .i64 0] (fun g38 => ?_)
       refine s_nil (xs_held [3, 3, 3, 3, 3] ?_)
       refine h_stepS 13 ?_
       refine s_store 1 #[.int .i64 (((onext S k).1).kind), .int .i64 (((onext S k).1).p), .int .i64 (((onext S k).1).q), .string (((onext S k).1).str), .int .i64 (((onext S k).1).ref)] ?_
       refine s_nil (xs_held [3, 3, 3, 3, 3] ?_)
       refine h_stepS 14 ?_
       refine s_store 0 #[.int .i64 (((onext S k).2.1).kind), .int .i64 (((onext S k).2.1).p), .int .i64 (((onext S k).2.1).q), .string (((onext S k).2.1).str), .int .i64 (((onext S k).2.1).ref)] ?_
       refine s_nil (xs_held [3, 3, 3, 3, 3] ?_)
       refine hp_ 15 [3, 3, 3, 3, 3] (.bool ((onext S k).2.2.1)) ?_
       refine hp_ 16 [3, 3, 3, 3, 3] (.int .i64 ((onext S k).2.2.2)) ?_
       refine h_doneS ?_
       exact xcut (g37, g38) (fun _ h => h.re [1, 0, 1, 1, 0, 0, 0, 0] [])
      ·
       refine s_alloc (.agg #[.int .i64 0, .int .i64 0, .int .i64 0, .string ByteArray.empty, .int .i64 0]) #[.int .i64 0, .int .i64 0, .int .i64 0, .string ByteArray.empty, .int .i64 0] (fun g39 => ?_)
       refine s_nil (xs_held [2, 2, 2, 2, 2] ?_)
       refine h_stepS 11 ?_
       refine s_alloc (.agg #[.int .i64 0, .int .i64 0, .int .i64 0, .string ByteArray.empty, .int .i64 0]) #[.int .i64 0, .int .i64 0, .int .i64 0, .string ByteArray.empty, .int .i64 0] (fun g40 => ?_)
       refine s_nil (xs_held [3, 3, 3, 3, 3] ?_)
       refine h_stepS 13 ?_
       refine s_store 0 #[.int .i64 (((onext S k).1).kind), .int .i64 (((onext S k).1).p), .int .i64 (((onext S k).1).q), .string (((onext S k).1).str), .int .i64 (((onext S k).1).ref)] ?_
       refine s_nil (xs_held [3, 3, 3, 3, 3] ?_)
       refine h_stepS 14 ?_
       refine s_store 1 #[.int .i64 (((onext S k).2.1).kind), .int .i64 (((onext S k).2.1).p), .int .i64 (((onext S k).2.1).q), .string (((onext S k).2.1).str), .int .i64 (((onext S k).2.1).ref)] ?_
       refine s_nil (xs_held [3, 3, 3, 3, 3] ?_)
       refine hp_ 15 [3, 3, 3, 3, 3] (.bool ((onext S k).2.2.1)) ?_
       refine hp_ 16 [3, 3, 3, 3, 3] (.int .i64 ((onext S k).2.2.2)) ?_
       refine h_doneS ?_
       exact xcut (g40, g39) (fun _ h => h.re [0, 0, 1, 1, 0, 0, 0, 0] [])
     ·
      refine s_alloc (.agg #[.int .i64 0, .int .i64 0, .int .i64 0, .string ByteArray.empty, .int .i64 0]) #[.int .i64 0, .int .i64 0, .int .i64 0, .string ByteArray.empty, .int .i64 0] (fun g41 => ?_)
      refine s_nil (xs_held [1, 1, 2, 2, 2] ?_)
      refine h_stepS2 5 12 ?_ ?_
      ·
       refine s_call [3] (omnext_s (S := S) (by (try simp only [lnm]); omega) k) ?_
       rintro _ _ ⟨rfl, rfl⟩
       refine s_nil (xs_held [2, 2, 2, 2, 2] ?_)
       refine hp_ 6 [2, 2, 2, 2, 2] (.tuple #[.agg #[.int .i64 (((onext S k).1).kind), .int .i64 (((onext S k).1).p), .int .i64 (((onext S k).1).q), .string (((onext S k).1).str), .int .i64 (((onext S k).1).ref)], .agg #[.int .i64 (((onext S k).2.1).kind), .int .i64 (((onext S k).2.1).p), .int .i64 (((onext S k).2.1).q), .string (((onext S k).2.1).str), .int .i64 (((onext S k).2.1).ref)], .bool ((onext S k).2.2.1), .int .i64 ((onext S k).2.2.2)]) ?_
       refine hp_ 7 [2, 2, 2, 2, 2] (.agg #[.int .i64 (((onext S k).1).kind), .int .i64 (((onext S k).1).p), .int .i64 (((onext S k).1).q), .string (((onext S k).1).str), .int .i64 (((onext S k).1).ref)]) ?_
       refine hp_ 8 [2, 2, 2, 2, 2] (.agg #[.int .i64 (((onext S k).2.1).kind), .int .i64 (((onext S k).2.1).p), .int .i64 (((onext S k).2.1).q), .string (((onext S k).2.1).str), .int .i64 (((onext S k).2.1).ref)]) ?_
       refine hp_ 9 [2, 2, 2, 2, 2] (.bool ((onext S k).2.2.1)) ?_
       refine hp_ 10 [2, 2, 2, 2, 2] (.int .i64 ((onext S k).2.2.2)) ?_
       refine h_stepS 12 ?_
       refine s_alloc (.agg #[.int .i64 0, .int .i64 0, .int .i64 0, .string ByteArray.empty, .int .i64 0]) #[.int .i64 0, .int .i64 0, .int .i64 0, .string ByteArray.empty, .int .i64 0] (fun g42 => ?_)
       refine s_nil (xs_held [3, 3, 3, 3, 3] ?_)
       refine h_stepS 13 ?_
       refine s_store 2 #[.int .i64 (((onext S k).1).kind), .int .i64 (((onext S k).1).p), .int .i64 (((onext S k).1).q), .string (((onext S k).1).str), .int .i64 (((onext S k).1).ref)] ?_
       refine s_nil (xs_held [3, 3, 3, 3, 3] ?_)
       refine h_stepS 14 ?_
       refine s_store 0 #[.int .i64 (((onext S k).2.1).kind), .int .i64 (((onext S k).2.1).p), .int .i64 (((onext S k).2.1).q), .string (((onext S k).2.1).str), .int .i64 (((onext S k).2.1).ref)] ?_
       refine s_nil (xs_held [3, 3, 3, 3, 3] ?_)
       refine hp_ 15 [3, 3, 3, 3, 3] (.bool ((onext S k).2.2.1)) ?_
       refine hp_ 16 [3, 3, 3, 3, 3] (.int .i64 ((onext S k).2.2.2)) ?_
       refine h_doneS ?_
       exact xcut (g41, g42) (fun _ h => h.re [2, 0, 1, 1, 0, 0, 0, 0] [])
      ·
       refine s_alloc (.agg #[.int .i64 0, .int .i64 0, .int .i64 0, .string ByteArray.empty, .int .i64 0]) #[.int .i64 0, .int .i64 0, .int .i64 0, .string ByteArray.empty, .int .i64 0] (fun g43 => ?_)
       refine s_nil (xs_held [2, 2, 3, 3, 3] ?_)
       refine h_stepS 5 ?_
       refine s_call [4] (omnext_s (S := S) (by (try simp only [lnm]); omega) k) ?_
       rintro _ _ ⟨rfl, rfl⟩
       refine s_nil (xs_held [3, 3, 3, 3, 3] ?_)
       refine hp_ 6 [3, 3, 3, 3, 3] (.tuple #[.agg #[.int .i64 (((onext S k).1).kind), .int .i64 (((onext S k).1).p), .int .i64 (((onext S k).1).q), .string (((onext S k).1).str), .int .i64 (((onext S k).1).ref)], .agg #[.int .i64 (((onext S k).2.1).kind), .int .i64 (((onext S k).2.1).p), .int .i64 (((onext S k).2.1).q), .string (((onext S k).2.1).str), .int .i64 (((onext S k).2.1).ref)], .bool ((onext S k).2.2.1), .int .i64 ((onext S k).2.2.2)]) ?_
       refine hp_ 7 [3, 3, 3, 3, 3] (.agg #[.int .i64 (((onext S k).1).kind), .int .i64 (((onext S k).1).p), .int .i64 (((onext S k).1).q), .string (((onext S k).1).str), .int .i64 (((onext S k).1).ref)]) ?_
       refine hp_ 8 [3, 3, 3, 3, 3] (.agg #[.int .i64 (((onext S k).2.1).kind), .int .i64 (((onext S k).2.1).p), .int .i64 (((onext S k).2.1).q), .string (((onext S k).2.1).str), .int .i64 (((onext S k).2.1).ref)]) ?_
       refine hp_ 9 [3, 3, 3, 3, 3] (.bool ((onext S k).2.2.1)) ?_
       refine hp_ 10 [3, 3, 3, 3, 3] (.int .i64 ((onext S k).2.2.2)) ?_
       refine h_stepS 13 ?_
       refine s_store 2 #[.int .i64 (((onext S k).1).kind), .int .i64 (((onext S k).1).p), .int .i64 (((onext S k).1).q), .string (((onext S k).1).str), .int .i64 (((onext S k).1).ref)] ?_
       refine s_nil (xs_held [3, 3, 3, 3, 3] ?_)
       refine h_stepS 14 ?_
       refine s_store 1 #[.int .i64 (((onext S k).2.1).kind), .int .i64 (((onext S k).2.1).p), .int .i64 (((onext S k).2.1).q), .string (((onext S k).2.1).str), .int .i64 (((onext S k).2.1).ref)] ?_
       refine s_nil (xs_held [3, 3, 3, 3, 3] ?_)
       refine hp_ 15 [3, 3, 3, 3, 3] (.bool ((onext S k).2.2.1)) ?_
       refine hp_ 16 [3, 3, 3, 3, 3] (.int .i64 ((onext S k).2.2.2)) ?_
       refine h_doneS ?_
       exact xcut (g41, g43) (fun _ h => h.re [2, 1, 1, 1, 0, 0, 0, 0] [])
     ·
      refine s_alloc (.agg #[.int .i64 0, .int .i64 0, .int .i64 0, .string ByteArray.empty, .int .i64 0]) #[.int .i64 0, .int .i64 0, .int .i64 0, .string ByteArray.empty, .int .i64 0] (fun g44 => ?_)
      refine s_nil (xs_held [1, 1, 2, 2, 2] ?_)
      refine h_stepS2 5 11 ?_ ?_
      ·
       refine s_call [3] (omnext_s (S := S) (by (try simp only [lnm]); omega) k) ?_
       rintro _ _ ⟨rfl, rfl⟩
       refine s_nil (xs_held [2, 2, 2, 2, 2] ?_)
       refine hp_ 6 [2, 2, 2, 2, 2] (.tuple #[.agg #[.int .i64 (((onext S k).1).kind), .int .i64 (((onext S k).1).p), .int .i64 (((onext S k).1).q), .string (((onext S k).1).str), .int .i64 (((onext S k).1).ref)], .agg #[.int .i64 (((onext S k).2.1).kind), .int .i64 (((onext S k).2.1).p), .int .i64 (((onext S k).2.1).q), .string (((onext S k).2.1).str), .int .i64 (((onext S k).2.1).ref)], .bool ((onext S k).2.2.1), .int .i64 ((onext S k).2.2.2)]) ?_
       refine hp_ 7 [2, 2, 2, 2, 2] (.agg #[.int .i64 (((onext S k).1).kind), .int .i64 (((onext S k).1).p), .int .i64 (((onext S k).1).q), .string (((onext S k).1).str), .int .i64 (((onext S k).1).ref)]) ?_
       refine hp_ 8 [2, 2, 2, 2, 2] (.agg #[.int .i64 (((onext S k).2.1).kind), .int .i64 (((onext S k).2.1).p), .int .i64 (((onext S k).2.1).q), .string (((onext S k).2.1).str), .int .i64 (((onext S k).2.1).ref)]) ?_
       refine hp_ 9 [2, 2, 2, 2, 2] (.bool ((onext S k).2.2.1)) ?_
       refine hp_ 10 [2, 2, 2, 2, 2] (.int .i64 ((onext S k).2.2.2)) ?_
       refine h_stepS 11 ?_
       refine s_alloc (.agg #[.int .i64 0, .int .i64 0, .int .i64 0, .string ByteArray.empty, .int .i64 0]) #[.int .i64 0, .int .i64 0, .int .i64 0, .string ByteArray.empty, .int .i64 0] (fun g45 => ?_)
       refine s_nil (xs_held [3, 3, 3, 3, 3] ?_)
       refine h_stepS 13 ?_
       refine s_store 0 #[.int .i64 (((onext S k).1).kind), .int .i64 (((onext S k).1).p), .int .i64 (((onext S k).1).q), .string (((onext S k).1).str), .int .i64 (((onext S k).1).ref)] ?_
       refine s_nil (xs_held [3, 3, 3, 3, 3] ?_)
       refine h_stepS 14 ?_
       refine s_store 2 #[.int .i64 (((onext S k).2.1).kind), .int .i64 (((onext S k).2.1).p), .int .i64 (((onext S k).2.1).q), .string (((onext S k).2.1).str), .int .i64 (((onext S k).2.1).ref)] ?_
       refine s_nil (xs_held [3, 3, 3, 3, 3] ?_)
       refine hp_ 15 [3, 3, 3, 3, 3] (.bool ((onext S k).2.2.1)) ?_
       refine hp_ 16 [3, 3, 3, 3, 3] (.int .i64 ((onext S k).2.2.2)) ?_
       refine h_doneS ?_
       exact xcut (g45, g44) (fun _ h => h.re [0, 1, 1, 1, 0, 0, 0, 0] [])
      ·
       refine s_alloc (.agg #[.int .i64 0, .int .i64 0, .int .i64 0, .string ByteArray.empty, .int .i64 0]) #[.int .i64 0, .int .i64 0, .int .i64 0, .string ByteArray.empty, .int .i64 0] (fun g46 => ?_)
       refine s_nil (xs_held [2, 2, 3, 3, 3] ?_)
       refine h_stepS 5 ?_
       refine s_call [4] (omnext_s (S := S) (by (try simp only [lnm]); omega) k) ?_
       rintro _ _ ⟨rfl, rfl⟩
       refine s_nil (xs_held [3, 3, 3, 3, 3] ?_)
       refine hp_ 6 [3, 3, 3, 3, 3] (.tuple #[.agg #[.int .i64 (((onext S k).1).kind), .int .i64 (((onext S k).1).p), .int .i64 (((onext S k).1).q), .string (((onext S k).1).str), .int .i64 (((onext S k).1).ref)], .agg #[.int .i64 (((onext S k).2.1).kind), .int .i64 (((onext S k).2.1).p), .int .i64 (((onext S k).2.1).q), .string (((onext S k).2.1).str), .int .i64 (((onext S k).2.1).ref)], .bool ((onext S k).2.2.1), .int .i64 ((onext S k).2.2.2)]) ?_
       refine hp_ 7 [3, 3, 3, 3, 3] (.agg #[.int .i64 (((onext S k).1).kind), .int .i64 (((onext S k).1).p), .int .i64 (((onext S k).1).q), .string (((onext S k).1).str), .int .i64 (((onext S k).1).ref)]) ?_
       refine hp_ 8 [3, 3, 3, 3, 3] (.agg #[.int .i64 (((onext S k).2.1).kind), .int .i64 (((onext S k).2.1).p), .int .i64 (((onext S k).2.1).q), .string (((onext S k).2.1).str), .int .i64 (((onext S k).2.1).ref)]) ?_
       refine hp_ 9 [3, 3, 3, 3, 3] (.bool ((onext S k).2.2.1)) ?_
       refine hp_ 10 [3, 3, 3, 3, 3] (.int .i64 ((onext S k).2.2.2)) ?_
       refine h_stepS 13 ?_
       refine s_store 1 #[.int .i64 (((onext S k).1).kind), .int .i64 (((onext S k).1).p), .int .i64 (((onext S k).1).q), .string (((onext S k).1).str), .int .i64 (((onext S k).1).ref)] ?_
       refine s_nil (xs_held [3, 3, 3, 3, 3] ?_)
       refine h_stepS 14 ?_
       refine s_store 2 #[.int .i64 (((onext S k).2.1).kind), .int .i64 (((onext S k).2.1).p), .int .i64 (((onext S k).2.1).q), .string (((onext S k).2.1).str), .int .i64 (((onext S k).2.1).ref)] ?_
       refine s_nil (xs_held [3, 3, 3, 3, 3] ?_)
       refine hp_ 15 [3, 3, 3, 3, 3] (.bool ((onext S k).2.2.1)) ?_
       refine hp_ 16 [3, 3, 3, 3, 3] (.int .i64 ((onext S k).2.2.2)) ?_
       refine h_doneS ?_
       exact xcut (g46, g44) (fun _ h => h.re [1, 1, 1, 1, 0, 0, 0, 0] [])
    ·
     obtain ⟨jb10, jb11⟩ := ix
     show SK _ _ _ _ _ [(0, .pointer (some ⟨b, 0, none⟩)), (4, .pointer (some ⟨g2, 0, none⟩)), (5, .pointer (some ⟨g3, 0, none⟩)), (8, .int .i64 (whole k)), (9, .bool true), (10, .pointer (some ⟨jb10, 0, none⟩)), (11, .pointer (some ⟨jb11, 0, none⟩)), (12, .bool ((onext S k).2.2.1)), (13, .int .i64 ((onext S k).2.2.2))] _ (blkA jb10 #[.int .i64 (((onext S k).1).kind), .int .i64 (((onext S k).1).p), .int .i64 (((onext S k).1).q), .string (((onext S k).1).str), .int .i64 (((onext S k).1).ref)] 26 :: blkA jb11 #[.int .i64 (((onext S k).2.1).kind), .int .i64 (((onext S k).2.1).p), .int .i64 (((onext S k).2.1).q), .string (((onext S k).2.1).str), .int .i64 (((onext S k).2.1).ref)] 26 :: blkA b #[lv35, .pointer (some ⟨r36, 0, none⟩)] 80 :: own VlT lv35 L :: omA r36 S :: blkA g3 #[.int .i64 0, .int .i64 0, .int .i64 0, .string ByteArray.empty, .int .i64 0] 26 :: blkA g2 #[.int .i64 0, .int .i64 0, .int .i64 0, .string ByteArray.empty, .int .i64 0] 26 :: blkA g1 #[.int .i64 k.kind, .int .i64 k.p, .int .i64 k.q, .string k.str, .int .i64 k.ref] 26 :: F)
     refine k_seq ?_
     refine k_block ?_
     refine k_sr ?_
     refine sp (.int .i64 ((onext S k).2.2.2)) ?_
     refine s_lt t_cmp ?_
     refine sp (.bool (decide ((onext S k).2.2.2 = 0))) ?_
     refine s_nt ?_
     refine k_cond (decide ((onext S k).2.2.2 = 0)) (fun c47 => ?_) (fun c47 => ?_)
     ·
      have p48 := of_decide_eq_true c47
      refine k_seq ?_
      refine k_held [blkA jb10 #[.int .i64 (((onext S k).1).kind), .int .i64 (((onext S k).1).p), .int .i64 (((onext S k).1).q), .string (((onext S k).1).str), .int .i64 (((onext S k).1).ref)] 26, blkA jb11 #[.int .i64 (((onext S k).2.1).kind), .int .i64 (((onext S k).2.1).p), .int .i64 (((onext S k).2.1).q), .string (((onext S k).2.1).str), .int .i64 (((onext S k).2.1).ref)] 26, blkA b #[lv35, pB r36 0] 80, own VlT lv35 L, blkA g1 #[.int .i64 k.kind, .int .i64 k.p, .int .i64 k.q, .string k.str, .int .i64 k.ref] 26] ?_
      refine h_l 0 rfl [0, 0, 0, 0, 3] (fun _ => (t_loadA 0 #[.int .i64 (((onext S k).1).kind), .int .i64 (((onext S k).1).p), .int .i64 (((onext S k).1).q), .string (((onext S k).1).str), .int .i64 (((onext S k).1).ref)])) ?_
      refine h_l 1 rfl [0, 0, 0, 0, 3] (fun _ => (t_loadA 1 #[.int .i64 (((onext S k).2.1).kind), .int .i64 (((onext S k).2.1).p), .int .i64 (((onext S k).2.1).q), .string (((onext S k).2.1).str), .int .i64 (((onext S k).2.1).ref)])) ?_
      refine hp_ 2 [0, 0, 0, 0, 3] (.bool ((onext S k).2.2.1)) ?_
      refine hp_ 3 [0, 0, 0, 0, 3] (.int .i64 ((onext S k).2.2.2)) ?_
      refine h_stepS 4 ?_
      refine s_store 6 #[.int .i64 (((onext S k).1).kind), .int .i64 (((onext S k).1).p), .int .i64 (((onext S k).1).q), .string (((onext S k).1).str), .int .i64 (((onext S k).1).ref)] ?_
      refine s_nil (xs_held [0, 0, 0, 0, 3] ?_)
      refine h_stepS 5 ?_
      refine s_store 5 #[.int .i64 (((onext S k).2.1).kind), .int .i64 (((onext S k).2.1).p), .int .i64 (((onext S k).2.1).q), .string (((onext S k).2.1).str), .int .i64 (((onext S k).2.1).ref)] ?_
      refine s_nil (xs_held [0, 0, 0, 0, 3] ?_)
      refine hp_ 6 [0, 0, 0, 0, 3] (.bool ((onext S k).2.2.1)) ?_
      refine hp_ 7 [0, 0, 0, 0, 3] (.int .i64 ((onext S k).2.2.2)) ?_
      refine h_doneS ?_
      refine xs_then ?_
      refine k_ret ?_
      refine xs_retBlock ?_
      refine xs_ret ?_
      refine xs_mem (fun _ h => tb_shut (h.re [2, 2, 2] [])) ?_
      have hz : k ≠ zVl := of_decide_eq_false c4
      have hr : ¬ (1 ≤ whole k ∧ whole k ≤ ((⟨L, S⟩ : Tb).list.length : Int)) := by show ¬ (_ ∧ _ ≤ (L.length : Int)); omega
      have hp : tnext ⟨L, S⟩ k = onext S k := tnext_rest hz hr (of_decide_eq_true c47)
      refine xs_fin [.agg #[.int .i64 (((onext S k).1).kind), .int .i64 (((onext S k).1).p), .int .i64 (((onext S k).1).q), .string (((onext S k).1).str), .int .i64 (((onext S k).1).ref)], .agg #[.int .i64 (((onext S k).2.1).kind), .int .i64 (((onext S k).2.1).p), .int .i64 (((onext S k).2.1).q), .string (((onext S k).2.1).str), .int .i64 (((onext S k).2.1).ref)], .bool ((onext S k).2.2.1), .int .i64 ((onext S k).2.2.2)] (tbA b L S :: F) (SI.agg 4 26 4 (SI.agg 5 26 3 (SI.tmp 6 (SI.tmp 7 SI.nil)))) (fun _ h => h.re [0] [1, 1, 1, 1, 1]) ⟨?_, rfl⟩
      rw [hp]; rfl
     ·
      have p49 := of_decide_eq_false c47
      refine k_sr ?_
      refine sp (.bool true) ?_
      refine sp (.bool true) ?_
      refine sp (.int .i64 (whole k)) ?_
      refine s_lt (Lt.to t_cmp (congrArg Value.bool (c14 : (decide ((1 : Int) ≤ (whole k))) = false))) ?_
      refine sp (.bool false) ?_
      refine sp (.bool false) ?_
      refine s_nt ?_
      refine k_false ?_
      refine k_skip ?_
      refine xs_block ?_
      refine xs_then ?_
      refine k_sr ?_
      refine s_lt (t_kern (.agg #[.int .i64 0, .int .i64 0, .int .i64 0, .string ByteArray.empty, .int .i64 0])) ?_
      refine s_lt (t_kern (.agg #[.int .i64 0, .int .i64 0, .int .i64 0, .string ByteArray.empty, .int .i64 0])) ?_
      refine s_store 6 #[.int .i64 0, .int .i64 0, .int .i64 0, .string ByteArray.empty, .int .i64 0] ?_
      refine s_store 5 #[.int .i64 0, .int .i64 0, .int .i64 0, .string ByteArray.empty, .int .i64 0] ?_
      refine sp (.bool false) ?_
      refine sp (.int .i64 13) ?_
      refine s_nt ?_
      refine k_ret ?_
      refine xs_mem (fun _ h => tb_shut (h.re [2, 2, 2] [])) ?_
      have hz : k ≠ zVl := of_decide_eq_false c4
      have hr : ¬ (1 ≤ whole k ∧ whole k ≤ ((⟨L, S⟩ : Tb).list.length : Int)) := by show ¬ (_ ∧ _ ≤ (L.length : Int)); omega
      have hp : tnext ⟨L, S⟩ k = (zVl, zVl, false, 13) := tnext_bad hz hr (of_decide_eq_false c47) (by omega)
      refine xs_fin [.agg #[.int .i64 0, .int .i64 0, .int .i64 0, .string ByteArray.empty, .int .i64 0], .agg #[.int .i64 0, .int .i64 0, .int .i64 0, .string ByteArray.empty, .int .i64 0], .bool false, .int .i64 13] (tbA b L S :: F) (SI.agg 4 26 4 (SI.agg 5 26 3 (SI.tmp 6 (SI.tmp 7 SI.nil)))) (fun _ h => h.re [0] [1, 1, 1, 1, 1]) ⟨?_, rfl⟩
      rw [hp]; rfl
  ·
   rw [hi12] at e8; subst e8
   refine sp (.tuple #[.int .i64 k.p, .bool false]) ?_
   refine sp (.int .i64 k.p) ?_
   refine sp (.bool false) ?_
   refine sp (.int .i64 k.p) ?_
   refine sp (.bool false) ?_
   refine s_nt ?_
   refine k_seq ?_
   refine k_sr ?_
   refine sp (.bool false) ?_
   refine sp (.bool false) ?_
   refine s_skip ?_
   refine s_skip ?_
   refine sp (.bool false) ?_
   refine sp (.bool false) ?_
   refine s_skip ?_
   refine s_skip ?_
   refine s_skip ?_
   refine s_skip ?_
   refine s_skip ?_
   refine s_skip ?_
   refine s_skip ?_
   refine sp (.bool false) ?_
   refine s_nt ?_
   refine k_false ?_
   refine k_st ?_
   refine k_mem2 (fun H h => tb_open (h.re [3] [])) (fun lv50 r51 hw => ?_)
   refine k_cut (ι := Nat × Nat) (fun _ => True) (fun (jb10, jb11) => [(0, pB b 0), (4, pB g2 0), (5, pB g3 0), (8, .int .i64 k.p), (9, .bool false), (10, pB jb10 0), (11, pB jb11 0), (12, .bool ((onext S k).2.2.1)), (13, .int .i64 ((onext S k).2.2.2))]) (fun (jb10, jb11) => blkA jb10 #[.int .i64 (((onext S k).1).kind), .int .i64 (((onext S k).1).p), .int .i64 (((onext S k).1).q), .string (((onext S k).1).str), .int .i64 (((onext S k).1).ref)] 26 :: blkA jb11 #[.int .i64 (((onext S k).2.1).kind), .int .i64 (((onext S k).2.1).p), .int .i64 (((onext S k).2.1).q), .string (((onext S k).2.1).str), .int .i64 (((onext S k).2.1).ref)] 26 :: blkA b #[lv50, pB r51 0] 80 :: own VlT lv50 L :: omA r51 S :: blkA g3 #[.int .i64 0, .int .i64 0, .int .i64 0, .string ByteArray.empty, .int .i64 0] 26 :: blkA g2 #[.int .i64 0, .int .i64 0, .int .i64 0, .string ByteArray.empty, .int .i64 0] 26 :: blkA g1 #[.int .i64 k.kind, .int .i64 k.p, .int .i64 k.q, .string k.str, .int .i64 k.ref] 26 :: F) ?_ (fun ix _ => ?_)
   ·
    refine k_held [blkA b #[lv50, pB r51 0] 80, own VlT lv50 L, blkA g3 #[.int .i64 0, .int .i64 0, .int .i64 0, .string ByteArray.empty, .int .i64 0] 26, blkA g2 #[.int .i64 0, .int .i64 0, .int .i64 0, .string ByteArray.empty, .int .i64 0] 26, blkA g1 #[.int .i64 k.kind, .int .i64 k.p, .int .i64 k.q, .string k.str, .int .i64 k.ref] 26] ?_
    refine hp_ 0 [0, 0, 1, 1, 1] (pB b 0) ?_
    refine hp_ 1 [0, 0, 1, 1, 1] (pB b 0) ?_
    refine hp_ 2 [0, 0, 1, 1, 1] (pB b 1) ?_
    refine h_l 3 rfl [0, 0, 1, 1, 1] (fun _ => (t_load 0 (pB r51 0))) ?_
    refine h_l 4 rfl [0, 0, 1, 1, 1] (fun _ => (t_loadA 4 #[.int .i64 k.kind, .int .i64 k.p, .int .i64 k.q, .string k.str, .int .i64 k.ref])) ?_
    refine h_stepS3 5 11 12 ?_ ?_ ?_
    ·
     refine s_call [2] (omnext_s (S := S) (by (try simp only [lnm]); omega) k) ?_
     rintro _ _ ⟨rfl, rfl⟩
     refine s_nil (xs_held [1, 1, 1, 1, 1] ?_)
     refine hp_ 6 [1, 1, 1, 1, 1] (.tuple #[.agg #[.int .i64 (((onext S k).1).kind), .int .i64 (((onext S k).1).p), .int .i64 (((onext S k).1).q), .string (((onext S k).1).str), .int .i64 (((onext S k).1).ref)], .agg #[.int .i64 (((onext S k).2.1).kind), .int .i64 (((onext S k).2.1).p), .int .i64 (((onext S k).2.1).q), .string (((onext S k).2.1).str), .int .i64 (((onext S k).2.1).ref)], .bool ((onext S k).2.2.1), .int .i64 ((onext S k).2.2.2)]) ?_
     refine hp_ 7 [1, 1, 1, 1, 1] (.agg #[.int .i64 (((onext S k).1).kind), .int .i64 (((onext S k).1).p), .int .i64 (((onext S k).1).q), .string (((onext S k).1).str), .int .i64 (((onext S k).1).ref)]) ?_
     refine hp_ 8 [1, 1, 1, 1, 1] (.agg #[.int .i64 (((onext S k).2.1).kind), .int .i64 (((onext S k).2.1).p), .int .i64 (((onext S k).2.1).q), .string (((onext S k).2.1).str), .int .i64 (((onext S k).2.1).ref)]) ?_
     refine hp_ 9 [1, 1, 1, 1, 1] (.bool ((onext S k).2.2.1)) ?_
     refine hp_ 10 [1, 1, 1, 1, 1] (.int .i64 ((onext S k).2.2.2)) ?_
     refine h_stepS2 11 12 ?_ ?_
     ·
      refine s_alloc (.agg #[.int .i64 0, .int .i64 0, .int .i64 0, .string ByteArray.empty, .int .i64 0]) #[.int .i64 0, .int .i64 0, .int .i64 0, .string ByteArray.empty, .int .i64 0] (fun g52 => ?_)
      refine s_nil (xs_held [2, 2, 2, 2, 2] ?_)
      refine h_stepS 12 ?_
      refine s_alloc (.agg #[.int .i64 0, .int .i64 0, .int .i64 0, .string ByteArray.empty, .int .i64 0]) #[.int .i64 0, .int .i64 0, .int .i64 0, .string ByteArray.empty, .int .i64 0] (fun g53 => ?_)
      refine s_nil (xs_held [3, 3, 3, 3, 3] ?_)
      refine h_stepS 13 ?_
      refine s_store 1 #[.int .i64 (((onext S k).1).kind), .int .i64 (((onext S k).1).p), .int .i64 (((onext S k).1).q), .string (((onext S k).1).str), .int .i64 (((onext S k).1).ref)] ?_
      refine s_nil (xs_held [3, 3, 3, 3, 3] ?_)
      refine h_stepS 14 ?_
      refine s_store 0 #[.int .i64 (((onext S k).2.1).kind), .int .i64 (((onext S k).2.1).p), .int .i64 (((onext S k).2.1).q), .string (((onext S k).2.1).str), .int .i64 (((onext S k).2.1).ref)] ?_
      refine s_nil (xs_held [3, 3, 3, 3, 3] ?_)
      refine hp_ 15 [3, 3, 3, 3, 3] (.bool ((onext S k).2.2.1)) ?_
      refine hp_ 16 [3, 3, 3, 3, 3] (.int .i64 ((onext S k).2.2.2)) ?_
      refine h_doneS ?_
      exact xcut (g52, g53) (fun _ h => h.re [1, 0, 1, 1, 0, 0, 0, 0] [])
     ·
      refine s_alloc (.agg #[.int .i64 0, .int .i64 0, .int .i64 0, .string ByteArray.empty, .int .i64 0]) #[.int .i64 0, .int .i64 0, .int .i64 0, .string ByteArray.empty, .int .i64 0] (fun g54 => ?_)
      refine s_nil (xs_held [2, 2, 2, 2, 2] ?_)
      refine h_stepS 11 ?_
      refine s_alloc (.agg #[.int .i64 0, .int .i64 0, .int .i64 0, .string ByteArray.empty, .int .i64 0]) #[.int .i64 0, .int .i64 0, .int .i64 0, .string ByteArray.empty, .int .i64 0] (fun g55 => ?_)
      refine s_nil (xs_held [3, 3, 3, 3, 3] ?_)
      refine h_stepS 13 ?_
      refine s_store 0 #[.int .i64 (((onext S k).1).kind), .int .i64 (((onext S k).1).p), .int .i64 (((onext S k).1).q), .string (((onext S k).1).str), .int .i64 (((onext S k).1).ref)] ?_
      refine s_nil (xs_held [3, 3, 3, 3, 3] ?_)
      refine h_stepS 14 ?_
      refine s_store 1 #[.int .i64 (((onext S k).2.1).kind), .int .i64 (((onext S k).2.1).p), .int .i64 (((onext S k).2.1).q), .string (((onext S k).2.1).str), .int .i64 (((onext S k).2.1).ref)] ?_
      refine s_nil (xs_held [3, 3, 3, 3, 3] ?_)
      refine hp_ 15 [3, 3, 3, 3, 3] (.bool ((onext S k).2.2.1)) ?_
      refine hp_ 16 [3, 3, 3, 3, 3] (.int .i64 ((onext S k).2.2.2)) ?_
      refine h_doneS ?_
      exact xcut (g55, g54) (fun _ h => h.re [0, 0, 1, 1, 0, 0, 0, 0] [])
    ·
     refine s_alloc (.agg #[.int .i64 0, .int .i64 0, .int .i64 0, .string ByteArray.empty, .int .i64 0]) #[.int .i64 0, .int .i64 0, .int .i64 0, .string ByteArray.empty, .int .i64 0] (fun g56 => ?_)
     refine s_nil (xs_held [1, 1, 2, 2, 2] ?_)
     refine h_stepS2 5 12 ?_ ?_
     ·
      refine s_call [3] (omnext_s (S := S) (by (try simp only [lnm]); omega) k) ?_
      rintro _ _ ⟨rfl, rfl⟩
      refine s_nil (xs_held [2, 2, 2, 2, 2] ?_)
      refine hp_ 6 [2, 2, 2, 2, 2] (.tuple #[.agg #[.int .i64 (((onext S k).1).kind), .int .i64 (((onext S k).1).p), .int .i64 (((onext S k).1).q), .string (((onext S k).1).str), .int .i64 (((onext S k).1).ref)], .agg #[.int .i64 (((onext S k).2.1).kind), .int .i64 (((onext S k).2.1).p), .int .i64 (((onext S k).2.1).q), .string (((onext S k).2.1).str), .int .i64 (((onext S k).2.1).ref)], .bool ((onext S k).2.2.1), .int .i64 ((onext S k).2.2.2)]) ?_
      refine hp_ 7 [2, 2, 2, 2, 2] (.agg #[.int .i64 (((onext S k).1).kind), .int .i64 (((onext S k).1).p), .int .i64 (((onext S k).1).q), .string (((onext S k).1).str), .int .i64 (((onext S k).1).ref)]) ?_
      refine hp_ 8 [2, 2, 2, 2, 2] (.agg #[.int .i64 (((onext S k).2.1).kind), .int .i64 (((onext S k).2.1).p), .int .i64 (((onext S k).2.1).q), .string (((onext S k).2.1).str), .int .i64 (((onext S k).2.1).ref)]) ?_
      refine hp_ 9 [2, 2, 2, 2, 2] (.bool ((onext S k).2.2.1)) ?_
      refine hp_ 10 [2, 2, 2, 2, 2] (.int .i64 ((onext S k).2.2.2)) ?_
      refine h_stepS 12 ?_
      refine s_alloc (.agg #[.int .i64 0, .int .i64 0, .int .i64 0, .string ByteArray.empty, .int .i64 0]) #[.int .i64 0, .int .i64 0, .int .i64 0, .string ByteArray.empty, .int .i64 0] (fun g57 => ?_)
      refine s_nil (xs_held [3, 3, 3, 3, 3] ?_)
      refine h_stepS 13 ?_
      refine s_store 2 #[.int .i64 (((onext S k).1).kind), .int .i64 (((onext S k).1).p), .int .i64 (((onext S k).1).q), .string (((onext S k).1).str), .int .i64 (((onext S k).1).ref)] ?_
      refine s_nil (xs_held [3, 3, 3, 3, 3] ?_)
      refine h_stepS 14 ?_
      refine s_store 0 #[.int .i64 (((onext S k).2.1).kind), .int .i64 (((onext S k).2.1).p), .int .i64 (((onext S k).2.1).q), .string (((onext S k).2.1).str), .int .i64 (((onext S k).2.1).ref)] ?_
      refine s_nil (xs_held [3, 3, 3, 3, 3] ?_)
      refine hp_ 15 [3, 3, 3, 3, 3] (.bool ((onext S k).2.2.1)) ?_
      refine hp_ 16 [3, 3, 3, 3, 3] (.int .i64 ((onext S k).2.2.2)) ?_
      refine h_doneS ?_
      exact xcut (g56, g57) (fun _ h => h.re [2, 0, 1, 1, 0, 0, 0, 0] [])
     ·
      refine s_alloc (.agg #[.int .i64 0, .int .i64 0, .int .i64 0, .string ByteArray.empty, .int .i64 0]) #[.int .i64 0, .int .i64 0, .int .i64 0, .string ByteArray.empty, .int .i64 0] (fun g58 => ?_)
      refine s_nil (xs_held [2, 2, 3, 3, 3] ?_)
      refine h_stepS 5 ?_
      refine s_call [4] (omnext_s (S := S) (by (try simp only [lnm]); omega) k) ?_
      rintro _ _ ⟨rfl, rfl⟩
      refine s_nil (xs_held [3, 3, 3, 3, 3] ?_)
      refine hp_ 6 [3, 3, 3, 3, 3] (.tuple #[.agg #[.int .i64 (((onext S k).1).kind), .int .i64 (((onext S k).1).p), .int .i64 (((onext S k).1).q), .string (((onext S k).1).str), .int .i64 (((onext S k).1).ref)], .agg #[.int .i64 (((onext S k).2.1).kind), .int .i64 (((onext S k).2.1).p), .int .i64 (((onext S k).2.1).q), .string (((onext S k).2.1).str), .int .i64 (((onext S k).2.1).ref)], .bool ((onext S k).2.2.1), .int .i64 ((onext S k).2.2.2)]) ?_
      refine hp_ 7 [3, 3, 3, 3, 3] (.agg #[.int .i64 (((onext S k).1).kind), .int .i64 (((onext S k).1).p), .int .i64 (((onext S k).1).q), .string (((onext S k).1).str), .int .i64 (((onext S k).1).ref)]) ?_
      refine hp_ 8 [3, 3, 3, 3, 3] (.agg #[.int .i64 (((onext S k).2.1).kind), .int .i64 (((onext S k).2.1).p), .int .i64 (((onext S k).2.1).q), .string (((onext S k).2.1).str), .int .i64 (((onext S k).2.1).ref)]) ?_
      refine hp_ 9 [3, 3, 3, 3, 3] (.bool ((onext S k).2.2.1)) ?_
      refine hp_ 10 [3, 3, 3, 3, 3] (.int .i64 ((onext S k).2.2.2)) ?_
      refine h_stepS 13 ?_
      refine s_store 2 #[.int .i64 (((onext S k).1).kind), .int .i64 (((onext S k).1).p), .int .i64 (((onext S k).1).q), .string (((onext S k).1).str), .int .i64 (((onext S k).1).ref)] ?_
      refine s_nil (xs_held [3, 3, 3, 3, 3] ?_)
      refine h_stepS 14 ?_
      refine s_store 1 #[.int .i64 (((onext S k).2.1).kind), .int .i64 (((onext S k).2.1).p), .int .i64 (((onext S k).2.1).q), .string (((onext S k).2.1).str), .int .i64 (((onext S k).2.1).ref)] ?_
      refine s_nil (xs_held [3, 3, 3, 3, 3] ?_)
      refine hp_ 15 [3, 3, 3, 3, 3] (.bool ((onext S k).2.2.1)) ?_
      refine hp_ 16 [3, 3, 3, 3, 3] (.int .i64 ((onext S k).2.2.2)) ?_
      refine h_doneS ?_
      exact xcut (g56, g58) (fun _ h => h.re [2, 1, 1, 1, 0, 0, 0, 0] [])
    ·
     refine s_alloc (.agg #[.int .i64 0, .int .i64 0, .int .i64 0, .string ByteArray.empty, .int .i64 0]) #[.int .i64 0, .int .i64 0, .int .i64 0, .string ByteArray.empty, .int .i64 0] (fun g59 => ?_)
     refine s_nil (xs_held [1, 1, 2, 2, 2] ?_)
     refine h_stepS2 5 11 ?_ ?_
     ·
      refine s_call [3] (omnext_s (S := S) (by (try simp only [lnm]); omega) k) ?_
      rintro _ _ ⟨rfl, rfl⟩
      refine s_nil (xs_held [2, 2, 2, 2, 2] ?_)
      refine hp_ 6 [2, 2, 2, 2, 2] (.tuple #[.agg #[.int .i64 (((onext S k).1).kind), .int .i64 (((onext S k).1).p), .int .i64 (((onext S k).1).q), .string (((onext S k).1).str), .int .i64 (((onext S k).1).ref)], .agg #[.int .i64 (((onext S k).2.1).kind), .int .i64 (((onext S k).2.1).p), .int .i64 (((onext S k).2.1).q), .string (((onext S k).2.1).str), .int .i64 (((onext S k).2.1).ref)], .bool ((onext S k).2.2.1), .int .i64 ((onext S k).2.2.2)]) ?_
      refine hp_ 7 [2, 2, 2, 2, 2] (.agg #[.int .i64 (((onext S k).1).kind), .int .i64 (((onext S k).1).p), .int .i64 (((onext S k).1).q), .string (((onext S k).1).str), .int .i64 (((onext S k).1).ref)]) ?_
      refine hp_ 8 [2, 2, 2, 2, 2] (.agg #[.int .i64 (((onext S k).2.1).kind), .int .i64 (((onext S k).2.1).p), .int .i64 (((onext S k).2.1).q), .string (((onext S k).2.1).str), .int .i64 (((onext S k).2.1).ref)]) ?_
      refine hp_ 9 [2, 2, 2, 2, 2] (.bool ((onext S k).2.2.1)) ?_
      refine hp_ 10 [2, 2, 2, 2, 2] (.int .i64 ((onext S k).2.2.2)) ?_
      refine h_stepS 11 ?_
      refine s_alloc (.agg #[.int .i64 0, .int .i64 0, .int .i64 0, .string ByteArray.empty, .int .i64 0]) #[.int .i64 0, .int .i64 0, .int .i64 0, .string ByteArray.empty, .int .i64 0] (fun g60 => ?_)
      refine s_nil (xs_held [3, 3, 3, 3, 3] ?_)
      refine h_stepS 13 ?_
      refine s_store 0 #[.int .i64 (((onext S k).1).kind), .int .i64 (((onext S k).1).p), .int .i64 (((onext S k).1).q), .string (((onext S k).1).str), .int .i64 (((onext S k).1).ref)] ?_
      refine s_nil (xs_held [3, 3, 3, 3, 3] ?_)
      refine h_stepS 14 ?_
      refine s_store 2 #[.int .i64 (((onext S k).2.1).kind), .int .i64 (((onext S k).2.1).p), .int .i64 (((onext S k).2.1).q), .string (((onext S k).2.1).str), .int .i64 (((onext S k).2.1).ref)] ?_
      refine s_nil (xs_held [3, 3, 3, 3, 3] ?_)
      refine hp_ 15 [3, 3, 3, 3, 3] (.bool ((onext S k).2.2.1)) ?_
      refine hp_ 16 [3, 3, 3, 3, 3] (.int .i64 ((onext S k).2.2.2)) ?_
      refine h_doneS ?_
      exact xcut (g60, g59) (fun _ h => h.re [0, 1, 1, 1, 0, 0, 0, 0] [])
     ·
      refine s_alloc (.agg #[.int .i64 0, .int .i64 0, .int .i64 0, .string ByteArray.empty, .int .i64 0]) #[.int .i64 0, .int .i64 0, .int .i64 0, .string ByteArray.empty, .int .i64 0] (fun g61 => ?_)
      refine s_nil (xs_held [2, 2, 3, 3, 3] ?_)
      refine h_stepS 5 ?_
      refine s_call [4] (omnext_s (S := S) (by (try simp only [lnm]); omega) k) ?_
      rintro _ _ ⟨rfl, rfl⟩
      refine s_nil (xs_held [3, 3, 3, 3, 3] ?_)
      refine hp_ 6 [3, 3, 3, 3, 3] (.tuple #[.agg #[.int .i64 (((onext S k).1).kind), .int .i64 (((onext S k).1).p), .int .i64 (((onext S k).1).q), .string (((onext S k).1).str), .int .i64 (((onext S k).1).ref)], .agg #[.int .i64 (((onext S k).2.1).kind), .int .i64 (((onext S k).2.1).p), .int .i64 (((onext S k).2.1).q), .string (((onext S k).2.1).str), .int .i64 (((onext S k).2.1).ref)], .bool ((onext S k).2.2.1), .int .i64 ((onext S k).2.2.2)]) ?_
      refine hp_ 7 [3, 3, 3, 3, 3] (.agg #[.int .i64 (((onext S k).1).kind), .int .i64 (((onext S k).1).p), .int .i64 (((onext S k).1).q), .string (((onext S k).1).str), .int .i64 (((onext S k).1).ref)]) ?_
      refine hp_ 8 [3, 3, 3, 3, 3] (.agg #[.int .i64 (((onext S k).2.1).kind), .int .i64 (((onext S k).2.1).p), .int .i64 (((onext S k).2.1).q), .string (((onext S k).2.1).str), .int .i64 (((onext S k).2.1).ref)]) ?_
      refine hp_ 9 [3, 3, 3, 3, 3] (.bool ((onext S k).2.2.1)) ?_
      refine hp_ 10 [3, 3, 3, 3, 3] (.int .i64 ((onext S k).2.2.2)) ?_
      refine h_stepS 13 ?_
      refine s_store 1 #[.int .i64 (((onext S k).1).kind), .int .i64 (((onext S k).1).p), .int .i64 (((onext S k).1).q), .string (((onext S k).1).str), .int .i64 (((onext S k).1).ref)] ?_
      refine s_nil (xs_held [3, 3, 3, 3, 3] ?_)
      refine h_stepS 14 ?_
      refine s_store 2 #[.int .i64 (((onext S k).2.1).kind), .int .i64 (((onext S k).2.1).p), .int .i64 (((onext S k).2.1).q), .string (((onext S k).2.1).str), .int .i64 (((onext S k).2.1).ref)] ?_
      refine s_nil (xs_held [3, 3, 3, 3, 3] ?_)
      refine hp_ 15 [3, 3, 3, 3, 3] (.bool ((onext S k).2.2.1)) ?_
      refine hp_ 16 [3, 3, 3, 3, 3] (.int .i64 ((onext S k).2.2.2)) ?_
      refine h_doneS ?_
      exact xcut (g61, g59) (fun _ h => h.re [1, 1, 1, 1, 0, 0, 0, 0] [])
   ·
    obtain ⟨jb10, jb11⟩ := ix
    show SK _ _ _ _ _ [(0, .pointer (some ⟨b, 0, none⟩)), (4, .pointer (some ⟨g2, 0, none⟩)), (5, .pointer (some ⟨g3, 0, none⟩)), (8, .int .i64 k.p), (9, .bool false), (10, .pointer (some ⟨jb10, 0, none⟩)), (11, .pointer (some ⟨jb11, 0, none⟩)), (12, .bool ((onext S k).2.2.1)), (13, .int .i64 ((onext S k).2.2.2))] _ (blkA jb10 #[.int .i64 (((onext S k).1).kind), .int .i64 (((onext S k).1).p), .int .i64 (((onext S k).1).q), .string (((onext S k).1).str), .int .i64 (((onext S k).1).ref)] 26 :: blkA jb11 #[.int .i64 (((onext S k).2.1).kind), .int .i64 (((onext S k).2.1).p), .int .i64 (((onext S k).2.1).q), .string (((onext S k).2.1).str), .int .i64 (((onext S k).2.1).ref)] 26 :: blkA b #[lv50, .pointer (some ⟨r51, 0, none⟩)] 80 :: own VlT lv50 L :: omA r51 S :: blkA g3 #[.int .i64 0, .int .i64 0, .int .i64 0, .string ByteArray.empty, .int .i64 0] 26 :: blkA g2 #[.int .i64 0, .int .i64 0, .int .i64 0, .string ByteArray.empty, .int .i64 0] 26 :: blkA g1 #[.int .i64 k.kind, .int .i64 k.p, .int .i64 k.q, .string k.str, .int .i64 k.ref] 26 :: F)
    refine k_seq ?_
    refine k_block ?_
    refine k_sr ?_
    refine sp (.int .i64 ((onext S k).2.2.2)) ?_
    refine s_lt t_cmp ?_
    refine sp (.bool (decide ((onext S k).2.2.2 = 0))) ?_
    refine s_nt ?_
    refine k_cond (decide ((onext S k).2.2.2 = 0)) (fun c62 => ?_) (fun c62 => ?_)
    ·
     have p63 := of_decide_eq_true c62
     refine k_seq ?_
     refine k_held [blkA jb10 #[.int .i64 (((onext S k).1).kind), .int .i64 (((onext S k).1).p), .int .i64 (((onext S k).1).q), .string (((onext S k).1).str), .int .i64 (((onext S k).1).ref)] 26, blkA jb11 #[.int .i64 (((onext S k).2.1).kind), .int .i64 (((onext S k).2.1).p), .int .i64 (((onext S k).2.1).q), .string (((onext S k).2.1).str), .int .i64 (((onext S k).2.1).ref)] 26, blkA b #[lv50, pB r51 0] 80, own VlT lv50 L, blkA g1 #[.int .i64 k.kind, .int .i64 k.p, .int .i64 k.q, .string k.str, .int .i64 k.ref] 26] ?_
     refine h_l 0 rfl [0, 0, 0, 0, 3] (fun _ => (t_loadA 0 #[.int .i64 (((onext S k).1).kind), .int .i64 (((onext S k).1).p), .int .i64 (((onext S k).1).q), .string (((onext S k).1).str), .int .i64 (((onext S k).1).ref)])) ?_
     refine h_l 1 rfl [0, 0, 0, 0, 3] (fun _ => (t_loadA 1 #[.int .i64 (((onext S k).2.1).kind), .int .i64 (((onext S k).2.1).p), .int .i64 (((onext S k).2.1).q), .string (((onext S k).2.1).str), .int .i64 (((onext S k).2.1).ref)])) ?_
     refine hp_ 2 [0, 0, 0, 0, 3] (.bool ((onext S k).2.2.1)) ?_
     refine hp_ 3 [0, 0, 0, 0, 3] (.int .i64 ((onext S k).2.2.2)) ?_
     refine h_stepS 4 ?_
     refine s_store 6 #[.int .i64 (((onext S k).1).kind), .int .i64 (((onext S k).1).p), .int .i64 (((onext S k).1).q), .string (((onext S k).1).str), .int .i64 (((onext S k).1).ref)] ?_
     refine s_nil (xs_held [0, 0, 0, 0, 3] ?_)
     refine h_stepS 5 ?_
     refine s_store 5 #[.int .i64 (((onext S k).2.1).kind), .int .i64 (((onext S k).2.1).p), .int .i64 (((onext S k).2.1).q), .string (((onext S k).2.1).str), .int .i64 (((onext S k).2.1).ref)] ?_
     refine s_nil (xs_held [0, 0, 0, 0, 3] ?_)
     refine hp_ 6 [0, 0, 0, 0, 3] (.bool ((onext S k).2.2.1)) ?_
     refine hp_ 7 [0, 0, 0, 0, 3] (.int .i64 ((onext S k).2.2.2)) ?_
     refine h_doneS ?_
     refine xs_then ?_
     refine k_ret ?_
     refine xs_retBlock ?_
     refine xs_ret ?_
     refine xs_mem (fun _ h => tb_shut (h.re [2, 2, 2] [])) ?_
     have hz : k ≠ zVl := of_decide_eq_false c4
     have hr : ¬ (1 ≤ whole k ∧ whole k ≤ ((⟨L, S⟩ : Tb).list.length : Int)) := by show ¬ (_ ∧ _ ≤ (L.length : Int)); omega
     have hp : tnext ⟨L, S⟩ k = onext S k := tnext_rest hz hr (of_decide_eq_true c62)
     refine xs_fin [.agg #[.int .i64 (((onext S k).1).kind), .int .i64 (((onext S k).1).p), .int .i64 (((onext S k).1).q), .string (((onext S k).1).str), .int .i64 (((onext S k).1).ref)], .agg #[.int .i64 (((onext S k).2.1).kind), .int .i64 (((onext S k).2.1).p), .int .i64 (((onext S k).2.1).q), .string (((onext S k).2.1).str), .int .i64 (((onext S k).2.1).ref)], .bool ((onext S k).2.2.1), .int .i64 ((onext S k).2.2.2)] (tbA b L S :: F) (SI.agg 4 26 4 (SI.agg 5 26 3 (SI.tmp 6 (SI.tmp 7 SI.nil)))) (fun _ h => h.re [0] [1, 1, 1, 1, 1]) ⟨?_, rfl⟩
     rw [hp]; rfl
    ·
     have p64 := of_decide_eq_false c62
     refine k_sr ?_
     refine sp (.bool false) ?_
     refine sp (.bool false) ?_
     refine s_skip ?_
     refine s_skip ?_
     refine sp (.bool false) ?_
     refine sp (.bool false) ?_
     refine s_nt ?_
     refine k_false ?_
     refine k_skip ?_
     refine xs_block ?_
     refine xs_then ?_
     refine k_sr ?_
     refine s_lt (t_kern (.agg #[.int .i64 0, .int .i64 0, .int .i64 0, .string ByteArray.empty, .int .i64 0])) ?_
     refine s_lt (t_kern (.agg #[.int .i64 0, .int .i64 0, .int .i64 0, .string ByteArray.empty, .int .i64 0])) ?_
     refine s_store 6 #[.int .i64 0, .int .i64 0, .int .i64 0, .string ByteArray.empty, .int .i64 0] ?_
     refine s_store 5 #[.int .i64 0, .int .i64 0, .int .i64 0, .string ByteArray.empty, .int .i64 0] ?_
     refine sp (.bool false) ?_
     refine sp (.int .i64 13) ?_
     refine s_nt ?_
     refine k_ret ?_
     refine xs_mem (fun _ h => tb_shut (h.re [2, 2, 2] [])) ?_
     have hz : k ≠ zVl := of_decide_eq_false c4
     have hr : ¬ (1 ≤ whole k ∧ whole k ≤ ((⟨L, S⟩ : Tb).list.length : Int)) := by show ¬ (_ ∧ _ ≤ (L.length : Int)); omega
     have hp : tnext ⟨L, S⟩ k = (zVl, zVl, false, 13) := tnext_bad hz hr (of_decide_eq_false c62) (by omega)
     refine xs_fin [.agg #[.int .i64 0, .int .i64 0, .int .i64 0, .string ByteArray.empty, .int .i64 0], .agg #[.int .i64 0, .int .i64 0, .int .i64 0, .string ByteArray.empty, .int .i64 0], .bool false, .int .i64 13] (tbA b L S :: F) (SI.agg 4 26 4 (SI.agg 5 26 3 (SI.tmp 6 (SI.tmp 7 SI.nil)))) (fun _ h => h.re [0] [1, 1, 1, 1, 1]) ⟨?_, rfl⟩
     rw [hp]; rfl
theorem tbinsert_s {Z : Zone} {F : List Asr} {b : Nat} {L : List Vl} {S : List Slt} (hti : TInv ⟨L, S⟩) (hl : L.length ≤ 100000) (hs : S.length ≤ 100000) (x : Int) (v : Vl) : SF Try.prog 76 #[.pointer (some ⟨b, 0, none⟩), .int .i64 x, v.v] Z (tbA b L S :: F) fun r Bs => r = .int .i64 (tinsE ⟨L, S⟩ x v) ∧ Bs = tbA b (tins ⟨L, S⟩ x v).list (tins ⟨L, S⟩ x v).rest :: F := by
 refine sf_enter Try.func76 71 [(0, pB b 0), (1, .int .i64 x), (2, .agg #[.int .i64 v.kind, .int .i64 v.p, .int .i64 v.q, .string v.str, .int .i64 v.ref])] (fun w0 => ?_)
 refine k_sr ?_
 refine s_box #[.int .i64 v.kind, .int .i64 v.p, .int .i64 v.q, .string v.str, .int .i64 v.ref] (fun g1 => ?_)
 refine sp (.int .i64 0) ?_
 refine s_nt ?_
 refine k_seq ?_
 refine k_sr ?_
 refine sp (pB b 0) ?_
 refine sp (.bool false) ?_
 refine s_nt ?_
 refine k_false ?_
 refine k_st ?_
 refine k_sr ?_
 refine sp (pB b 0) ?_
 refine sp (pB b 0) ?_
 refine sp (pB b 0) ?_
 refine s_mem2 (fun H h => tb_open (h.re [1] [])) (fun lv2 r3 hw => ?_)
 refine s_lt (t_load 0 lv2) ?_
 refine s_lt (t_len VlT_ok Try.underlying22 (.own 1)) ?_
 refine sp (.int .i64 (L.length : Int)) ?_
 refine s_nt ?_
 refine k_seq ?_
 refine k_cut (ι := Unit) (fun _ => True) (fun _ => [(0, pB b 0), (1, .int .i64 x), (5, pB g1 0), (7, .int .i64 (L.length : Int)), (23, .bool ((decide (x < 1)) || (decide (((L.length : Int) + 1) < x))))]) (fun _ => blkA b #[lv2, pB r3 0] 80 :: own VlT lv2 L :: omA r3 S :: blkA g1 #[.int .i64 v.kind, .int .i64 v.p, .int .i64 v.q, .string v.str, .int .i64 v.ref] 26 :: F) ?_ (fun _ _ => ?_)
 ·
  refine k_reg ?_
  refine sp (.int .i64 x) ?_
  refine s_lt t_cmp ?_
  refine sp (.bool (decide (x < 1))) ?_
  refine s_fork 18 (decide (x < 1)) (fun c4 => ?_) (fun c4 => ?_)
  ·
   have p5 := of_decide_eq_true c4
   refine s_skip ?_
   refine s_skip ?_
   refine s_skip ?_
   refine s_skip ?_
   refine sp (.bool true) ?_
   refine s_nil ?_
   exact xs_cut () trivial (sub_of rfl ⟨⟨rfl, rfl⟩, ⟨⟨rfl, rfl⟩, ⟨⟨rfl, rfl⟩, ⟨⟨rfl, rfl⟩, ⟨⟨rfl, show Value.bool true = Value.bool ((decide (x < 1)) || (decide (((L.length : Int) + 1) < x))) by first | (simp only [c4, bls]; done) | simp [c4]⟩, trivial⟩⟩⟩⟩⟩) (fun _ h => h.re [0, 0, 0, 0] [])
  ·
   have p6 := of_decide_eq_false c4
   refine sp (.int .i64 x) ?_
   refine sp (.int .i64 (L.length : Int)) ?_
   refine s_lt (t_add (L.length : Int) 1 (by (try simp only [lnm]); omega)) ?_
   refine s_lt t_cmp ?_
   refine sp (.bool (decide (((L.length : Int) + 1) < x))) ?_
   refine s_nil ?_
   exact xs_cut () trivial (sub_of rfl ⟨⟨rfl, rfl⟩, ⟨⟨rfl, rfl⟩, ⟨⟨rfl, rfl⟩, ⟨⟨rfl, rfl⟩, ⟨⟨rfl, show Value.bool (decide (((L.length : Int) + 1) < x)) = Value.bool ((decide (x < 1)) || (decide (((L.length : Int) + 1) < x))) by first | (simp only [c4, bls]; done) | simp [c4]⟩, trivial⟩⟩⟩⟩⟩) (fun _ h => h.re [0, 0, 0, 0] [])
 ·
  refine k_cond ((decide (x < 1)) || (decide (((L.length : Int) + 1) < x))) (fun c7 => ?_) (fun c7 => ?_)
  ·
   have p8 := c7
   simp only [Bool.and_eq_true, Bool.or_eq_true, Bool.and_eq_false_iff, Bool.or_eq_false_iff, Bool.not_eq_true', Bool.not_eq_false', decide_eq_true_eq, decide_eq_false_iff_not] at p8
   refine k_sr ?_
   refine sp (.int .i64 6) ?_
   refine s_nt ?_
   refine k_ret ?_
   refine xs_ret ?_
   refine xs_mem (fun _ h => tb_shut (h.re [0, 0, 0] [])) ?_
   have hp := tins_range (T := ⟨L, S⟩) (v := v) (p := x) (by show _ ∨ (L.length : Int) + 1 < x; omega)
   refine xs_fin [.int .i64 6] (tbA b L S :: F) (SI.tmp 6 SI.nil) (fun _ h => h.re [0] [1]) ⟨?_, ?_⟩
   · rw [hp.2]; try rfl
   · rw [hp.1]
  ·
   obtain ⟨c9, c10⟩ := or_f c7
   have p11 := of_decide_eq_false c9
   have p12 := of_decide_eq_false c10
   refine k_st ?_
   refine k_seq ?_
   refine k_sr ?_
   refine s_lt (t_loadA 3 #[.int .i64 v.kind, .int .i64 v.p, .int .i64 v.q, .string v.str, .int .i64 v.ref]) ?_
   refine s_vcall (fun _ h => valid_s v) ?_
   rintro _ rfl
   refine sp (.bool (!(validB v))) ?_
   refine s_nt ?_
   refine k_cond (!(validB v)) (fun c13 => ?_) (fun c13 => ?_)
   ·
    have c14 := not_t c13
    refine k_sr ?_
    refine sp (.int .i64 2) ?_
    refine s_nt ?_
    refine k_ret ?_
    refine xs_ret ?_
    refine xs_mem (fun _ h => tb_shut (h.re [0, 0, 0] [])) ?_
    have hp := tins_bad (T := ⟨L, S⟩) (v := v) (p := x) (by show ¬ (_ ∨ (L.length : Int) + 1 < x); omega) c14
    refine xs_fin [.int .i64 2] (tbA b L S :: F) (SI.tmp 6 SI.nil) (fun _ h => h.re [0] [1]) ⟨?_, ?_⟩
    · rw [hp.2]; try rfl
    · rw [hp.1]
   ·
    have c15 := not_f c13
    refine k_st ?_
    refine k_seq ?_
    refine k_sr ?_
    refine sp (.int .i64 x) ?_
    refine sp (.int .i64 (L.length : Int)) ?_
    refine s_lt (t_add (L.length : Int) 1 (by (try simp only [lnm]); omega)) ?_
    refine s_lt t_cmp ?_
    refine s_nt ?_
    refine k_cond (decide (x = ((L.length : Int) + 1))) (fun c16 => ?_) (fun c16 => ?_)
    ·
     have p17 := of_decide_eq_true c16
     refine k_seq ?_
     refine k_mem (fun _ h => tb_shut (h.re [0, 0, 0] [])) ?_
     refine k_held [blkA g1 #[.int .i64 v.kind, .int .i64 v.p, .int .i64 v.q, .string v.str, .int .i64 v.ref] 26] ?_
     refine hp_ 0 [1] (pB b 0) ?_
     refine hp_ 1 [1] (.int .i64 x) ?_
     refine h_l 3 rfl [1] (fun _ => (t_loadA 0 #[.int .i64 v.kind, .int .i64 v.p, .int .i64 v.q, .string v.str, .int .i64 v.ref])) ?_
     refine h_stepS 2 ?_
     refine s_vcall (fun _ h => ofint_s x) ?_
     rintro _ rfl
     refine s_nil (xs_held [1] ?_)
     refine h_stepS 4 ?_
     refine s_call [0] (tbset_s (L := L) (S := S) hti (by (try simp only [lnm]); omega) (by (try simp only [lnm]); omega) (ofI x) v) ?_
     rintro _ _ ⟨rfl, rfl⟩
     refine s_nil (xs_held [1] ?_)
     refine hp_ 5 [1] (.int .i64 (tsetE (ofI x) v)) ?_
     refine h_doneS ?_
     refine xs_then ?_
     refine k_ret ?_
     refine xs_ret ?_
     have hp := tins_end (T := ⟨L, S⟩) (v := v) (p := x) (by show _ = (L.length : Int) + 1; omega) c15
     refine xs_fin [.int .i64 (tsetE (ofI x) v)] (tbA b ((tset ⟨L, S⟩ (ofI x) v).list) ((tset ⟨L, S⟩ (ofI x) v).rest) :: F) (SI.tmp 6 SI.nil) (fun _ h => h.re [0] [1]) ⟨?_, ?_⟩
     · rw [hp.2]; try rfl
     · rw [hp.1]
    ·
     have p18 := of_decide_eq_false c16
     refine k_st ?_
     refine k_sr ?_
     refine sp (pB b 0) ?_
     refine sp (pB b 0) ?_
     refine sp (pB b 0) ?_
     refine s_lt (t_load 0 lv2) ?_
     refine sp (.int .i64 (L.length : Int)) ?_
     refine s_lt (t_sub (L.length : Int) 1 (by (try simp only [lnm]); omega)) ?_
     refine s_lt (t_index VlT_ok Try.underlying22 (.own 1) ((L.length : Int) - 1) (L.length - 1) (by omega) (by (try simp only [lnm]); omega) (by omega)) ?_
     obtain ⟨y19, hy20⟩ : ∃ y, L[(L.length - 1)]? = some y := ⟨_, List.getElem?_eq_getElem (by (try simp only [lnm]); omega)⟩
     refine s_lt (t_loadE VlT_ok (.own 1) hy20) ?_
     refine s_alloc (.agg #[.int .i64 0, .int .i64 0, .int .i64 0, .string ByteArray.empty, .int .i64 0]) #[.int .i64 0, .int .i64 0, .int .i64 0, .string ByteArray.empty, .int .i64 0] (fun g21 => ?_)
     refine s_store 0 #[.int .i64 y19.kind, .int .i64 y19.p, .int .i64 y19.q, .string y19.str, .int .i64 y19.ref] ?_
     refine s_nt ?_
     refine k_seq ?_
     refine k_draw ?_
     refine sp (pB b 0) ?_
     refine sp (pB b 0) ?_
     refine sp (pB b 0) ?_
     refine s_lt (t_load 1 lv2) ?_
     refine sp (.int .i64 x) ?_
     refine s_lt (t_suf VlT_ok Try.underlying22 (.own 2) x x.toNat (by omega) (by (try simp only [lnm]); omega) (by omega)) ?_
     refine sp (pB b 0) ?_
     refine sp (pB b 0) ?_
     refine sp (pB b 0) ?_
     refine s_lt (t_load 1 lv2) ?_
     refine sp (.int .i64 x) ?_
     refine s_lt (t_sub x 1 (by (try simp only [lnm]); omega)) ?_
     refine sp (.int .i64 (L.length : Int)) ?_
     refine s_lt (t_sub (L.length : Int) 1 (by (try simp only [lnm]); omega)) ?_
     refine s_lt (t_mid VlT_ok Try.underlying22 (.own 2) (x - 1) ((L.length : Int) - 1) ((x - 1).toNat) ((L.length - 1) - ((x - 1).toNat)) (by omega) (by omega) (by (try simp only [lnm]); omega) (by omega) (by omega)) ?_
     refine s_copyS (L := L) (u := (suf VlT.size lv2 x.toNat)) 2 (0 + x.toNat) (L.length - x.toNat) VlT_ok Try.underlying22 (Acc.pre (Acc.suf (.own 2) VlT_ok ((x - 1).toNat) (by (try simp only [lnm]); omega)) VlT_ok ((L.length - 1) - ((x - 1).toNat)) (by (try simp only [lnm]); omega)) (fun _ h => (Sub.suf (Sub.self h) (by (try simp only [lnm]); omega))) (by (try simp only [lnm]); omega) ?_
     obtain ⟨L22, hL23⟩ : ∃ z_, z_ = (L.take (0 + x.toNat) ++ (((L.drop ((x - 1).toNat)).take ((L.length - 1) - ((x - 1).toNat))).take (L.length - x.toNat) ++ L.drop ((0 + x.toNat) + min ((L.drop ((x - 1).toNat)).take ((L.length - 1) - ((x - 1).toNat))).length (L.length - x.toNat)))) := ⟨_, rfl⟩
     rw [← hL23]
     have ll24 : L22.length = L.length := by rw [hL23]; first | ((try simp only [lnm]); omega) | simp only [lnm]
     refine s_nil ?_
     refine x_dynS (fun _ h => by kernel_rfl) ?_
     refine xs_then ?_
     refine k_seq ?_
     refine k_draw ?_
     refine sp (pB b 0) ?_
     refine sp (pB b 0) ?_
     refine sp (pB b 0) ?_
     refine s_lt (t_load 1 lv2) ?_
     refine sp (.int .i64 x) ?_
     refine s_lt (t_sub x 1 (by (try simp only [lnm]); omega)) ?_
     refine s_lt (t_loadA 4 #[.int .i64 v.kind, .int .i64 v.p, .int .i64 v.q, .string v.str, .int .i64 v.ref]) ?_
     refine s_lt (t_index VlT_ok Try.underlying22 (.own 2) (x - 1) ((x - 1).toNat) (by omega) (by (try simp only [lnm]); omega) (by omega)) ?_
     obtain ⟨y25, hy26⟩ : ∃ y, L22[(x - 1).toNat]? = some y := ⟨_, List.getElem?_eq_getElem (by (try simp only [lnm]); omega)⟩
     refine s_storeE 2 0 v VlT_ok hy26 ?_
     obtain ⟨L27, hL28⟩ : ∃ z_, z_ = (L22.set ((x - 1).toNat) v) := ⟨_, rfl⟩
     rw [← hL28]
     have ll29 : L27.length = L22.length := by rw [hL28]; first | ((try simp only [lnm]); omega) | simp only [lnm]
     refine s_nil ?_
     refine x_dynS (fun _ h => by kernel_rfl) ?_
     refine xs_then ?_
     refine k_sr ?_
     refine sp (pB b 0) ?_
     refine s_lt (t_loadA 0 #[.int .i64 y19.kind, .int .i64 y19.p, .int .i64 y19.q, .string y19.str, .int .i64 y19.ref]) ?_
     refine s_mem (fun _ h => tb_shut (h.re [1, 1, 1] [])) ?_
     refine s_call [0] (tbadd_s (L := L27) (S := S) (by (try simp only [lnm]); omega) (by (try simp only [lnm]); omega) y19) ?_
     rintro _ _ ⟨rfl, rfl⟩
     refine s_nr ?_
     refine sp (.int .i64 0) ?_
     refine s_nt ?_
     refine k_ret ?_
     have hx1 : x.toNat = (x - 1).toNat + 1 := by omega
     have hp := tins_mid (T := ⟨L, S⟩) (v := v) (p := x) (by omega) (by show _ ≤ (L.length : Int); omega) c15
     have hA : tinsL L (x - 1).toNat v = L27 := by rw [hL28, hL23]; exact (ins_copy v (by omega)).symm.trans (by rw [hx1]; simp only [Nat.zero_add])
     have hB : lastV L = y19 := by have := lastV_some (L := L) (by omega); rw [hy20] at this; injection this with e; exact e.symm
     have hC : (⟨L, S⟩ : Tb).list = L := rfl
     rw [show (⟨L, S⟩ : Tb).list = L from rfl, show (⟨L, S⟩ : Tb).rest = S from rfl, hA, hB] at hp
     refine xs_fin [.int .i64 0] (tbA b ((tadd ⟨L27, S⟩ y19).list) ((tadd ⟨L27, S⟩ y19).rest) :: F) (SI.tmp 6 SI.nil) (fun _ h => h.re [0] [1, 1]) ⟨?_, ?_⟩
     · rw [hp.2]; try rfl
     · rw [hp.1]
theorem tbremove_s {Z : Zone} {F : List Asr} {b : Nat} {L : List Vl} {S : List Slt} (hl : L.length ≤ 100000) (hs : S.length ≤ 100000) (x : Int) : SF Try.prog 77 #[.pointer (some ⟨b, 0, none⟩), .int .i64 x] Z (tbA b L S :: F) fun r Bs => r = .tuple #[(tremV ⟨L, S⟩ x).v, .int .i64 (tremE ⟨L, S⟩ x)] ∧ Bs = tbA b (trem ⟨L, S⟩ x).list (trem ⟨L, S⟩ x).rest :: F := by
 refine sf_enter Try.func77 57 [(0, pB b 0), (1, .int .i64 x)] (fun w0 => ?_)
 refine k_sr ?_
 refine s_alloc (.agg #[.int .i64 0, .int .i64 0, .int .i64 0, .string ByteArray.empty, .int .i64 0]) #[.int .i64 0, .int .i64 0, .int .i64 0, .string ByteArray.empty, .int .i64 0] (fun g1 => ?_)
 refine sp (.int .i64 0) ?_
 refine s_nt ?_
 refine k_seq ?_
 refine k_sr ?_
 refine sp (pB b 0) ?_
 refine sp (.bool false) ?_
 refine s_nt ?_
 refine k_false ?_
 refine k_st ?_
 refine k_sr ?_
 refine sp (pB b 0) ?_
 refine sp (pB b 0) ?_
 refine sp (pB b 0) ?_
 refine s_mem2 (fun H h => tb_open (h.re [1] [])) (fun lv2 r3 hw => ?_)
 refine s_lt (t_load 0 lv2) ?_
 refine s_lt (t_len VlT_ok Try.underlying22 (.own 1)) ?_
 refine sp (.int .i64 (L.length : Int)) ?_
 refine s_nt ?_
 refine k_seq ?_
 refine k_cut (ι := Unit) (fun _ => True) (fun _ => [(0, pB b 0), (1, .int .i64 x), (4, pB g1 0), (6, .int .i64 (L.length : Int)), (22, .bool ((decide (x < 1)) || (decide ((L.length : Int) < x))))]) (fun _ => blkA b #[lv2, pB r3 0] 80 :: own VlT lv2 L :: omA r3 S :: blkA g1 #[.int .i64 0, .int .i64 0, .int .i64 0, .string ByteArray.empty, .int .i64 0] 26 :: F) ?_ (fun _ _ => ?_)
 ·
  refine k_reg ?_
  refine sp (.int .i64 x) ?_
  refine s_lt t_cmp ?_
  refine sp (.bool (decide (x < 1))) ?_
  refine s_fork 18 (decide (x < 1)) (fun c4 => ?_) (fun c4 => ?_)
  ·
   have p5 := of_decide_eq_true c4
   refine s_skip ?_
   refine s_skip ?_
   refine s_skip ?_
   refine sp (.bool true) ?_
   refine s_nil ?_
   exact xs_cut () trivial (sub_of rfl ⟨⟨rfl, rfl⟩, ⟨⟨rfl, rfl⟩, ⟨⟨rfl, rfl⟩, ⟨⟨rfl, rfl⟩, ⟨⟨rfl, show Value.bool true = Value.bool ((decide (x < 1)) || (decide ((L.length : Int) < x))) by first | (simp only [c4, bls]; done) | simp [c4]⟩, trivial⟩⟩⟩⟩⟩) (fun _ h => h.re [0, 0, 0, 0] [])
  ·
   have p6 := of_decide_eq_false c4
   refine sp (.int .i64 x) ?_
   refine sp (.int .i64 (L.length : Int)) ?_
   refine s_lt t_cmp ?_
   refine sp (.bool (decide ((L.length : Int) < x))) ?_
   refine s_nil ?_
   exact xs_cut () trivial (sub_of rfl ⟨⟨rfl, rfl⟩, ⟨⟨rfl, rfl⟩, ⟨⟨rfl, rfl⟩, ⟨⟨rfl, rfl⟩, ⟨⟨rfl, show Value.bool (decide ((L.length : Int) < x)) = Value.bool ((decide (x < 1)) || (decide ((L.length : Int) < x))) by first | (simp only [c4, bls]; done) | simp [c4]⟩, trivial⟩⟩⟩⟩⟩) (fun _ h => h.re [0, 0, 0, 0] [])
 ·
  refine k_cond ((decide (x < 1)) || (decide ((L.length : Int) < x))) (fun c7 => ?_) (fun c7 => ?_)
  ·
   have p8 := c7
   simp only [Bool.and_eq_true, Bool.or_eq_true, Bool.and_eq_false_iff, Bool.or_eq_false_iff, Bool.not_eq_true', Bool.not_eq_false', decide_eq_true_eq, decide_eq_false_iff_not] at p8
   refine k_sr ?_
   refine s_lt (t_kern (.agg #[.int .i64 0, .int .i64 0, .int .i64 0, .string ByteArray.empty, .int .i64 0])) ?_
   refine s_store 3 #[.int .i64 0, .int .i64 0, .int .i64 0, .string ByteArray.empty, .int .i64 0] ?_
   refine sp (.int .i64 6) ?_
   refine s_nt ?_
   refine k_ret ?_
   refine xs_ret ?_
   refine xs_mem (fun _ h => tb_shut (h.re [0, 0, 0] [])) ?_
   have hp := trem_range (T := ⟨L, S⟩) (p := x) (by show _ ∨ (L.length : Int) < x; omega)
   refine xs_fin [.agg #[.int .i64 0, .int .i64 0, .int .i64 0, .string ByteArray.empty, .int .i64 0], .int .i64 6] (tbA b L S :: F) (SI.agg 4 26 1 (SI.tmp 5 SI.nil)) (fun _ h => h.re [0] [1]) ⟨?_, ?_⟩
   · rw [hp.2.1, hp.2.2]; try rfl
   · rw [hp.1]
  ·
   obtain ⟨c9, c10⟩ := or_f c7
   have p11 := of_decide_eq_false c9
   have p12 := of_decide_eq_false c10
   refine k_st ?_
   refine k_sr ?_
   refine sp (pB b 0) ?_
   refine sp (pB b 0) ?_
   refine sp (pB b 0) ?_
   refine s_lt (t_load 0 lv2) ?_
   refine sp (.int .i64 x) ?_
   refine s_lt (t_sub x 1 (by (try simp only [lnm]); omega)) ?_
   refine s_lt (t_index VlT_ok Try.underlying22 (.own 1) (x - 1) ((x - 1).toNat) (by omega) (by (try simp only [lnm]); omega) (by omega)) ?_
   obtain ⟨y13, hy14⟩ : ∃ y, L[(x - 1).toNat]? = some y := ⟨_, List.getElem?_eq_getElem (by (try simp only [lnm]); omega)⟩
   refine s_lt (t_loadE VlT_ok (.own 1) hy14) ?_
   refine s_alloc (.agg #[.int .i64 0, .int .i64 0, .int .i64 0, .string ByteArray.empty, .int .i64 0]) #[.int .i64 0, .int .i64 0, .int .i64 0, .string ByteArray.empty, .int .i64 0] (fun g15 => ?_)
   refine s_store 0 #[.int .i64 y13.kind, .int .i64 y13.p, .int .i64 y13.q, .string y13.str, .int .i64 y13.ref] ?_
   refine s_nt ?_
   refine k_seq ?_
   refine k_draw ?_
   refine sp (pB b 0) ?_
   refine sp (pB b 0) ?_
   refine sp (pB b 0) ?_
   refine s_lt (t_load 1 lv2) ?_
   refine sp (.int .i64 x) ?_
   refine s_lt (t_sub x 1 (by (try simp only [lnm]); omega)) ?_
   refine s_lt (t_suf VlT_ok Try.underlying22 (.own 2) (x - 1) ((x - 1).toNat) (by omega) (by (try simp only [lnm]); omega) (by omega)) ?_
   refine sp (pB b 0) ?_
   refine sp (pB b 0) ?_
   refine sp (pB b 0) ?_
   refine s_lt (t_load 1 lv2) ?_
   refine sp (.int .i64 x) ?_
   refine s_lt (t_suf VlT_ok Try.underlying22 (.own 2) x x.toNat (by omega) (by (try simp only [lnm]); omega) (by omega)) ?_
   refine s_copyS (L := L) (u := (suf VlT.size lv2 ((x - 1).toNat))) 2 (0 + ((x - 1).toNat)) (L.length - ((x - 1).toNat)) VlT_ok Try.underlying22 (Acc.suf (.own 2) VlT_ok x.toNat (by (try simp only [lnm]); omega)) (fun _ h => (Sub.suf (Sub.self h) (by (try simp only [lnm]); omega))) (by (try simp only [lnm]); omega) ?_
   obtain ⟨L16, hL17⟩ : ∃ z_, z_ = (L.take (0 + ((x - 1).toNat)) ++ ((L.drop x.toNat).take (L.length - ((x - 1).toNat)) ++ L.drop ((0 + ((x - 1).toNat)) + min (L.drop x.toNat).length (L.length - ((x - 1).toNat))))) := ⟨_, rfl⟩
   rw [← hL17]
   have ll18 : L16.length = L.length := by rw [hL17]; first | ((try simp only [lnm]); omega) | simp only [lnm]
   refine s_nil ?_
   refine x_dynS (fun _ h => by kernel_rfl) ?_
   refine xs_then ?_
   refine k_sr ?_
   refine sp (pB b 0) ?_
   refine sp (pB b 0) ?_
   refine sp (pB b 0) ?_
   refine s_lt (t_load 1 lv2) ?_
   refine sp (.int .i64 (L.length : Int)) ?_
   refine s_lt (t_sub (L.length : Int) 1 (by (try simp only [lnm]); omega)) ?_
   refine s_lt (t_kern (.agg #[.int .i64 0, .int .i64 0, .int .i64 0, .string ByteArray.empty, .int .i64 0])) ?_
   refine s_lt (t_index VlT_ok Try.underlying22 (.own 2) ((L.length : Int) - 1) (L.length - 1) (by omega) (by (try simp only [lnm]); omega) (by omega)) ?_
   obtain ⟨y19, hy20⟩ : ∃ y, L16[(L.length - 1)]? = some y := ⟨_, List.getElem?_eq_getElem (by (try simp only [lnm]); omega)⟩
   refine s_storeE 2 0 zVl VlT_ok hy20 ?_
   obtain ⟨L21, hL22⟩ : ∃ z_, z_ = (L16.set (L.length - 1) zVl) := ⟨_, rfl⟩
   rw [← hL22]
   have ll23 : L21.length = L16.length := by rw [hL22]; first | ((try simp only [lnm]); omega) | simp only [lnm]
   refine s_nr ?_
   refine sp (pB b 0) ?_
   refine s_mem (fun _ h => tb_shut (h.re [1, 1, 1] [])) ?_
   refine s_call [0] (tbshrink_s (L := L21) (S := S) (by (try simp only [lnm]); omega)) ?_
   rintro _ _ ⟨rfl, rfl⟩
   refine s_nr ?_
   refine s_lt (t_loadA 1 #[.int .i64 y13.kind, .int .i64 y13.p, .int .i64 y13.q, .string y13.str, .int .i64 y13.ref]) ?_
   refine s_store 2 #[.int .i64 y13.kind, .int .i64 y13.p, .int .i64 y13.q, .string y13.str, .int .i64 y13.ref] ?_
   refine sp (.int .i64 0) ?_
   refine s_nt ?_
   refine k_ret ?_
   have hx1 : x.toNat = (x - 1).toNat + 1 := by omega
   obtain ⟨hp1, hp2, hp3⟩ := trem_mid (T := ⟨L, S⟩) (p := x) (by omega) (by show _ ≤ (L.length : Int); omega)
   have hA : L.eraseIdx (x - 1).toNat ++ [zVl] = L21 := by rw [hL22, hL17]; exact (rem_copy (by omega)).symm.trans (by rw [hx1]; simp only [Nat.zero_add, Nat.zero_add])
   have hB : tremV ⟨L, S⟩ x = y13 := by have := hp3; rw [show (⟨L, S⟩ : Tb).list = L from rfl, hy14] at this; injection this with e; exact e.symm
   rw [show (⟨L, S⟩ : Tb).list = L from rfl, show (⟨L, S⟩ : Tb).rest = S from rfl, hA] at hp1
   have hp : _ ∧ _ ∧ _ := ⟨hp1, hp2, hB⟩
   refine xs_fin [.agg #[.int .i64 y13.kind, .int .i64 y13.p, .int .i64 y13.q, .string y13.str, .int .i64 y13.ref], .int .i64 0] (tbA b (shr L21) S :: F) (SI.agg 4 26 2 (SI.tmp 5 SI.nil)) (fun _ h => h.re [0] [1, 1]) ⟨?_, ?_⟩
   · rw [hp.2.1, hp.2.2]; try rfl
   · rw [hp.1]
end Go.Proofs.Ytmilekfknhglkaa
end
section
set_option linter.unusedSimpArgs false
set_option linter.unusedVariables false
namespace Go.Proofs.Ytmilekfknhglkaa
section
variable {st st' : Hst} {v k t m : Vl} {o : Hob}
theorem htab_of (hg : st.get v.ref = some o) (hk : v.kind = 4) (h4 : o.kind = 4) : htab st v = some o.tab := htab_is (hfind_is hg (by rw [hk, h4])) h4
theorem count_le (st : Hst) : st.count ≤ st.objs.length := List.countP_le_length
theorem hmake_ok (hc : st.count < 65536) : hmakeE st = 0 ∧ (∀ kd, hmakeV st kd = refV kd ((st.objs.length : Int) + 1)) ∧ (hmake st o).objs.length = st.objs.length + 1 ∧ ∀ id, (hmake st o).get id = if id = (st.objs.length : Int) + 1 then some o else st.get id := by
  unfold hmakeE hmake
  rw [if_neg (by omega), if_neg (by omega)]
  refine ⟨rfl, fun kd => ?_, by simp, fun id => get_snoc st o _ id⟩
  unfold hmakeV; rw [if_neg (by omega)]
theorem hset_okG {x : Vl} (hg : st.get t.ref = some o) (h4 : o.kind = 4) (ht : t.kind = 4) (hk : okKey k = true) (he : elemE x = 0) : hsetE st t k x = 0 ∧ (hset st t k x).objs.length = st.objs.length ∧ ∀ id, (hset st t k x).get id = if id = t.ref then some { o with tab := tset o.tab k x } else st.get id := by
  have hT := htab_of hg ht h4
  unfold hsetE hset Hst.setTab
  rw [hT, hg]
  simp only [hk, he]
  refine ⟨by simp, by simp [Hst.touch, Hst.put], fun id => ?_⟩
  simp only [ne_eq, not_true_eq_false, if_false, Bool.true_eq_false]
  rw [get_touch, get_put hg]
theorem noTb_inv : TInv noTb := TInv.nil
theorem noTb_tw : TW noTb := TW.nil
end
end Go.Proofs.Ytmilekfknhglkaa
end
section
set_option linter.unusedSimpArgs false
set_option linter.unusedVariables false
namespace Go.Proofs.Ytmilekfknhglkaa
/-- An object is changed. -/
def Hst.upd (st : Hst) (id : Int) (f : Hob → Hob) : Hst := match st.get id with
  | some o => st.put id (f o)
  | none => st
def hlenV (st : Hst) (t : Vl) : Int := match htab st t with
  | some T => (T.list.length : Int)
  | none => 0
def hnext (st : Hst) (t k : Vl) : Vl × Vl × Bool × Int := match htab st t with
  | some T => tnext T k
  | none => (zVl, zVl, false, 8)
def hinsE (st : Hst) (t : Vl) (p : Int) (v : Vl) : Int := match htab st t with
  | none => 8
  | some T => if elemE v ≠ 0 then elemE v else tinsE T p v
def hins (st : Hst) (t : Vl) (p : Int) (v : Vl) : Hst := match htab st t with
  | none => st
  | some T => if elemE v ≠ 0 then st else if tinsE T p v ≠ 0 then st else (st.setTab t.ref (tins T p v)).touch t.ref
def hremE (st : Hst) (t : Vl) (p : Int) : Int := match htab st t with
  | none => 8
  | some T => tremE T p
def hremV (st : Hst) (t : Vl) (p : Int) : Vl := match htab st t with
  | none => zVl
  | some T => tremV T p
def hrem (st : Hst) (t : Vl) (p : Int) : Hst := match htab st t with
  | none => st
  | some T => if tremE T p ≠ 0 then st else (st.setTab t.ref (trem T p)).touch t.ref
def hslotE (st : Hst) (v : Vl) (i : Int) : Int := match hfind st v with
  | some o => if o.kind = 8 then (if i < 1 ∨ 16 < i then 6 else 0) else 8
  | none => 8
def hslotV (st : Hst) (v : Vl) (i : Int) : Vl := match hfind st v with
  | some o => if hslotE st v i = 0 then (o.vals[(i - 1).toNat]?).getD zVl else zVl
  | none => zVl
def hsetSlotE (st : Hst) (v : Vl) (i : Int) (x : Vl) : Int := if hslotE st v i ≠ 0 then hslotE st v i else elemE x
def hsetSlot (st : Hst) (v : Vl) (i : Int) (x : Vl) : Hst := if hsetSlotE st v i x ≠ 0 then st else (st.upd v.ref fun o => { o with vals := o.vals.set (i - 1).toNat x }).touch v.ref
def refsE : List Vl → Int
  | [] => 0
  | x :: r => if elemE x ≠ 0 then elemE x else refsE r
def hisFT (st : Hst) (v : Vl) : Bool := match hfind st v with
  | some o => decide (o.kind = 5) || decide (o.kind = 7)
  | none => false
def hsetRefsE (st : Hst) (v : Vl) (l : List Vl) : Int := if hisFT st v = true then refsE l else 8
def hsetRefs (st : Hst) (v : Vl) (l : List Vl) : Hst := if hsetRefsE st v l ≠ 0 then st else (st.upd v.ref fun o => { o with vals := l }).touch v.ref
def htagV (st : Hst) (v : Vl) : Int × Bool := match hfind st v with
  | some o => if o.kind = 5 ∨ o.kind = 7 then (o.tag, true) else (0, false)
  | none => (0, false)
def hnameV (st : Hst) (v : Vl) : ByteArray × Bool := match hfind st v with
  | some o => if o.kind = 8 then (o.name, true) else (ByteArray.empty, false)
  | none => (ByteArray.empty, false)
def halive (st : Hst) (id : Int) : Bool := (st.get id).isSome
def hdropE (st : Hst) (id : Int) : Int := if halive st id = true then 0 else 19
def hdrop (st : Hst) (id : Int) : Hst := if halive st id = true then { st with objs := st.objs.set (id.toNat - 1) none } else st
/-- The identities of the objects, in order. -/
def hids (st : Hst) : List Int := ((List.range st.objs.length).map fun i : Nat => (i : Int) + 1).filter fun id => halive st id
def htchd (st : Hst) : List Int := (hids st).filter fun id => (st.tch[id.toNat - 1]?).getD false
def huntch (st : Hst) : Hst := { st with tch := st.tch.map fun _ => false }
/-! ### What an object is, further -/
structure ObW (o : Hob) : Prop where
  tw : TW o.tab
  vals : ∀ v ∈ o.vals, validB v = true
  mt : isRef o.mt.kind = true → 1 ≤ o.mt.ref
  data : o.kind = 8 → o.vals.length = 16
def HW (st : Hst) : Prop := ∀ o, some o ∈ st.objs → ObW o
theorem HW.nil : HW hp0 := fun _ h => by cases h
section
variable {st : Hst} {v t k x : Vl} {id p i : Int} {o o' : Hob} {n : Nat} {l : List Vl}
theorem HW.put (h : HW st) (ho : ObW o') : HW (st.put id o') := fun x hx => by
  rcases mem_put hx with hx | rfl
  · exact h x hx
  · exact ho
theorem HW.touch (h : HW st) (id : Int) : HW (st.touch id) := h
theorem HW.of (h : HW st) (hg : st.get id = some o) : ObW o := h o (get_mem hg).1
theorem HW.make (h : HW st) (ho : ObW o) : HW (hmake st o) := by
  unfold hmake
  split
  · exact h
  · intro x hx
    rcases List.mem_append.1 hx with hx | hx
    · exact h x hx
    · rw [List.mem_singleton] at hx; injection hx with hx; rw [hx]; exact ho
theorem newO_w (kind tag : Int) (name : ByteArray) {vals : List Vl} (hv : ∀ v ∈ vals, validB v = true) (h8 : kind = 8 → vals.length = 16) : ObW (newO kind tag name vals) := ⟨TW.nil, hv, fun h => (by cases h), h8⟩
theorem data_w (name : ByteArray) : ObW (newO 8 0 name (List.replicate 16 zVl)) := newO_w _ _ _ (fun v hv => by rw [(List.mem_replicate.1 hv).2]; decide) fun _ => by simp
theorem HW.set (hi : HInv st) (h : HW st) (t k v : Vl) : HW (hset st t k v) := by
  rcases hset_cases st t k v with ⟨_, e, _⟩ | ⟨_, _, _, e, _⟩ | ⟨_, _, _, _, e, _⟩ | ⟨T, o, h1, h2, h3, hv, h4, h5, h6, h7, e, _⟩
  · rw [e]; exact h
  · rw [e]; exact h
  · rw [e]; exact h
  · rw [e]
    have ho := h.of h4
    have hob := hi.obs o (get_mem h4).1
    refine HW.touch (HW.put h (o' := { o with tab := tset T k v }) ⟨?_, ho.vals, ho.mt, ho.data⟩) _
    rw [← h7]; exact tset_tw hob.tab ho.tw k v
theorem tadd_tw' {T : Tb} (h : TInv T) (hw : TW T) {L : List Vl} (hL : L.length = T.list.length) (v : Vl) : TW (tadd ⟨L, T.rest⟩ v) := by
  intro s hs
  have hle := grow_le T.rest (T.rest.length + 2) L v
  show inB _ (grow T.rest (T.rest.length + 2) L v).length = false
  have hs' : s ∈ live (if staleB T.rest L.length (grow T.rest (T.rest.length + 2) L v).length = true then purge T.rest (grow T.rest (T.rest.length + 2) L v).length else T.rest) := hs
  split at hs'
  · have h1 := (live_mem.1 hs').1
    unfold purge at h1
    have := (List.mem_filter.1 h1).2
    simpa using this
  · rename_i hst
    have h1 := hw s hs'
    refine inB_false fun hb => ?_
    have h2 : ¬ (1 ≤ whole s.key ∧ whole s.key ≤ (T.list.length : Int)) := fun hc => by rw [inB_iff.2 hc] at h1; cases h1
    exact stale_no (by simpa using hst) (live_mem.1 hs').1 (by omega) hb.2
theorem tins_tw {T : Tb} (h : TInv T) (hw : TW T) (p : Int) (v : Vl) : TW (tins T p v) := by
  unfold tins
  split
  · exact hw
  split
  · exact hw
  split
  · exact tset_tw h hw _ _
  · exact tadd_tw' h hw (tinsL_len (by omega)) _
theorem trem_tw {T : Tb} (hw : TW T) (p : Int) : TW (trem T p) := by
  unfold trem
  split
  · exact hw
  · intro s hs
    have h1 := hw s hs
    have h2 := shr_len (T.list.eraseIdx (p - 1).toNat ++ [zVl])
    rw [List.length_append, List.length_singleton, List.length_eraseIdx_of_lt (by omega)] at h2
    refine inB_false fun hb => ?_
    have hb2 : whole s.key ≤ ((shr (T.list.eraseIdx (p - 1).toNat ++ [zVl])).length : Int) := hb.2
    rw [inB_iff.2 ⟨hb.1, by omega⟩] at h1; cases h1
/-! ### Inserting and removing -/
theorem hins_cases (st : Hst) (t : Vl) (p : Int) (v : Vl) : (hins st t p v = st ∧ hinsE st t p v ≠ 0) ∨ ∃ o, htab st t = some o.tab ∧ st.get t.ref = some o ∧ o.kind = 4 ∧ t.kind = 4 ∧ elemE v = 0 ∧ tinsE o.tab p v = 0 ∧ hins st t p v = (st.put t.ref { o with tab := tins o.tab p v }).touch t.ref ∧ hinsE st t p v = 0 := by
  cases hT : htab st t with
  | none => exact .inl ⟨by unfold hins; rw [hT], by unfold hinsE; rw [hT]; exact (by decide : (8 : Int) ≠ 0)⟩
  | some T =>
    obtain ⟨o, h1, h2, h3, h4, h5⟩ := htab_some hT
    subst h5
    have eE : hinsE st t p v = if elemE v ≠ 0 then elemE v else tinsE o.tab p v := by unfold hinsE; rw [hT]
    have eS : hins st t p v = if elemE v ≠ 0 then st else if tinsE o.tab p v ≠ 0 then st else (st.setTab t.ref (tins o.tab p v)).touch t.ref := by unfold hins; rw [hT]
    rw [eE, eS]
    by_cases he : elemE v = 0
    · have he' : ¬ elemE v ≠ 0 := fun h => h he
      rw [if_neg he', if_neg he']
      by_cases ht : tinsE o.tab p v = 0
      · refine .inr ⟨o, rfl, h2, h3, h4, he, ht, ?_, ht⟩
        rw [if_neg (show ¬ tinsE o.tab p v ≠ 0 from fun h => h ht)]
        unfold Hst.setTab; rw [h2]
      · exact .inl ⟨by rw [if_pos ht], ht⟩
    · exact .inl ⟨by rw [if_pos he], by rw [if_pos he]; exact he⟩
theorem hrem_cases (st : Hst) (t : Vl) (p : Int) : (hrem st t p = st ∧ hremE st t p ≠ 0) ∨ ∃ o, htab st t = some o.tab ∧ st.get t.ref = some o ∧ o.kind = 4 ∧ t.kind = 4 ∧ tremE o.tab p = 0 ∧ hrem st t p = (st.put t.ref { o with tab := trem o.tab p }).touch t.ref ∧ hremE st t p = 0 := by
  cases hT : htab st t with
  | none => exact .inl ⟨by unfold hrem; rw [hT], by unfold hremE; rw [hT]; exact (by decide : (8 : Int) ≠ 0)⟩
  | some T =>
    obtain ⟨o, h1, h2, h3, h4, h5⟩ := htab_some hT
    subst h5
    have eE : hremE st t p = tremE o.tab p := by unfold hremE; rw [hT]
    have eS : hrem st t p = if tremE o.tab p ≠ 0 then st else (st.setTab t.ref (trem o.tab p)).touch t.ref := by unfold hrem; rw [hT]
    rw [eE, eS]
    by_cases ht : tremE o.tab p = 0
    · refine .inr ⟨o, rfl, h2, h3, h4, ht, ?_, ht⟩
      rw [if_neg (show ¬ tremE o.tab p ≠ 0 from fun h => h ht)]
      unfold Hst.setTab; rw [h2]
    · exact .inl ⟨by rw [if_pos ht], ht⟩
theorem tins_err {T : Tb} {p : Int} {v : Vl} (h : tinsE T p v ≠ 0) : tins T p v = T := by
  unfold tinsE at h
  unfold tins
  split at h
  · rename_i h1; rw [if_pos h1]
  rename_i h1
  rw [if_neg h1]
  split at h
  · rename_i h2; rw [if_pos h2]
  rename_i h2
  rw [if_neg h2]
  split at h
  · rename_i h3
    rw [if_pos h3]
    unfold tsetE at h
    split at h
    · rename_i h4; exact tset_bad (.inl h4)
    first
      | exact absurd rfl h
      | (split at h; (rename_i h4; exact tset_bad (.inr h4)); exact absurd rfl h)
  · exact absurd rfl h
theorem trem_err {T : Tb} {p : Int} (h : tremE T p ≠ 0) : trem T p = T := by
  unfold tremE at h
  unfold trem
  split at h
  · rename_i h1; rw [if_pos h1]
  · exact absurd rfl h
theorem hins_none {st : Hst} {t v : Vl} {p : Int} (h : htab st t = none) : hins st t p v = st ∧ hinsE st t p v = 8 := by unfold hins hinsE; rw [h]; exact ⟨rfl, rfl⟩
theorem hins_elem {st : Hst} {t v : Vl} {p : Int} {T : Tb} (h : htab st t = some T) (he : elemE v ≠ 0) : hins st t p v = st ∧ hinsE st t p v = elemE v := by
  unfold hins hinsE; rw [h]; exact ⟨if_pos he, if_pos he⟩
theorem hins_err {st : Hst} {t v : Vl} {p : Int} {T : Tb} (h : htab st t = some T) (he : elemE v = 0) (ht : tinsE T p v ≠ 0) : hins st t p v = st ∧ hinsE st t p v = tinsE T p v := by
  have he' : ¬ elemE v ≠ 0 := fun hc => hc he
  unfold hins hinsE; rw [h]; exact ⟨by simp only [if_neg he', if_pos ht], if_neg he'⟩
theorem hins_ok {st : Hst} {t v : Vl} {p : Int} {o : Hob} (h : htab st t = some o.tab) (ho : st.get t.ref = some o) (he : elemE v = 0) (ht : tinsE o.tab p v = 0) : hins st t p v = (st.put t.ref { o with tab := tins o.tab p v }).touch t.ref ∧ hinsE st t p v = 0 := by
  have he' : ¬ elemE v ≠ 0 := fun hc => hc he
  have ht' : ¬ tinsE o.tab p v ≠ 0 := fun hc => hc ht
  unfold hins hinsE Hst.setTab; rw [h, ho]; exact ⟨by simp only [if_neg he', if_neg ht'], by simp only [if_neg he']; exact ht⟩
theorem hrem_none {st : Hst} {t : Vl} {p : Int} (h : htab st t = none) : hrem st t p = st ∧ hremE st t p = 8 ∧ hremV st t p = zVl := by unfold hrem hremE hremV; rw [h]; exact ⟨rfl, rfl, rfl⟩
theorem hrem_err {st : Hst} {t : Vl} {p : Int} {T : Tb} (h : htab st t = some T) (ht : tremE T p ≠ 0) : hrem st t p = st ∧ hremE st t p = tremE T p ∧ hremV st t p = tremV T p := by
  unfold hrem hremE hremV; rw [h]; exact ⟨if_pos ht, rfl, rfl⟩
theorem hrem_ok {st : Hst} {t : Vl} {p : Int} {o : Hob} (h : htab st t = some o.tab) (ho : st.get t.ref = some o) (ht : tremE o.tab p = 0) : hrem st t p = (st.put t.ref { o with tab := trem o.tab p }).touch t.ref ∧ hremE st t p = 0 ∧ hremV st t p = tremV o.tab p := by
  have ht' : ¬ tremE o.tab p ≠ 0 := fun hc => hc ht
  unfold hrem hremE hremV Hst.setTab; rw [h, ho]; exact ⟨by simp only [if_neg ht'], ht, rfl⟩
theorem tab_sm (hi : HInv st) (h : HSm n st) {T : Tb} (hg : st.get id = some o) (h1 : T.rest.length ≤ o.tab.rest.length + 1) (h2 : T.list.length ≤ o.tab.list.length + o.tab.rest.length + 1) : HSm (n + 1) ((st.put id { o with tab := T }).touch id) := by
  have hm := h.mono (Nat.le_succ n)
  have ho := h.obs o (get_mem hg).1
  refine ⟨by show (st.objs.set _ _).length ≤ _; rw [List.length_set]; exact hm.len, fun x hx => ?_⟩
  rcases mem_put hx with hx | rfl
  · exact hm.obs x hx
  · have : (n + 1) * (n + 1 + 1) = n * (n + 1) + 2 * (n + 1) := by simp only [Nat.add_mul, Nat.mul_add]; omega
    exact ⟨by show T.rest.length ≤ _; omega, by show T.list.length ≤ _; omega, by show o.vals.length ≤ _; omega⟩
theorem tab_inv (h : HInv st) {T : Tb} (hg : st.get id = some o) (hT : TInv T) : HInv ((st.put id { o with tab := T }).touch id) := by
  have ho := h.obs o (get_mem hg).1
  exact touch_inv (put_inv h (o := { o with tab := T }) ⟨ho.kind, hT, ho.mt⟩) _
theorem tab_w (h : HW st) {T : Tb} (hg : st.get id = some o) (hT : TW T) : HW ((st.put id { o with tab := T }).touch id) := by
  have ho := h.of hg
  exact HW.touch (HW.put h (o' := { o with tab := T }) ⟨hT, ho.vals, ho.mt, ho.data⟩) _
theorem hins_inv (h : HInv st) (t : Vl) (p : Int) (v : Vl) : HInv (hins st t p v) := by
  rcases hins_cases st t p v with ⟨e, _⟩ | ⟨o, _, hg, _, _, _, _, e, _⟩
  · rw [e]; exact h
  · rw [e]; exact tab_inv h hg (tins_inv (h.obs o (get_mem hg).1).tab p v)
theorem hins_sm (hi : HInv st) (h : HSm n st) (t : Vl) (p : Int) (v : Vl) : HSm (n + 1) (hins st t p v) := by
  rcases hins_cases st t p v with ⟨e, _⟩ | ⟨o, _, hg, _, _, _, _, e, _⟩
  · rw [e]; exact h.mono (by omega)
  · rw [e]
    have hl := tins_len (hi.obs o (get_mem hg).1).tab p v
    exact tab_sm hi h hg hl.1 hl.2
theorem hins_w (hi : HInv st) (h : HW st) (t : Vl) (p : Int) (v : Vl) : HW (hins st t p v) := by
  rcases hins_cases st t p v with ⟨e, _⟩ | ⟨o, _, hg, _, _, _, _, e, _⟩
  · rw [e]; exact h
  · rw [e]; exact tab_w h hg (tins_tw (hi.obs o (get_mem hg).1).tab (h.of hg).tw p v)
theorem hrem_inv (h : HInv st) (t : Vl) (p : Int) : HInv (hrem st t p) := by
  rcases hrem_cases st t p with ⟨e, _⟩ | ⟨o, _, hg, _, _, _, e, _⟩
  · rw [e]; exact h
  · rw [e]; exact tab_inv h hg (trem_inv (h.obs o (get_mem hg).1).tab p)
theorem hrem_sm (hi : HInv st) (h : HSm n st) (t : Vl) (p : Int) : HSm (n + 1) (hrem st t p) := by
  rcases hrem_cases st t p with ⟨e, _⟩ | ⟨o, _, hg, _, _, _, e, _⟩
  · rw [e]; exact h.mono (by omega)
  · rw [e]
    have hl := trem_len (T := o.tab) p
    exact tab_sm hi h hg (by omega) (by omega)
theorem hrem_w (hi : HInv st) (h : HW st) (t : Vl) (p : Int) : HW (hrem st t p) := by
  rcases hrem_cases st t p with ⟨e, _⟩ | ⟨o, _, hg, _, _, _, e, _⟩
  · rw [e]; exact h
  · rw [e]; exact tab_w h hg (trem_tw (h.of hg).tw p)
/-! ### Values of objects -/
theorem upd_some {f : Hob → Hob} (hg : st.get id = some o) : st.upd id f = st.put id (f o) := by unfold Hst.upd; rw [hg]
theorem vals_inv (h : HInv st) (hg : st.get id = some o) (l : List Vl) : HInv ((st.put id { o with vals := l }).touch id) := by
  have ho := h.obs o (get_mem hg).1
  exact touch_inv (put_inv h (o := { o with vals := l }) ⟨ho.kind, ho.tab, ho.mt⟩) _
theorem vals_sm (h : HSm n st) (hg : st.get id = some o) (hl : l.length ≤ n + 1 + 20) : HSm (n + 1) ((st.put id { o with vals := l }).touch id) := by
  have hm := h.mono (Nat.le_succ n)
  refine ⟨by show (st.objs.set _ _).length ≤ _; rw [List.length_set]; exact hm.len, fun x hx => ?_⟩
  rcases mem_put hx with hx | rfl
  · exact hm.obs x hx
  · have ho := hm.obs o (get_mem hg).1
    exact ⟨ho.1, ho.2.1, hl⟩
theorem vals_w (h : HW st) (hg : st.get id = some o) (hv : ∀ v ∈ l, validB v = true) (h8 : o.kind = 8 → l.length = 16) : HW ((st.put id { o with vals := l }).touch id) := by
  have ho := h.of hg
  exact HW.touch (HW.put h (o' := { o with vals := l }) ⟨ho.tw, hv, ho.mt, h8⟩) _
theorem elemE_valid (h : elemE x = 0) : validB x = true := by
  unfold elemE at h
  split at h
  · cases h
  split at h
  · cases h
  · rename_i hv; simpa using hv
theorem slot_cases (st : Hst) (v : Vl) (i : Int) : (hslotE st v i ≠ 0 ∧ hslotV st v i = zVl) ∨ ∃ o, hfind st v = some o ∧ st.get v.ref = some o ∧ o.kind = 8 ∧ v.kind = 8 ∧ 1 ≤ i ∧ i ≤ 16 ∧ hslotE st v i = 0 ∧ hslotV st v i = (o.vals[(i - 1).toNat]?).getD zVl := by
  unfold hslotV
  cases hf : hfind st v with
  | none => exact .inl ⟨by unfold hslotE; rw [hf]; exact (by decide : (8 : Int) ≠ 0), rfl⟩
  | some o =>
    obtain ⟨h1, h2⟩ := hfind_some hf
    simp only
    by_cases he : hslotE st v i = 0
    · rw [if_pos he]
      have he' := he
      unfold hslotE at he'
      rw [hf] at he'
      simp only at he'
      split at he'
      · rename_i h8
        split at he'
        · cases he'
        · exact .inr ⟨o, rfl, h1, h8, by omega, by omega, by omega, he, rfl⟩
      · cases he'
    · rw [if_neg he]; exact .inl ⟨he, rfl⟩
theorem setSlot_cases (st : Hst) (v : Vl) (i : Int) (x : Vl) : (hsetSlot st v i x = st ∧ hsetSlotE st v i x ≠ 0) ∨ ∃ o, hfind st v = some o ∧ st.get v.ref = some o ∧ o.kind = 8 ∧ v.kind = 8 ∧ 1 ≤ i ∧ i ≤ 16 ∧ hslotE st v i = 0 ∧ elemE x = 0 ∧ hsetSlot st v i x = (st.put v.ref { o with vals := o.vals.set (i - 1).toNat x }).touch v.ref ∧ hsetSlotE st v i x = 0 := by
  unfold hsetSlot
  by_cases h : hsetSlotE st v i x = 0
  · rw [if_neg (fun hc => hc h)]
    have h' := h
    unfold hsetSlotE at h'
    rcases slot_cases st v i with ⟨h1, _⟩ | ⟨o, h1, h2, h3, h4, h5, h6, h7, _⟩
    · rw [if_pos h1] at h'; exact absurd h' h1
    · rw [if_neg (fun hc => hc h7)] at h'
      exact .inr ⟨o, h1, h2, h3, h4, h5, h6, h7, h', by rw [upd_some h2], h⟩
  · rw [if_pos h]; exact .inl ⟨rfl, h⟩
theorem setRefs_cases (st : Hst) (v : Vl) (l : List Vl) : (hsetRefs st v l = st ∧ hsetRefsE st v l ≠ 0) ∨ ∃ o, hfind st v = some o ∧ st.get v.ref = some o ∧ (o.kind = 5 ∨ o.kind = 7) ∧ o.kind = v.kind ∧ refsE l = 0 ∧ hsetRefs st v l = (st.put v.ref { o with vals := l }).touch v.ref ∧ hsetRefsE st v l = 0 := by
  unfold hsetRefs
  by_cases h : hsetRefsE st v l = 0
  · rw [if_neg (fun hc => hc h)]
    have h' := h
    unfold hsetRefsE at h'
    split at h'
    · rename_i hb
      unfold hisFT at hb
      cases hf : hfind st v with
      | none => rw [hf] at hb; cases hb
      | some o =>
        rw [hf] at hb
        obtain ⟨h1, h2⟩ := hfind_some hf
        simp only [Bool.or_eq_true, decide_eq_true_eq] at hb
        exact .inr ⟨o, rfl, h1, hb, h2, h', by rw [upd_some h1], h⟩
    · cases h'
  · rw [if_pos h]; exact .inl ⟨rfl, h⟩
theorem refs_valid : ∀ {l : List Vl}, refsE l = 0 → ∀ v ∈ l, validB v = true
  | [], _, _, h => by cases h
  | x :: r, h, v, hv => by
    rw [refsE] at h
    split at h
    · rename_i hx; exact absurd h hx
    · rename_i hx
      rcases List.mem_cons.1 hv with rfl | hv
      · exact elemE_valid (Decidable.not_not.1 hx)
      · exact refs_valid h v hv
theorem setSlot_inv (h : HInv st) (v : Vl) (i : Int) (x : Vl) : HInv (hsetSlot st v i x) := by
  rcases setSlot_cases st v i x with ⟨e, _⟩ | ⟨o, _, hg, _, _, _, _, _, _, e, _⟩
  · rw [e]; exact h
  · rw [e]; exact vals_inv h hg _
theorem setSlot_sm (h : HSm n st) (v : Vl) (i : Int) (x : Vl) : HSm (n + 1) (hsetSlot st v i x) := by
  rcases setSlot_cases st v i x with ⟨e, _⟩ | ⟨o, _, hg, _, _, _, _, _, _, e, _⟩
  · rw [e]; exact h.mono (by omega)
  · rw [e]; exact vals_sm h hg (by rw [List.length_set]; have := (h.obs o (get_mem hg).1).2.2; omega)
theorem setSlot_w (h : HW st) (v : Vl) (i : Int) (x : Vl) : HW (hsetSlot st v i x) := by
  rcases setSlot_cases st v i x with ⟨e, _⟩ | ⟨o, _, hg, _, _, _, _, _, he, e, _⟩
  · rw [e]; exact h
  · rw [e]
    have ho := h.of hg
    refine vals_w h hg (fun y hy => ?_) fun h8 => by rw [List.length_set]; exact ho.data h8
    rcases List.mem_or_eq_of_mem_set hy with hy | rfl
    · exact ho.vals y hy
    · exact elemE_valid he
theorem setRefs_inv (h : HInv st) (v : Vl) (l : List Vl) : HInv (hsetRefs st v l) := by
  rcases setRefs_cases st v l with ⟨e, _⟩ | ⟨o, _, hg, _, _, _, e, _⟩
  · rw [e]; exact h
  · rw [e]; exact vals_inv h hg _
theorem setRefs_sm (h : HSm n st) (v : Vl) {l : List Vl} (hl : l.length ≤ 20) : HSm (n + 1) (hsetRefs st v l) := by
  rcases setRefs_cases st v l with ⟨e, _⟩ | ⟨o, _, hg, _, _, _, e, _⟩
  · rw [e]; exact h.mono (by omega)
  · rw [e]; exact vals_sm h hg (by omega)
theorem setRefs_w (h : HW st) (v : Vl) (l : List Vl) : HW (hsetRefs st v l) := by
  rcases setRefs_cases st v l with ⟨e, _⟩ | ⟨o, _, hg, hk, _, hr, e, _⟩
  · rw [e]; exact h
  · rw [e]; exact vals_w h hg (refs_valid hr) fun h8 => by omega
theorem setMeta_w (h : HW st) (v m : Vl) : HW (hsetMeta st v m) := by
  rcases hsetMeta_cases st v m with ⟨e, _⟩ | ⟨o, h1, _, h2, e, _, hb⟩
  · rw [e]; exact h
  · rw [e]
    have ho := h.of h1
    refine HW.touch (HW.put h (o' := { o with mt := m }) ⟨ho.tw, ho.vals, fun hr => ?_, ho.data⟩) _
    have hm : m = zVl ∨ (htab st m).isSome = true := by
      unfold hmetaOk at hb
      cases hf : hfind st v with
      | none => rw [hf] at hb; cases hb
      | some x =>
        rw [hf] at hb
        simp only [Bool.and_eq_true, Bool.or_eq_true, decide_eq_true_eq] at hb
        exact hb.2
    rcases hm with rfl | hm
    · cases hr
    · cases hT : htab st m with
      | none => rw [hT] at hm; cases hm
      | some T =>
        obtain ⟨x, _, hx, _⟩ := htab_some hT
        exact (get_mem hx).2.1
/-! ### Dropping -/
theorem drop_cases (st : Hst) (id : Int) : (hdrop st id = st ∧ hdropE st id = 19 ∧ st.get id = none) ∨ ∃ o, st.get id = some o ∧ hdropE st id = 0 ∧ hdrop st id = { st with objs := st.objs.set (id.toNat - 1) none } := by
  unfold hdrop hdropE halive
  cases hg : st.get id with
  | none => exact .inl ⟨rfl, rfl, rfl⟩
  | some o => exact .inr ⟨o, rfl, rfl, rfl⟩
theorem get_drop (st : Hst) (id id' : Int) : (hdrop st id).get id' = if id' = id then none else st.get id' := by
  rcases drop_cases st id with ⟨e, _, hn⟩ | ⟨o, hg, _, e⟩
  · rw [e]
    by_cases h : id' = id
    · rw [if_pos h, h, hn]
    · rw [if_neg h]
  · obtain ⟨_, h1, h2, h3⟩ := get_mem hg
    rw [e]; unfold Hst.get
    by_cases h : id' = id
    · subst h
      rw [if_pos h1, if_pos rfl, List.getElem?_set_self (by omega)]; rfl
    · rw [if_neg h]
      by_cases hp : 1 ≤ id'
      · rw [if_pos hp, if_pos hp, List.getElem?_set_ne (by omega)]
      · rw [if_neg hp, if_neg hp]
theorem mem_drop (h : some o ∈ (hdrop st id).objs) : some o ∈ st.objs := by
  rcases drop_cases st id with ⟨e, _⟩ | ⟨_, _, _, e⟩
  · rw [e] at h; exact h
  · rw [e] at h
    rcases List.mem_or_eq_of_mem_set h with h | h
    · exact h
    · cases h
theorem drop_len : (hdrop st id).objs.length = st.objs.length ∧ (hdrop st id).tch = st.tch := by
  rcases drop_cases st id with ⟨e, _⟩ | ⟨_, _, _, e⟩
  · rw [e]; exact ⟨rfl, rfl⟩
  · rw [e]; exact ⟨by simp, rfl⟩
theorem drop_inv (h : HInv st) (id : Int) : HInv (hdrop st id) := ⟨fun o ho => h.obs o (mem_drop ho), by rw [drop_len.1, drop_len.2]; exact h.tch⟩
theorem drop_sm (h : HSm n st) (id : Int) : HSm (n + 1) (hdrop st id) := ⟨by rw [drop_len.1]; have := h.len; omega, fun o ho => (h.mono (Nat.le_succ n)).obs o (mem_drop ho)⟩
theorem drop_w (h : HW st) (id : Int) : HW (hdrop st id) := fun o ho => h o (mem_drop ho)
theorem untch_inv (h : HInv st) : HInv (huntch st) := ⟨h.obs, by show (st.tch.map _).length = _; rw [List.length_map]; exact h.tch⟩
theorem untch_sm (h : HSm n st) : HSm n (huntch st) := ⟨h.len, h.obs⟩
theorem untch_w (h : HW st) : HW (huntch st) := h
end
/-! ### Answers, by cases -/
section
variable {st : Hst} {v x : Vl} {i : Int} {o : Hob} {l : List Vl}
theorem slot_err (h : hslotE st v i ≠ 0) : hslotV st v i = zVl := by
  rcases slot_cases st v i with ⟨_, e⟩ | ⟨_, _, _, _, _, _, _, e, _⟩
  · exact e
  · exact absurd e h
theorem slot_val (hf : hfind st v = some o) (h : hslotE st v i = 0) {y : Vl} (hy : o.vals[(i - 1).toNat]? = some y) : hslotV st v i = y := by
  unfold hslotV; rw [hf]; simp only [h, if_true, hy]; rfl
theorem setSlot_err (h : hslotE st v i ≠ 0) : hsetSlot st v i x = st ∧ hsetSlotE st v i x = hslotE st v i := by
  have e : hsetSlotE st v i x = hslotE st v i := by unfold hsetSlotE; rw [if_pos h]
  exact ⟨by unfold hsetSlot; rw [e, if_pos h], e⟩
theorem setSlot_elem (h : hslotE st v i = 0) (he : elemE x ≠ 0) : hsetSlot st v i x = st ∧ hsetSlotE st v i x = elemE x := by
  have e : hsetSlotE st v i x = elemE x := by unfold hsetSlotE; rw [if_neg (fun hc => hc h)]
  exact ⟨by unfold hsetSlot; rw [e, if_pos he], e⟩
theorem setSlot_ok (hg : st.get v.ref = some o) (h : hslotE st v i = 0) (he : elemE x = 0) : hsetSlot st v i x = (st.put v.ref { o with vals := o.vals.set (i - 1).toNat x }).touch v.ref ∧ hsetSlotE st v i x = 0 := by
  have e : hsetSlotE st v i x = 0 := by unfold hsetSlotE; rw [if_neg (fun hc => hc h)]; exact he
  exact ⟨by unfold hsetSlot; rw [e, if_neg (fun hc => hc rfl), upd_some hg], e⟩
theorem setRefs_type (h : hisFT st v = false) : hsetRefs st v l = st ∧ hsetRefsE st v l = 8 := by
  have e : hsetRefsE st v l = 8 := by unfold hsetRefsE; rw [h]; rfl
  exact ⟨by unfold hsetRefs; rw [e]; rfl, e⟩
theorem setRefs_elem (h : hisFT st v = true) (he : refsE l ≠ 0) : hsetRefs st v l = st ∧ hsetRefsE st v l = refsE l := by
  have e : hsetRefsE st v l = refsE l := by unfold hsetRefsE; rw [h]; rfl
  exact ⟨by unfold hsetRefs; rw [e, if_pos he], e⟩
theorem setRefs_ok (hg : st.get v.ref = some o) (h : hisFT st v = true) (he : refsE l = 0) : hsetRefs st v l = (st.put v.ref { o with vals := l }).touch v.ref ∧ hsetRefsE st v l = 0 := by
  have e : hsetRefsE st v l = 0 := by unfold hsetRefsE; rw [h]; exact he
  exact ⟨by unfold hsetRefs; rw [e, if_neg (fun hc => hc rfl), upd_some hg], e⟩
theorem refs_step {i : Nat} {y : Vl} (h : refsE l = refsE (l.drop i)) (hy : l[i]? = some y) : (elemE y ≠ 0 → refsE l = elemE y) ∧ (elemE y = 0 → refsE l = refsE (l.drop (i + 1))) := by
  obtain ⟨hi, e⟩ := List.getElem?_eq_some_iff.1 hy
  rw [List.drop_eq_getElem_cons hi, e, refsE] at h
  exact ⟨fun hc => by rw [h, if_pos hc], fun hc => by rw [h, if_neg (fun hd => hd hc)]⟩
theorem refs_end {i : Nat} (h : refsE l = refsE (l.drop i)) (hi : l.length ≤ i) : refsE l = 0 := by rw [h, List.drop_of_length_le hi]; rfl
theorem isFT_none (h : hfind st v = none) : hisFT st v = false := by unfold hisFT; rw [h]
theorem isFT_some (h : hfind st v = some o) : hisFT st v = (decide (o.kind = 5) || decide (o.kind = 7)) := by unfold hisFT; rw [h]
end
end Go.Proofs.Ytmilekfknhglkaa
end
section
set_option linter.unusedSimpArgs false
set_option linter.unusedVariables false
namespace Go.S
open Go.Hp Go.J Go.RowKit
open Go.Mem (Ty KTy blk aggDesc)
section
variable {P : Program}
def srt (L : List Int) : List Int := L.mergeSort fun x y => decide (x ≤ y)
theorem srt_len (L : List Int) : (srt L).length = L.length := List.length_mergeSort _
theorem get_putCells (L : List Int) (arr : Array Value) (h : L.length ≤ arr.size) : (Sort.putCells (Value.int .i64) 0 L.toArray arr).toList.take L.length = L.map fun n => Value.int .i64 n := by
  apply List.ext_getElem?
  intro k
  by_cases hk : k < L.length
  · rw [List.getElem?_take, if_pos hk, Array.getElem?_toList]
    unfold Sort.putCells
    rw [Array.getElem?_mapIdx, Array.getElem?_eq_getElem (by omega)]
    simp [hk]
  · rw [List.getElem?_eq_none (by simp; omega), List.getElem?_eq_none (by simp; omega)]
theorem sf_sort {f : FuncId} {e : TypeId} {Z : Zone} {F : List Asr} {v : Value} {L : List Int} (hl : L.length < 4611686018427387904)
    (hs : ∀ (b off cap : Nat) (zs : List Int) (w : World), Sort.Holds (Value.int .i64) w b off zs.toArray → b < w.heap.size → zs.length < 4611686018427387904 → Calls P f #[.slice (some ⟨b, off, none⟩) zs.length cap] w fun e w' => e = .returned (.tuple #[]) ∧ ∃ n os, w' = Sort.grow (Sort.putRow (Value.int .i64) (Sort.ahead w n) b off (zs.mergeSort fun x y => decide (x ≤ y)).toArray) os)
    (h0 : ∀ (p : Option Addr) (cap : Nat) (w : World), Calls P f #[.slice p 0 cap] w fun e w' => e = .returned (.tuple #[]) ∧ w' = w) :
    SF P f #[v] Z (own (iT e) v L :: F) fun r Bs => r = .tuple #[] ∧ Bs = own (iT e) v (srt L) :: F :=
  sf_of (A := own (iT e) v L) (A' := own (iT e) v (srt L)) fun H S ⟨ow, hS⟩ => by
    rcases ow with ⟨rfl, rfl⟩ | ⟨g, cap, arr, rfl, h1, h2, h3, h4, h5⟩
    · intro w hw
      refine (h0 none 0 w).mono fun e' w' ⟨he, hw'⟩ => ⟨_, he, ?_, rfl, S, ⟨?_, hS⟩, ?_, fun k hk => .inl hk⟩
      · subst hw'; exact At.self _
      · exact .inl ⟨rfl, by simp [srt]⟩
      · subst hw'; rw [hw]; exact Chg.refl _ _
    · intro w hw
      have h4' : L.length ≤ arr.size := by have : (iT e).size = 1 := rfl; rw [this] at h4; omega
      have h5' : arr.toList.take L.length = L.map fun n => Value.int .i64 n := by have := h5; rw [flat_int, show (iT e).size = 1 from rfl, Nat.mul_one] at this; exact this
      have hH : Sort.Holds (Value.int .i64) w g 0 L.toArray := fun j hj => by
        have hj' : j < L.length := by simpa using hj
        have hg : w.heap[g]? = some (.cells arr e (0, 0)) := by rw [hw]; exact h1
        constructor
        · have := cell_of_row w g (0 + j) arr e (0, 0) hg
          rw [this]
          have h6 := congrArg (·[j]?) h5'
          simp only [List.getElem?_take, if_pos hj', List.getElem?_map] at h6
          rw [Array.getElem?_toList] at h6
          rw [Nat.zero_add, h6]
          simp [hj']
        · unfold World.frozen?
          simp [hg]
      refine (hs g 0 cap L w hH (by rw [hw]; exact lt_of_some h1) hl).mono fun e' w' ⟨he, n, os, hw'⟩ => ⟨_, he, ?_, rfl, S, ⟨?_, hS⟩, ?_, fun k hk => .inl hk⟩
      · subst hw'; exact ⟨rfl, rfl, rfl, rfl⟩
      · have hg : w'.heap[g]? = some (.cells (Sort.putCells (Value.int .i64) 0 (srt L).toArray arr) e (0, 0)) := by
          subst hw'
          have hg : w.heap[g]? = some (.cells arr e (0, 0)) := by rw [hw]; exact h1
          show (((w.heap.modify g (Sort.onCells (Sort.putCells (Value.int .i64) 0 (srt L).toArray))) ++ os)[g]?) = _
          rw [Array.getElem?_append_left (by rw [Array.size_modify]; exact lt_of_some hg), Array.getElem?_modify, if_pos rfl, hg]
          rfl
        refine .inr ⟨g, cap, _, by rw [srt_len], hg, by rw [srt_len]; exact h2, h3, ?_, ?_⟩
        · have : (Sort.putCells (Value.int .i64) 0 (srt L).toArray arr).size = arr.size := by simp [Sort.putCells]
          rw [this]; exact h4
        · rw [show (iT e).size = 1 from rfl, Nat.mul_one, flat_int]; exact get_putCells (srt L) arr (by rw [srt_len]; exact h4')
      · subst hw'
        rw [← hw]
        refine ⟨?_, fun k hk hn => ?_⟩
        · show w.heap.size ≤ ((w.heap.modify g _) ++ os).size
          simp
        · show (((w.heap.modify g (Sort.onCells (Sort.putCells (Value.int .i64) 0 (srt L).toArray))) ++ os)[k]?) = _
          rw [Array.getElem?_append_left (by rw [Array.size_modify]; exact hk), Array.getElem?_modify, if_neg]
          intro e1
          exact hn ((hS k).2 (by rw [← e1]; rfl))
end
end Go.S
end
section
set_option linter.unusedSimpArgs false
set_option linter.unusedVariables false
namespace Go.Proofs.Ytmilekfknhglkaa
open Go.S Go.J Go.Hp
open Go.Mem (aget aset adel apos aget_aset aget_adel)
/-- The place of the host object that has a user value. -/
def datV (ps : List (Int × (Nat × Nat))) (st : Hst) (v : Vl) (i : Int) : Value := if hslotE st v i = 0 then fndV ps st v else .pointer none
theorem dat_cases {ps : List (Int × (Nat × Nat))} {st : Hst} (h : HA ps st) (v : Vl) (i : Int) : (hslotE st v i ≠ 0 ∧ datV ps st v i = .pointer none) ∨ ∃ o q, hfind st v = some o ∧ st.get v.ref = some o ∧ o.kind = 8 ∧ v.kind = 8 ∧ aget ps v.ref = some q ∧ 1 ≤ i ∧ i ≤ 16 ∧ hslotE st v i = 0 ∧ datV ps st v i = ptrV q.1 := by
  unfold datV
  rcases slot_cases st v i with ⟨h1, _⟩ | ⟨o, h1, h2, h3, h4, h5, h6, h7, _⟩
  · exact .inl ⟨h1, if_neg h1⟩
  · rcases get_cases h v.ref with ⟨h8, _⟩ | ⟨o', q, h8, h9⟩
    · rw [h2] at h8; cases h8
    · exact .inr ⟨o, q, h1, h2, h3, h4, h9, h5, h6, h7, by rw [if_pos h7]; unfold fndV; rw [h1, h9]⟩
section
variable {ps : List (Int × (Nat × Nat))} {st : Hst} {id : Int} {o : Hob} {tm : List (Int × Bool)}
theorem countP_unset {α : Type} {p : α → Bool} : ∀ (l : List α) {i : Nat} {x y : α}, l[i]? = some x → p x = true → p y = false → (l.set i y).countP p + 1 = l.countP p
  | [], _, _, _, h, _, _ => by cases h
  | a :: r, 0, x, y, h, e, f => by
    simp only [List.getElem?_cons_zero, Option.some.injEq] at h
    subst h; simp [List.countP_cons, e, f]
  | a :: r, i + 1, x, y, h, e, f => by
    simp only [List.getElem?_cons_succ] at h
    have := countP_unset r h e f
    simp only [List.set_cons_succ, List.countP_cons]; omega
theorem count_drop (hg : st.get id = some o) : (hdrop st id).count + 1 = st.count := by
  obtain ⟨_, h1, h2, h3⟩ := get_mem hg
  rcases drop_cases st id with ⟨_, _, hn⟩ | ⟨_, _, _, e⟩
  · rw [hg] at hn; cases hn
  · rw [e]; exact countP_unset st.objs h3 rfl rfl
theorem aget_some_mem {κ β : Type} [DecidableEq κ] {m : List (κ × β)} {k : κ} {u : β} (h : aget m k = some u) : ∃ i, apos m k = some i := by
  cases hp : apos m k with
  | none => rw [Go.Mem.apos_none hp] at h; cases h
  | some i => exact ⟨i, rfl⟩
theorem adel_len {κ β : Type} [DecidableEq κ] {m : List (κ × β)} {k : κ} {u : β} (h : aget m k = some u) : (adel m k).length + 1 = m.length := by
  obtain ⟨i, hp⟩ := aget_some_mem h
  rw [Go.Mem.adel_pos hp]
  have := (Go.Mem.apos_lt hp).1
  rw [List.length_eraseIdx_of_lt this]; omega
theorem HA.drop (h : HA ps st) (hnd : (ps.map Prod.fst).Nodup) {q : Nat × Nat} (hq : aget ps id = some q) (hg : st.get id = some o) : HA (adel ps id) (hdrop st id) := by
  refine ⟨fun id' => ?_, ?_⟩
  · rw [aget_adel hnd, get_drop]
    by_cases e : id' = id
    · subst e; simp
    · rw [if_neg e, if_neg e]; exact h.has id'
  · have h1 := adel_len hq
    have h2 := count_drop hg
    have := h.len; omega
theorem TA.drop (h : TA tm st) (id : Int) : TA tm (hdrop st id) := fun id' x hx => by
  rw [get_drop] at hx
  by_cases e : id' = id
  · rw [if_pos e] at hx; cases hx
  · rw [if_neg e] at hx
    rw [drop_len.2]; exact h id' x hx
theorem TA.untch (st : Hst) : TA [] (huntch st) := fun id x hx => by
  show (aget ([] : List (Int × Bool)) id).isSome = ((st.tch.map fun _ => false)[id.toNat - 1]?).getD false
  rw [List.getElem?_map]
  cases (st.tch[id.toNat - 1]?) <;> rfl
/-! ### Identities -/
theorem halive_iff : halive st id = true ↔ ∃ o, st.get id = some o := by
  unfold halive; rw [Option.isSome_iff_exists]
theorem mem_hids : id ∈ hids st ↔ halive st id = true := by
  unfold hids
  rw [List.mem_filter, List.mem_map]
  constructor
  · exact fun h => h.2
  · intro h
    obtain ⟨o, ho⟩ := halive_iff.1 h
    obtain ⟨_, h1, h2, _⟩ := get_mem ho
    exact ⟨⟨id.toNat - 1, List.mem_range.2 (by omega), by omega⟩, h⟩
theorem hids_asc (st : Hst) : (hids st).Pairwise (· < ·) := by
  unfold hids
  refine List.Pairwise.filter _ (List.Pairwise.map _ (fun a b hab => ?_) List.pairwise_lt_range)
  show (a : Int) + 1 < (b : Int) + 1
  omega
theorem srt_perm' {A B : List Int} (h : A.Perm B) : srt A = srt B := by
  unfold srt
  refine List.Perm.eq_of_pairwise (le := fun x y : Int => decide (x ≤ y)) ?_ (List.pairwise_mergeSort (by simp; omega) (by simp; omega) A) (List.pairwise_mergeSort (by simp; omega) (by simp; omega) B) ((List.mergeSort_perm A _).trans (h.trans (List.mergeSort_perm B _).symm))
  intro a b _ _ h1 h2
  simp at h1 h2; omega
theorem srt_asc' {A : List Int} (h : A.Pairwise (· < ·)) : srt A = A := List.mergeSort_of_pairwise (h.imp fun h => by simp; omega)
theorem perm_of_mem {A B : List Int} (ha : A.Nodup) (hb : B.Nodup) (h : ∀ x, x ∈ A ↔ x ∈ B) : A.Perm B := (List.perm_ext_iff_of_nodup ha hb).2 h
theorem asc_nodup {A : List Int} (h : A.Pairwise (· < ·)) : A.Nodup := h.imp fun h => by omega
theorem tch_keys (h : TA tm st) (hnd : (tm.map Prod.fst).Nodup) : ((tm.map Prod.fst).filter fun id => halive st id).Perm (htchd st) := by
  refine perm_of_mem (hnd.filter _) ((asc_nodup (hids_asc st)).filter _) fun x => ?_
  unfold htchd
  rw [List.mem_filter, List.mem_filter, mem_hids]
  constructor
  · rintro ⟨h1, h2⟩
    obtain ⟨o, ho⟩ := halive_iff.1 h2
    refine ⟨h2, ?_⟩
    rw [← h x o ho]
    have := Go.Mem.aget_none_iff tm x
    cases hq : aget tm x with
    | none => exact absurd h1 (this.1 hq)
    | some u => rfl
  · rintro ⟨h1, h2⟩
    obtain ⟨o, ho⟩ := halive_iff.1 h1
    rw [← h x o ho] at h2
    refine ⟨?_, h1⟩
    apply Decidable.byContradiction
    intro hc
    rw [(Go.Mem.aget_none_iff tm x).2 hc] at h2; cases h2
theorem tch_srt (h : TA tm st) (hnd : (tm.map Prod.fst).Nodup) : srt ((tm.map Prod.fst).filter fun id => halive st id) = htchd st := by
  rw [srt_perm' (tch_keys h hnd)]; exact srt_asc' ((hids_asc st).filter _)
end
end Go.Proofs.Ytmilekfknhglkaa
end
section
set_option linter.unusedSimpArgs false
set_option linter.unusedVariables false
set_option maxRecDepth 100000
set_option maxHeartbeats 2000000
namespace Go.Proofs.Ytmilekfknhglkaa
open Go.Hp Go.J Go.S
open Go.Mem (Ty KTy blk elemAt pre suf blk_pre blk_suf aget aset strK aggDesc)
open Go.Mem (adel apos aget_aset aget_adel)
section
variable {Z : Zone} {F : List Asr} {H : Heap} {b : Nat} {st : Hst} {ps : List (Int × (Nat × Nat))} {id : Int} {q : Nat × Nat} {o : Hob}
theorem hlenV_none {t : Vl} (h : htab st t = none) : hlenV st t = 0 := by unfold hlenV; rw [h]
theorem hlenV_some {t : Vl} {T : Tb} (h : htab st t = some T) : hlenV st t = (T.list.length : Int) := by unfold hlenV; rw [h]
theorem hnext_none {t k : Vl} (h : htab st t = none) : hnext st t k = (zVl, zVl, false, 8) := by unfold hnext; rw [h]
theorem hnext_some {t k : Vl} {T : Tb} (h : htab st t = some T) : hnext st t k = tnext T k := by unfold hnext; rw [h]
theorem all_drop (hnd : (ps.map Prod.fst).Nodup) (hq : aget ps id = some q) (ho : st.get id = some o) (h : Holds Z (allP ps st :: F) H) : Holds Z (allP (adel ps id) (hdrop st id) :: F) H := by
  obtain ⟨v, _, h⟩ := all_focus hq ho h
  have e : holeP ps st id = allP (adel ps id) (hdrop st id) := by
    unfold holeP allP
    congr 1
    refine List.map_congr_left fun p hp => ?_
    have hne : p.1 ≠ id := fun e => by
      have h1 : aget (adel ps id) id = none := by rw [aget_adel hnd, if_pos rfl]
      exact (Go.Mem.aget_none_iff (adel ps id) id).1 h1 (List.mem_map.2 ⟨p, hp, e⟩)
    show obP p.2 (st.ob p.1) = obP p.2 ((hdrop st id).ob p.1)
    unfold Hst.ob; rw [get_drop, if_neg hne]
  rw [← e]; exact h.re [3] [1, 1, 1]
end
theorem hlen_s {Z : Zone} {F : List Asr} {b : Nat} {st : Hst} {n : Nat} (hsm : HSm n st) (hn : n ≤ 300) (t : Vl) : SF Try.prog 15 #[.pointer (some ⟨b, 0, none⟩), t.v] Z (hpA b st :: F) fun r Bs => r = .tuple #[.int .i64 (hlenV st t), .int .i64 (hgetE st t)] ∧ Bs = hpA b st :: F := by
 refine sf_enter Try.func15 16 [(0, pB b 0), (1, .agg #[.int .i64 t.kind, .int .i64 t.p, .int .i64 t.q, .string t.str, .int .i64 t.ref])] (fun w0 => ?_)
 refine k_sr ?_
 refine s_box #[.int .i64 t.kind, .int .i64 t.p, .int .i64 t.q, .string t.str, .int .i64 t.ref] (fun g1 => ?_)
 refine sp (.int .i64 0) ?_
 refine sp (.int .i64 0) ?_
 refine s_nr ?_
 refine sp (pB b 0) ?_
 refine s_lt (t_loadA 0 #[.int .i64 t.kind, .int .i64 t.p, .int .i64 t.q, .string t.str, .int .i64 t.ref]) ?_
 refine s_memX (fun H h => hpA_open (h.re [1] [])) (fun ps2 _ => ?_)
 refine s_fact (fun H h => hp_facts (h.re [0] [])) (fun hf3 => ?_)
 obtain ⟨hi4, ha5⟩ := hf3
 refine s_call [0] (htab_s (st := st) (ps := ps2) t) ?_
 rintro u6 _ ⟨e7, rfl⟩
 rcases tb_cases ha5 t with ⟨ht8, hv9⟩ | ⟨o10, q11, ht12, ho13, hk14, hk15, hq16, hv17⟩
 ·
  rw [hv9] at e7; subst e7
  refine sp (.pointer none) ?_
  refine s_nt ?_
  refine k_seq ?_
  refine k_sr ?_
  refine sp (.pointer none) ?_
  refine sp (.bool true) ?_
  refine s_nt ?_
  refine k_true ?_
  refine k_sr ?_
  refine sp (pB b 0) ?_
  refine s_vcall (fun _ h => hmiss_s (F := [])) ?_
  rintro _ rfl
  refine sp (.int .i64 0) ?_
  refine sp (.int .i64 8) ?_
  refine s_nt ?_
  refine k_ret ?_
  refine xs_ret ?_
  refine xs_mem (fun _ h => hpA_shut (h.re [0] [])) ?_
  refine xs_fin [.int .i64 0, .int .i64 8] (hpA b st :: F) (SI.tmp 4 (SI.tmp 5 SI.nil)) (fun _ h => h.re [0] [1]) ⟨?_, ?_⟩
  · rw [hlenV_none ht8, hgetE_none ht8]; try rfl
  · rfl
 ·
  rw [hv17] at e7; subst e7
  refine sp (pB q11.2 0) ?_
  refine s_nt ?_
  refine k_seq ?_
  refine k_sr ?_
  refine sp (pB q11.2 0) ?_
  refine sp (.bool false) ?_
  refine s_nt ?_
  refine k_false ?_
  refine k_st ?_
  refine k_sr ?_
  refine sp (pB q11.2 0) ?_
  refine s_mem (fun _ h => tab_out hq16 ho13 hk14 (h.re [0] [])) ?_
  obtain ⟨hl18, hl182, _⟩ := hsm.obs o10 (get_mem ho13).1
  have hl183 : n * (n + 1) ≤ 300 * 301 := Nat.mul_le_mul (by omega) (by omega)
  refine s_call [0] (tblen_s (L := o10.tab.list) (S := o10.tab.rest)) ?_
  rintro _ _ ⟨rfl, rfl⟩
  refine sp (.int .i64 (o10.tab.list.length : Int)) ?_
  refine sp (.int .i64 0) ?_
  refine s_nt ?_
  refine k_ret ?_
  refine xs_mem (fun _ h => tab_back hq16 ho13 hk14 (h.re [0, 0] [])) ?_
  refine xs_mem (fun _ h => hpA_shut (h.re [0] [])) ?_
  refine xs_fin [.int .i64 (o10.tab.list.length : Int), .int .i64 0] (hpA b st :: F) (SI.tmp 4 (SI.tmp 5 SI.nil)) (fun _ h => h.re [0] [1]) ⟨?_, ?_⟩
  · rw [hlenV_some ht12, hgetE_some ht12]; try rfl
  · rfl
theorem hnext_s {Z : Zone} {F : List Asr} {b : Nat} {st : Hst} {n : Nat} (hsm : HSm n st) (hn : n ≤ 300) (t k : Vl) : SF Try.prog 16 #[.pointer (some ⟨b, 0, none⟩), t.v, k.v] Z (hpA b st :: F) fun r Bs => r = nextV (hnext st t k) ∧ Bs = hpA b st :: F := by
 refine sf_enter Try.func16 27 [(0, pB b 0), (1, .agg #[.int .i64 t.kind, .int .i64 t.p, .int .i64 t.q, .string t.str, .int .i64 t.ref]), (2, .agg #[.int .i64 k.kind, .int .i64 k.p, .int .i64 k.q, .string k.str, .int .i64 k.ref])] (fun w0 => ?_)
 refine k_sr ?_
 refine s_box #[.int .i64 t.kind, .int .i64 t.p, .int .i64 t.q, .string t.str, .int .i64 t.ref] (fun g1 => ?_)
 refine s_box #[.int .i64 k.kind, .int .i64 k.p, .int .i64 k.q, .string k.str, .int .i64 k.ref] (fun g2 => ?_)
 refine s_alloc (.agg #[.int .i64 0, .int .i64 0, .int .i64 0, .string ByteArray.empty, .int .i64 0]) #[.int .i64 0, .int .i64 0, .int .i64 0, .string ByteArray.empty, .int .i64 0] (fun g3 => ?_)
 refine s_alloc (.agg #[.int .i64 0, .int .i64 0, .int .i64 0, .string ByteArray.empty, .int .i64 0]) #[.int .i64 0, .int .i64 0, .int .i64 0, .string ByteArray.empty, .int .i64 0] (fun g4 => ?_)
 refine sp (.bool false) ?_
 refine sp (.int .i64 0) ?_
 refine s_nr ?_
 refine sp (pB b 0) ?_
 refine s_lt (t_loadA 3 #[.int .i64 t.kind, .int .i64 t.p, .int .i64 t.q, .string t.str, .int .i64 t.ref]) ?_
 refine s_memX (fun H h => hpA_open (h.re [4] [])) (fun ps5 _ => ?_)
 refine s_fact (fun H h => hp_facts (h.re [0] [])) (fun hf6 => ?_)
 obtain ⟨hi7, ha8⟩ := hf6
 refine s_call [0] (htab_s (st := st) (ps := ps5) t) ?_
 rintro u9 _ ⟨e10, rfl⟩
 rcases tb_cases ha8 t with ⟨ht11, hv12⟩ | ⟨o13, q14, ht15, ho16, hk17, hk18, hq19, hv20⟩
 ·
  rw [hv12] at e10; subst e10
  refine sp (.pointer none) ?_
  refine s_nt ?_
  refine k_seq ?_
  refine k_sr ?_
  refine sp (.pointer none) ?_
  refine sp (.bool true) ?_
  refine s_nt ?_
  refine k_true ?_
  refine k_sr ?_
  refine s_lt (t_kern (.agg #[.int .i64 0, .int .i64 0, .int .i64 0, .string ByteArray.empty, .int .i64 0])) ?_
  refine s_lt (t_kern (.agg #[.int .i64 0, .int .i64 0, .int .i64 0, .string ByteArray.empty, .int .i64 0])) ?_
  refine sp (pB b 0) ?_
  refine s_vcall (fun _ h => hmiss_s (F := [])) ?_
  rintro _ rfl
  refine s_store 2 #[.int .i64 0, .int .i64 0, .int .i64 0, .string ByteArray.empty, .int .i64 0] ?_
  refine s_store 1 #[.int .i64 0, .int .i64 0, .int .i64 0, .string ByteArray.empty, .int .i64 0] ?_
  refine sp (.bool false) ?_
  refine sp (.int .i64 8) ?_
  refine s_nt ?_
  refine k_ret ?_
  refine xs_ret ?_
  refine xs_mem (fun _ h => hpA_shut (h.re [0] [])) ?_
  refine xs_fin [.agg #[.int .i64 0, .int .i64 0, .int .i64 0, .string ByteArray.empty, .int .i64 0], .agg #[.int .i64 0, .int .i64 0, .int .i64 0, .string ByteArray.empty, .int .i64 0], .bool false, .int .i64 8] (hpA b st :: F) (SI.agg 6 26 2 (SI.agg 7 26 1 (SI.tmp 8 (SI.tmp 9 SI.nil)))) (fun _ h => h.re [0] [1, 1, 1, 1]) ⟨?_, ?_⟩
  · rw [hnext_none ht11]; rfl
  · rfl
 ·
  rw [hv20] at e10; subst e10
  refine sp (pB q14.2 0) ?_
  refine s_nt ?_
  refine k_seq ?_
  refine k_sr ?_
  refine sp (pB q14.2 0) ?_
  refine sp (.bool false) ?_
  refine s_nt ?_
  refine k_false ?_
  refine k_st ?_
  refine k_sr ?_
  refine sp (pB q14.2 0) ?_
  refine s_lt (t_loadA 3 #[.int .i64 k.kind, .int .i64 k.p, .int .i64 k.q, .string k.str, .int .i64 k.ref]) ?_
  refine s_mem (fun _ h => tab_out hq19 ho16 hk17 (h.re [0] [])) ?_
  obtain ⟨hl21, hl212, _⟩ := hsm.obs o13 (get_mem ho16).1
  have hl213 : n * (n + 1) ≤ 300 * 301 := Nat.mul_le_mul (by omega) (by omega)
  refine s_call [0] (tbnext_s (L := o13.tab.list) (S := o13.tab.rest) (by (try simp only [lnm]); omega) (by (try simp only [lnm]); omega) k) ?_
  rintro _ _ ⟨rfl, rfl⟩
  refine sp (.agg #[.int .i64 (((tnext ⟨o13.tab.list, o13.tab.rest⟩ k).1).kind), .int .i64 (((tnext ⟨o13.tab.list, o13.tab.rest⟩ k).1).p), .int .i64 (((tnext ⟨o13.tab.list, o13.tab.rest⟩ k).1).q), .string (((tnext ⟨o13.tab.list, o13.tab.rest⟩ k).1).str), .int .i64 (((tnext ⟨o13.tab.list, o13.tab.rest⟩ k).1).ref)]) ?_
  refine sp (.agg #[.int .i64 (((tnext ⟨o13.tab.list, o13.tab.rest⟩ k).2.1).kind), .int .i64 (((tnext ⟨o13.tab.list, o13.tab.rest⟩ k).2.1).p), .int .i64 (((tnext ⟨o13.tab.list, o13.tab.rest⟩ k).2.1).q), .string (((tnext ⟨o13.tab.list, o13.tab.rest⟩ k).2.1).str), .int .i64 (((tnext ⟨o13.tab.list, o13.tab.rest⟩ k).2.1).ref)]) ?_
  refine sp (.bool ((tnext ⟨o13.tab.list, o13.tab.rest⟩ k).2.2.1)) ?_
  refine sp (.int .i64 ((tnext ⟨o13.tab.list, o13.tab.rest⟩ k).2.2.2)) ?_
  refine s_store 3 #[.int .i64 (((tnext ⟨o13.tab.list, o13.tab.rest⟩ k).1).kind), .int .i64 (((tnext ⟨o13.tab.list, o13.tab.rest⟩ k).1).p), .int .i64 (((tnext ⟨o13.tab.list, o13.tab.rest⟩ k).1).q), .string (((tnext ⟨o13.tab.list, o13.tab.rest⟩ k).1).str), .int .i64 (((tnext ⟨o13.tab.list, o13.tab.rest⟩ k).1).ref)] ?_
  refine s_store 2 #[.int .i64 (((tnext ⟨o13.tab.list, o13.tab.rest⟩ k).2.1).kind), .int .i64 (((tnext ⟨o13.tab.list, o13.tab.rest⟩ k).2.1).p), .int .i64 (((tnext ⟨o13.tab.list, o13.tab.rest⟩ k).2.1).q), .string (((tnext ⟨o13.tab.list, o13.tab.rest⟩ k).2.1).str), .int .i64 (((tnext ⟨o13.tab.list, o13.tab.rest⟩ k).2.1).ref)] ?_
  refine sp (.bool ((tnext ⟨o13.tab.list, o13.tab.rest⟩ k).2.2.1)) ?_
  refine sp (.int .i64 ((tnext ⟨o13.tab.list, o13.tab.rest⟩ k).2.2.2)) ?_
  refine s_nt ?_
  refine k_ret ?_
  refine xs_mem (fun _ h => tab_back hq19 ho16 hk17 (h.re [0, 0] [])) ?_
  refine xs_mem (fun _ h => hpA_shut (h.re [0] [])) ?_
  refine xs_fin [.agg #[.int .i64 (((tnext ⟨o13.tab.list, o13.tab.rest⟩ k).1).kind), .int .i64 (((tnext ⟨o13.tab.list, o13.tab.rest⟩ k).1).p), .int .i64 (((tnext ⟨o13.tab.list, o13.tab.rest⟩ k).1).q), .string (((tnext ⟨o13.tab.list, o13.tab.rest⟩ k).1).str), .int .i64 (((tnext ⟨o13.tab.list, o13.tab.rest⟩ k).1).ref)], .agg #[.int .i64 (((tnext ⟨o13.tab.list, o13.tab.rest⟩ k).2.1).kind), .int .i64 (((tnext ⟨o13.tab.list, o13.tab.rest⟩ k).2.1).p), .int .i64 (((tnext ⟨o13.tab.list, o13.tab.rest⟩ k).2.1).q), .string (((tnext ⟨o13.tab.list, o13.tab.rest⟩ k).2.1).str), .int .i64 (((tnext ⟨o13.tab.list, o13.tab.rest⟩ k).2.1).ref)], .bool ((tnext ⟨o13.tab.list, o13.tab.rest⟩ k).2.2.1), .int .i64 ((tnext ⟨o13.tab.list, o13.tab.rest⟩ k).2.2.2)] (hpA b st :: F) (SI.agg 6 26 2 (SI.agg 7 26 1 (SI.tmp 8 (SI.tmp 9 SI.nil)))) (fun _ h => h.re [0] [1, 1, 1, 1]) ⟨?_, ?_⟩
  · rw [hnext_some ht15]; rfl
  · rfl
theorem hinsert_s {Z : Zone} {F : List Asr} {b : Nat} {st : Hst} {n : Nat} (hsm : HSm n st) (hn : n ≤ 300) (t : Vl) (x : Int) (v : Vl) : SF Try.prog 61 #[.pointer (some ⟨b, 0, none⟩), t.v, .int .i64 x, v.v] Z (hpA b st :: F) fun r Bs => r = .int .i64 (hinsE st t x v) ∧ Bs = hpA b (hins st t x v) :: F := by
 refine sf_enter Try.func61 30 [(0, pB b 0), (1, .agg #[.int .i64 t.kind, .int .i64 t.p, .int .i64 t.q, .string t.str, .int .i64 t.ref]), (2, .int .i64 x), (3, .agg #[.int .i64 v.kind, .int .i64 v.p, .int .i64 v.q, .string v.str, .int .i64 v.ref])] (fun w0 => ?_)
 refine k_sr ?_
 refine s_box #[.int .i64 t.kind, .int .i64 t.p, .int .i64 t.q, .string t.str, .int .i64 t.ref] (fun g1 => ?_)
 refine s_box #[.int .i64 v.kind, .int .i64 v.p, .int .i64 v.q, .string v.str, .int .i64 v.ref] (fun g2 => ?_)
 refine sp (.int .i64 0) ?_
 refine s_nr ?_
 refine sp (pB b 0) ?_
 refine s_lt (t_loadA 1 #[.int .i64 t.kind, .int .i64 t.p, .int .i64 t.q, .string t.str, .int .i64 t.ref]) ?_
 refine s_memX (fun H h => hpA_open (h.re [2] [])) (fun ps3 _ => ?_)
 refine s_fact (fun H h => hp_facts (h.re [0] [])) (fun hf4 => ?_)
 obtain ⟨hi5, ha6⟩ := hf4
 refine s_call [0] (htab_s (st := st) (ps := ps3) t) ?_
 rintro u7 _ ⟨e8, rfl⟩
 rcases tb_cases ha6 t with ⟨ht9, hv10⟩ | ⟨o11, q12, ht13, ho14, hk15, hk16, hq17, hv18⟩
 ·
  rw [hv10] at e8; subst e8
  refine sp (.pointer none) ?_
  refine s_nt ?_
  refine k_seq ?_
  refine k_sr ?_
  refine sp (.pointer none) ?_
  refine sp (.bool true) ?_
  refine s_nt ?_
  refine k_true ?_
  refine k_sr ?_
  refine sp (pB b 0) ?_
  refine s_vcall (fun _ h => hmiss_s (F := [])) ?_
  rintro _ rfl
  refine sp (.int .i64 8) ?_
  refine s_nt ?_
  refine k_ret ?_
  refine xs_ret ?_
  have hp := hins_none (p := x) (v := v) ht9
  refine xs_mem (fun _ h => hpA_shut (h.re [0] [])) ?_
  refine xs_fin [.int .i64 8] (hpA b st :: F) (SI.tmp 8 SI.nil) (fun _ h => h.re [0] [1, 1]) ⟨?_, ?_⟩
  · rw [hp.2]; try rfl
  · rw [hp.1]; try rfl
 ·
  rw [hv18] at e8; subst e8
  refine sp (pB q12.2 0) ?_
  refine s_nt ?_
  refine k_seq ?_
  refine k_sr ?_
  refine sp (pB q12.2 0) ?_
  refine sp (.bool false) ?_
  refine s_nt ?_
  refine k_false ?_
  refine k_st ?_
  refine k_seq ?_
  refine k_sr ?_
  refine s_lt (t_loadA 1 #[.int .i64 v.kind, .int .i64 v.p, .int .i64 v.q, .string v.str, .int .i64 v.ref]) ?_
  refine s_vcall (fun _ h => helem_s v) ?_
  rintro _ rfl
  refine sp (.int .i64 (elemE v)) ?_
  refine s_nr ?_
  refine sp (.int .i64 (elemE v)) ?_
  refine s_lt t_cmp ?_
  refine s_nt ?_
  refine k_cond (decide ((elemE v) ≠ 0)) (fun c19 => ?_) (fun c19 => ?_)
  ·
   have p20 := of_decide_eq_true c19
   refine k_sr ?_
   refine sp (.int .i64 (elemE v)) ?_
   refine sp (.int .i64 (elemE v)) ?_
   refine s_nt ?_
   refine k_ret ?_
   refine xs_ret ?_
   have hp := hins_elem (p := x) ht13 (of_decide_eq_true c19)
   refine xs_mem (fun _ h => hpA_shut (h.re [0] [])) ?_
   refine xs_fin [.int .i64 (elemE v)] (hpA b st :: F) (SI.tmp 8 SI.nil) (fun _ h => h.re [0] [1, 1]) ⟨?_, ?_⟩
   · rw [hp.2]; try rfl
   · rw [hp.1]; try rfl
  ·
   have p21 := Decidable.not_not.1 (of_decide_eq_false c19)
   refine k_st ?_
   refine k_seq ?_
   refine k_held [blkA g2 #[.int .i64 v.kind, .int .i64 v.p, .int .i64 v.q, .string v.str, .int .i64 v.ref] 26, blkA g1 #[.int .i64 t.kind, .int .i64 t.p, .int .i64 t.q, .string t.str, .int .i64 t.ref] 26] ?_
   refine hp_ 0 [1, 1] (pB b 0) ?_
   refine h_l 1 rfl [1, 1] (fun _ => (t_loadA 1 #[.int .i64 t.kind, .int .i64 t.p, .int .i64 t.q, .string t.str, .int .i64 t.ref])) ?_
   refine hp_ 2 [1, 1] (pB q12.2 0) ?_
   refine hp_ 3 [1, 1] (.int .i64 x) ?_
   refine h_l 4 rfl [1, 1] (fun _ => (t_loadA 0 #[.int .i64 v.kind, .int .i64 v.p, .int .i64 v.q, .string v.str, .int .i64 v.ref])) ?_
   refine h_stepS 5 ?_
   refine s_mem (fun _ h => tab_out hq17 ho14 hk15 (h.re [0] [])) ?_
   obtain ⟨hl22, hl222, _⟩ := hsm.obs o11 (get_mem ho14).1
   have hl223 : n * (n + 1) ≤ 300 * 301 := Nat.mul_le_mul (by omega) (by omega)
   refine s_call [0] (tbinsert_s (L := o11.tab.list) (S := o11.tab.rest) (hi5.obs o11 (get_mem ho14).1).tab (by (try simp only [lnm]); omega) (by (try simp only [lnm]); omega) x v) ?_
   rintro _ _ ⟨rfl, rfl⟩
   refine s_nil (xs_held [2, 2] ?_)
   refine h_stepS 6 ?_
   refine s_mem (fun _ h => tab_in (T := (tins ⟨o11.tab.list, o11.tab.rest⟩ x v)) hq17 ho14 hk15 (tins_inv (hi5.obs o11 (get_mem ho14).1).tab _ _) (h.re [0, 0] [])) ?_
   have hgp : Hst.get (st.put t.ref { o11 with tab := (tins ⟨o11.tab.list, o11.tab.rest⟩ x v) }) t.ref = some { o11 with tab := (tins ⟨o11.tab.list, o11.tab.rest⟩ x v) } := by rw [get_put ho14, if_pos rfl]
   by_cases hte : (tinsE ⟨o11.tab.list, o11.tab.rest⟩ x v) = 0
   ·
    refine s_call [0] (htouch_s (st := (st.put t.ref { o11 with tab := (tins ⟨o11.tab.list, o11.tab.rest⟩ x v) })) (ps := ps3) t hgp (tinsE ⟨o11.tab.list, o11.tab.rest⟩ x v)) ?_
    rw [if_pos hte]
    rintro _ _ ⟨rfl, rfl⟩
    refine s_nil (xs_held [1, 1] ?_)
    refine hp_ 7 [1, 1] (.int .i64 (tinsE ⟨o11.tab.list, o11.tab.rest⟩ x v)) ?_
    refine h_doneS ?_
    refine xs_then ?_
    refine k_ret ?_
    have he0 : elemE v = 0 := Decidable.not_not.1 (of_decide_eq_false c19)
    have hp := hins_ok ht13 ho14 he0 hte
    refine xs_mem (fun _ h => hpA_shut (h.re [0] [])) ?_
    refine xs_fin [.int .i64 (tinsE ⟨o11.tab.list, o11.tab.rest⟩ x v)] (hpA b ((st.put t.ref { o11 with tab := (tins ⟨o11.tab.list, o11.tab.rest⟩ x v) }).touch t.ref) :: F) (SI.tmp 8 SI.nil) (fun _ h => h.re [0] [1, 1]) ⟨?_, ?_⟩
    · rw [hp.2]; exact congrArg (Value.int .i64) hte
    · rw [hp.1]; try rfl
   ·
    refine s_call [0] (htouch_s (st := (st.put t.ref { o11 with tab := (tins ⟨o11.tab.list, o11.tab.rest⟩ x v) })) (ps := ps3) t hgp (tinsE ⟨o11.tab.list, o11.tab.rest⟩ x v)) ?_
    rw [if_neg hte]
    rintro _ _ ⟨rfl, rfl⟩
    have hsame : (st.put t.ref { o11 with tab := (tins ⟨o11.tab.list, o11.tab.rest⟩ x v) }) = st := by rw [tins_err hte]; exact put_same ho14
    refine s_mem (Bs := hpP b st ps3 :: blkA g2 #[.int .i64 v.kind, .int .i64 v.p, .int .i64 v.q, .string v.str, .int .i64 v.ref] 26 :: blkA g1 #[.int .i64 t.kind, .int .i64 t.p, .int .i64 t.q, .string t.str, .int .i64 t.ref] 26 :: F) (fun _ h => by rw [hsame] at h; exact h) ?_
    refine s_nil (xs_held [1, 1] ?_)
    refine hp_ 7 [1, 1] (.int .i64 (tinsE ⟨o11.tab.list, o11.tab.rest⟩ x v)) ?_
    refine h_doneS ?_
    refine xs_then ?_
    refine k_ret ?_
    have he0 : elemE v = 0 := Decidable.not_not.1 (of_decide_eq_false c19)
    have hp := hins_err ht13 he0 hte
    refine xs_mem (fun _ h => hpA_shut (h.re [0] [])) ?_
    refine xs_fin [.int .i64 (tinsE ⟨o11.tab.list, o11.tab.rest⟩ x v)] (hpA b st :: F) (SI.tmp 8 SI.nil) (fun _ h => h.re [0] [1, 1]) ⟨?_, ?_⟩
    · rw [hp.2]; try rfl
    · rw [hp.1]; try rfl
theorem hremove_s {Z : Zone} {F : List Asr} {b : Nat} {st : Hst} {n : Nat} (hsm : HSm n st) (hn : n ≤ 300) (t : Vl) (x : Int) : SF Try.prog 62 #[.pointer (some ⟨b, 0, none⟩), t.v, .int .i64 x] Z (hpA b st :: F) fun r Bs => r = pairV (hremV st t x) (hremE st t x) ∧ Bs = hpA b (hrem st t x) :: F := by
 refine sf_enter Try.func62 30 [(0, pB b 0), (1, .agg #[.int .i64 t.kind, .int .i64 t.p, .int .i64 t.q, .string t.str, .int .i64 t.ref]), (2, .int .i64 x)] (fun w0 => ?_)
 refine k_sr ?_
 refine s_box #[.int .i64 t.kind, .int .i64 t.p, .int .i64 t.q, .string t.str, .int .i64 t.ref] (fun g1 => ?_)
 refine s_alloc (.agg #[.int .i64 0, .int .i64 0, .int .i64 0, .string ByteArray.empty, .int .i64 0]) #[.int .i64 0, .int .i64 0, .int .i64 0, .string ByteArray.empty, .int .i64 0] (fun g2 => ?_)
 refine sp (.int .i64 0) ?_
 refine s_nr ?_
 refine sp (pB b 0) ?_
 refine s_lt (t_loadA 1 #[.int .i64 t.kind, .int .i64 t.p, .int .i64 t.q, .string t.str, .int .i64 t.ref]) ?_
 refine s_memX (fun H h => hpA_open (h.re [2] [])) (fun ps3 _ => ?_)
 refine s_fact (fun H h => hp_facts (h.re [0] [])) (fun hf4 => ?_)
 obtain ⟨hi5, ha6⟩ := hf4
 refine s_call [0] (htab_s (st := st) (ps := ps3) t) ?_
 rintro u7 _ ⟨e8, rfl⟩
 rcases tb_cases ha6 t with ⟨ht9, hv10⟩ | ⟨o11, q12, ht13, ho14, hk15, hk16, hq17, hv18⟩
 ·
  rw [hv10] at e8; subst e8
  refine sp (.pointer none) ?_
  refine s_nt ?_
  refine k_seq ?_
  refine k_sr ?_
  refine sp (.pointer none) ?_
  refine sp (.bool true) ?_
  refine s_nt ?_
  refine k_true ?_
  refine k_sr ?_
  refine s_lt (t_kern (.agg #[.int .i64 0, .int .i64 0, .int .i64 0, .string ByteArray.empty, .int .i64 0])) ?_
  refine sp (pB b 0) ?_
  refine s_vcall (fun _ h => hmiss_s (F := [])) ?_
  rintro _ rfl
  refine s_store 1 #[.int .i64 0, .int .i64 0, .int .i64 0, .string ByteArray.empty, .int .i64 0] ?_
  refine sp (.int .i64 8) ?_
  refine s_nt ?_
  refine k_ret ?_
  refine xs_ret ?_
  have hp := hrem_none (p := x) ht9
  refine xs_mem (fun _ h => hpA_shut (h.re [0] [])) ?_
  refine xs_fin [.agg #[.int .i64 0, .int .i64 0, .int .i64 0, .string ByteArray.empty, .int .i64 0], .int .i64 8] (hpA b st :: F) (SI.agg 6 26 1 (SI.tmp 7 SI.nil)) (fun _ h => h.re [0] [1, 1]) ⟨?_, ?_⟩
  · rw [hp.2.1, hp.2.2]; try rfl
  · rw [hp.1]; try rfl
 ·
  rw [hv18] at e8; subst e8
  refine sp (pB q12.2 0) ?_
  refine s_nt ?_
  refine k_seq ?_
  refine k_sr ?_
  refine sp (pB q12.2 0) ?_
  refine sp (.bool false) ?_
  refine s_nt ?_
  refine k_false ?_
  refine k_st ?_
  refine k_sr ?_
  refine sp (pB q12.2 0) ?_
  refine sp (.int .i64 x) ?_
  refine s_mem (fun _ h => tab_out hq17 ho14 hk15 (h.re [0] [])) ?_
  obtain ⟨hl19, hl192, _⟩ := hsm.obs o11 (get_mem ho14).1
  have hl193 : n * (n + 1) ≤ 300 * 301 := Nat.mul_le_mul (by omega) (by omega)
  refine s_call [0] (tbremove_s (L := o11.tab.list) (S := o11.tab.rest) (by (try simp only [lnm]); omega) (by (try simp only [lnm]); omega) x) ?_
  rintro _ _ ⟨rfl, rfl⟩
  refine sp (.tuple #[.agg #[.int .i64 ((tremV ⟨o11.tab.list, o11.tab.rest⟩ x).kind), .int .i64 ((tremV ⟨o11.tab.list, o11.tab.rest⟩ x).p), .int .i64 ((tremV ⟨o11.tab.list, o11.tab.rest⟩ x).q), .string ((tremV ⟨o11.tab.list, o11.tab.rest⟩ x).str), .int .i64 ((tremV ⟨o11.tab.list, o11.tab.rest⟩ x).ref)], .int .i64 (tremE ⟨o11.tab.list, o11.tab.rest⟩ x)]) ?_
  refine sp (.agg #[.int .i64 ((tremV ⟨o11.tab.list, o11.tab.rest⟩ x).kind), .int .i64 ((tremV ⟨o11.tab.list, o11.tab.rest⟩ x).p), .int .i64 ((tremV ⟨o11.tab.list, o11.tab.rest⟩ x).q), .string ((tremV ⟨o11.tab.list, o11.tab.rest⟩ x).str), .int .i64 ((tremV ⟨o11.tab.list, o11.tab.rest⟩ x).ref)]) ?_
  refine sp (.int .i64 (tremE ⟨o11.tab.list, o11.tab.rest⟩ x)) ?_
  refine s_alloc (.agg #[.int .i64 0, .int .i64 0, .int .i64 0, .string ByteArray.empty, .int .i64 0]) #[.int .i64 0, .int .i64 0, .int .i64 0, .string ByteArray.empty, .int .i64 0] (fun g20 => ?_)
  refine s_store 0 #[.int .i64 ((tremV ⟨o11.tab.list, o11.tab.rest⟩ x).kind), .int .i64 ((tremV ⟨o11.tab.list, o11.tab.rest⟩ x).p), .int .i64 ((tremV ⟨o11.tab.list, o11.tab.rest⟩ x).q), .string ((tremV ⟨o11.tab.list, o11.tab.rest⟩ x).str), .int .i64 ((tremV ⟨o11.tab.list, o11.tab.rest⟩ x).ref)] ?_
  refine sp (.int .i64 (tremE ⟨o11.tab.list, o11.tab.rest⟩ x)) ?_
  refine s_nt ?_
  refine k_seq ?_
  refine k_held [blkA g20 #[.int .i64 ((tremV ⟨o11.tab.list, o11.tab.rest⟩ x).kind), .int .i64 ((tremV ⟨o11.tab.list, o11.tab.rest⟩ x).p), .int .i64 ((tremV ⟨o11.tab.list, o11.tab.rest⟩ x).q), .string ((tremV ⟨o11.tab.list, o11.tab.rest⟩ x).str), .int .i64 ((tremV ⟨o11.tab.list, o11.tab.rest⟩ x).ref)] 26, blkA g1 #[.int .i64 t.kind, .int .i64 t.p, .int .i64 t.q, .string t.str, .int .i64 t.ref] 26] ?_
  refine h_l 0 rfl [0, 3] (fun _ => (t_loadA 0 #[.int .i64 ((tremV ⟨o11.tab.list, o11.tab.rest⟩ x).kind), .int .i64 ((tremV ⟨o11.tab.list, o11.tab.rest⟩ x).p), .int .i64 ((tremV ⟨o11.tab.list, o11.tab.rest⟩ x).q), .string ((tremV ⟨o11.tab.list, o11.tab.rest⟩ x).str), .int .i64 ((tremV ⟨o11.tab.list, o11.tab.rest⟩ x).ref)])) ?_
  refine hp_ 1 [0, 3] (pB b 0) ?_
  refine h_l 2 rfl [0, 3] (fun _ => (t_loadA 1 #[.int .i64 t.kind, .int .i64 t.p, .int .i64 t.q, .string t.str, .int .i64 t.ref])) ?_
  refine hp_ 3 [0, 3] (.int .i64 (tremE ⟨o11.tab.list, o11.tab.rest⟩ x)) ?_
  refine h_stepS 4 ?_
  refine s_mem (fun _ h => tab_in (T := (trem ⟨o11.tab.list, o11.tab.rest⟩ x)) hq17 ho14 hk15 (trem_inv (hi5.obs o11 (get_mem ho14).1).tab _) (h.re [1, 1] [])) ?_
  have hgp : Hst.get (st.put t.ref { o11 with tab := (trem ⟨o11.tab.list, o11.tab.rest⟩ x) }) t.ref = some { o11 with tab := (trem ⟨o11.tab.list, o11.tab.rest⟩ x) } := by rw [get_put ho14, if_pos rfl]
  by_cases hte : (tremE ⟨o11.tab.list, o11.tab.rest⟩ x) = 0
  ·
   refine s_call [0] (htouch_s (st := (st.put t.ref { o11 with tab := (trem ⟨o11.tab.list, o11.tab.rest⟩ x) })) (ps := ps3) t hgp (tremE ⟨o11.tab.list, o11.tab.rest⟩ x)) ?_
   rw [if_pos hte]
   rintro _ _ ⟨rfl, rfl⟩
   refine s_nil (xs_held [1, 2] ?_)
   refine h_stepS 5 ?_
   refine s_store 2 #[.int .i64 ((tremV ⟨o11.tab.list, o11.tab.rest⟩ x).kind), .int .i64 ((tremV ⟨o11.tab.list, o11.tab.rest⟩ x).p), .int .i64 ((tremV ⟨o11.tab.list, o11.tab.rest⟩ x).q), .string ((tremV ⟨o11.tab.list, o11.tab.rest⟩ x).str), .int .i64 ((tremV ⟨o11.tab.list, o11.tab.rest⟩ x).ref)] ?_
   refine s_nil (xs_held [1, 2] ?_)
   refine hp_ 6 [1, 2] (.int .i64 (tremE ⟨o11.tab.list, o11.tab.rest⟩ x)) ?_
   refine h_doneS ?_
   refine xs_then ?_
   refine k_ret ?_
   have hp := hrem_ok ht13 ho14 hte
   refine xs_mem (fun _ h => hpA_shut (h.re [0] [])) ?_
   refine xs_fin [.agg #[.int .i64 ((tremV ⟨o11.tab.list, o11.tab.rest⟩ x).kind), .int .i64 ((tremV ⟨o11.tab.list, o11.tab.rest⟩ x).p), .int .i64 ((tremV ⟨o11.tab.list, o11.tab.rest⟩ x).q), .string ((tremV ⟨o11.tab.list, o11.tab.rest⟩ x).str), .int .i64 ((tremV ⟨o11.tab.list, o11.tab.rest⟩ x).ref)], .int .i64 (tremE ⟨o11.tab.list, o11.tab.rest⟩ x)] (hpA b ((st.put t.ref { o11 with tab := (trem ⟨o11.tab.list, o11.tab.rest⟩ x) }).touch t.ref) :: F) (SI.agg 6 26 2 (SI.tmp 7 SI.nil)) (fun _ h => h.re [0] [1, 1, 1]) ⟨?_, ?_⟩
   · rw [hp.2.1, hp.2.2]; exact congrArg (fun e => pairV _ e) hte
   · rw [hp.1]; try rfl
  ·
   refine s_call [0] (htouch_s (st := (st.put t.ref { o11 with tab := (trem ⟨o11.tab.list, o11.tab.rest⟩ x) })) (ps := ps3) t hgp (tremE ⟨o11.tab.list, o11.tab.rest⟩ x)) ?_
   rw [if_neg hte]
   rintro _ _ ⟨rfl, rfl⟩
   have hsame : (st.put t.ref { o11 with tab := (trem ⟨o11.tab.list, o11.tab.rest⟩ x) }) = st := by rw [trem_err hte]; exact put_same ho14
   refine s_mem (Bs := hpP b st ps3 :: blkA g20 #[.int .i64 ((tremV ⟨o11.tab.list, o11.tab.rest⟩ x).kind), .int .i64 ((tremV ⟨o11.tab.list, o11.tab.rest⟩ x).p), .int .i64 ((tremV ⟨o11.tab.list, o11.tab.rest⟩ x).q), .string ((tremV ⟨o11.tab.list, o11.tab.rest⟩ x).str), .int .i64 ((tremV ⟨o11.tab.list, o11.tab.rest⟩ x).ref)] 26 :: blkA g2 #[.int .i64 0, .int .i64 0, .int .i64 0, .string ByteArray.empty, .int .i64 0] 26 :: blkA g1 #[.int .i64 t.kind, .int .i64 t.p, .int .i64 t.q, .string t.str, .int .i64 t.ref] 26 :: F) (fun _ h => by rw [hsame] at h; exact h) ?_
   refine s_nil (xs_held [1, 2] ?_)
   refine h_stepS 5 ?_
   refine s_store 2 #[.int .i64 ((tremV ⟨o11.tab.list, o11.tab.rest⟩ x).kind), .int .i64 ((tremV ⟨o11.tab.list, o11.tab.rest⟩ x).p), .int .i64 ((tremV ⟨o11.tab.list, o11.tab.rest⟩ x).q), .string ((tremV ⟨o11.tab.list, o11.tab.rest⟩ x).str), .int .i64 ((tremV ⟨o11.tab.list, o11.tab.rest⟩ x).ref)] ?_
   refine s_nil (xs_held [1, 2] ?_)
   refine hp_ 6 [1, 2] (.int .i64 (tremE ⟨o11.tab.list, o11.tab.rest⟩ x)) ?_
   refine h_doneS ?_
   refine xs_then ?_
   refine k_ret ?_
   have hp := hrem_err ht13 hte
   refine xs_mem (fun _ h => hpA_shut (h.re [0] [])) ?_
   refine xs_fin [.agg #[.int .i64 ((tremV ⟨o11.tab.list, o11.tab.rest⟩ x).kind), .int .i64 ((tremV ⟨o11.tab.list, o11.tab.rest⟩ x).p), .int .i64 ((tremV ⟨o11.tab.list, o11.tab.rest⟩ x).q), .string ((tremV ⟨o11.tab.list, o11.tab.rest⟩ x).str), .int .i64 ((tremV ⟨o11.tab.list, o11.tab.rest⟩ x).ref)], .int .i64 (tremE ⟨o11.tab.list, o11.tab.rest⟩ x)] (hpA b st :: F) (SI.agg 6 26 2 (SI.tmp 7 SI.nil)) (fun _ h => h.re [0] [1, 1, 1]) ⟨?_, ?_⟩
   · rw [hp.2.1, hp.2.2]; try rfl
   · rw [hp.1]; try rfl
theorem htag_s {Z : Zone} {F : List Asr} {b : Nat} {st : Hst}  (v : Vl) : SF Try.prog 65 #[.pointer (some ⟨b, 0, none⟩), v.v] Z (hpA b st :: F) fun r Bs => r = .tuple #[.int .i64 (htagV st v).1, .bool (htagV st v).2] ∧ Bs = hpA b st :: F := by
 refine sf_enter Try.func65 30 [(0, pB b 0), (1, .agg #[.int .i64 v.kind, .int .i64 v.p, .int .i64 v.q, .string v.str, .int .i64 v.ref])] (fun w0 => ?_)
 refine k_sr ?_
 refine s_box #[.int .i64 v.kind, .int .i64 v.p, .int .i64 v.q, .string v.str, .int .i64 v.ref] (fun g1 => ?_)
 refine sp (.int .i64 0) ?_
 refine sp (.bool false) ?_
 refine s_nr ?_
 refine sp (pB b 0) ?_
 refine s_lt (t_loadA 0 #[.int .i64 v.kind, .int .i64 v.p, .int .i64 v.q, .string v.str, .int .i64 v.ref]) ?_
 refine s_memX (fun H h => hpA_open (h.re [1] [])) (fun ps2 _ => ?_)
 refine s_fact (fun H h => hp_facts (h.re [0] [])) (fun hf3 => ?_)
 obtain ⟨hi4, ha5⟩ := hf3
 refine s_call [0] (hfind_s (st := st) (ps := ps2) v) ?_
 rintro u6 _ ⟨e7, rfl⟩
 rcases fnd_cases ha5 v with ⟨hf8, ht9, hv10, hv11⟩ | ⟨o12, q13, hf14, ho15, hk16, hq17, hv18, hv19⟩
 ·
  rw [hv10] at e7; subst e7
  refine sp (.pointer none) ?_
  refine s_nt ?_
  refine k_seq ?_
  refine k_sr ?_
  refine sp (.pointer none) ?_
  refine sp (.bool true) ?_
  refine sp (.bool true) ?_
  refine s_skip ?_
  refine s_skip ?_
  refine s_skip ?_
  refine s_skip ?_
  refine s_skip ?_
  refine s_skip ?_
  refine s_skip ?_
  refine s_skip ?_
  refine s_skip ?_
  refine s_skip ?_
  refine s_skip ?_
  refine s_skip ?_
  refine sp (.bool true) ?_
  refine s_nt ?_
  refine k_true ?_
  refine k_sr ?_
  refine sp (.int .i64 0) ?_
  refine sp (.bool false) ?_
  refine s_nt ?_
  refine k_ret ?_
  refine xs_ret ?_
  have hp : htagV st v = (0, false) := by unfold htagV; rw [hf8]
  refine xs_mem (fun _ h => hpA_shut (h.re [0] [])) ?_
  refine xs_fin [.int .i64 0, .bool false] (hpA b st :: F) (SI.tmp 4 (SI.tmp 5 SI.nil)) (fun _ h => h.re [0] [1]) ⟨?_, ?_⟩
  · rw [hp]; rfl
  · rfl
 ·
  rw [hv18] at e7; subst e7
  refine sp (pB q13.1 0) ?_
  refine s_nt ?_
  refine k_seq ?_
  refine k_sr ?_
  refine sp (pB q13.1 0) ?_
  refine sp (.bool false) ?_
  refine sp (.bool false) ?_
  refine sp (pB q13.1 0) ?_
  refine sp (pB q13.1 0) ?_
  refine sp (pB q13.1 0) ?_
  refine s_mem3 (fun H h => hp_open (h.re [0] [])) (fun mb20 tb21 tm22 hw => ?_)
  obtain ⟨hi23, ha24, ht25⟩ := hw
  refine s_memX (fun H h => all_focus hq17 ho15 (h.re [3] [])) (fun v26 _ => ?_)
  refine s_lt (t_load 0 (.int .i64 o12.kind)) ?_
  refine s_lt t_cmp ?_
  refine sp (.bool (decide (o12.kind ≠ 5))) ?_
  refine s_fork 18 (decide (o12.kind ≠ 5)) (fun c27 => ?_) (fun c27 => ?_)
  ·
   have p28 := of_decide_eq_true c27
   refine sp (pB q13.1 0) ?_
   refine sp (pB q13.1 0) ?_
   refine sp (pB q13.1 0) ?_
   refine s_lt (t_load 0 (.int .i64 o12.kind)) ?_
   refine s_lt t_cmp ?_
   refine sp (.bool (decide (o12.kind ≠ 7))) ?_
   refine sp (.bool (decide (o12.kind ≠ 7))) ?_
   refine s_nt ?_
   refine k_cond (decide (o12.kind ≠ 7)) (fun c29 => ?_) (fun c29 => ?_)
   ·
    have p30 := of_decide_eq_true c29
    refine k_sr ?_
    refine sp (.int .i64 0) ?_
    refine sp (.bool false) ?_
    refine s_nt ?_
    refine k_ret ?_
    refine xs_ret ?_
    refine xs_fact (fun H h => (h.mp (i := 5) rfl).nodup) (fun hnd31 => ?_)
    refine xs_mem (fun _ h => (put_same ho15) ▸ all_unfocus (o' := o12) hnd31 hq17 ho15 (ob_shut (o := o12) (h.re [0, 0, 0, 0] []))) ?_
    refine xs_mem (Bs := allP ps2 st :: blkA b #[.map (some mb20), .int .i64 (st.objs.length : Int), .map (some tb21)] 76 :: mpA iK oV mb20 ps2 :: mpA iK bV tb21 tm22 :: blkA g1 #[.int .i64 v.kind, .int .i64 v.p, .int .i64 v.q, .string v.str, .int .i64 v.ref] 26 :: F) (fun _ h => h) ?_
    refine xs_mem (fun _ h => hp_shut (st := st) (n := (st.objs.length : Int)) ⟨⟨hi23, ha24, ht25⟩, rfl⟩ (h.re [1, 1, 1, 0] [])) ?_
    have hp : htagV st v = (0, false) := by unfold htagV; rw [hf14]; show (if o12.kind = 5 ∨ o12.kind = 7 then _ else _) = _; rw [if_neg (by omega)]
    refine xs_mem (fun _ h => hpA_shut (h.re [0] [])) ?_
    refine xs_fin [.int .i64 0, .bool false] (hpA b st :: F) (SI.tmp 4 (SI.tmp 5 SI.nil)) (fun _ h => h.re [0] [1]) ⟨?_, ?_⟩
    · rw [hp]; rfl
    · rfl
   ·
    have p32 := Decidable.not_not.1 (of_decide_eq_false c29)
    refine k_st ?_
    refine k_sr ?_
    refine sp (pB q13.1 0) ?_
    refine sp (pB q13.1 0) ?_
    refine sp (pB q13.1 1) ?_
    refine s_lt (t_load 0 (.int .i64 o12.tag)) ?_
    refine sp (.int .i64 o12.tag) ?_
    refine sp (.bool true) ?_
    refine s_nt ?_
    refine k_ret ?_
    refine xs_fact (fun H h => (h.mp (i := 5) rfl).nodup) (fun hnd33 => ?_)
    refine xs_mem (fun _ h => (put_same ho15) ▸ all_unfocus (o' := o12) hnd33 hq17 ho15 (ob_shut (o := o12) (h.re [0, 0, 0, 0] []))) ?_
    refine xs_mem (Bs := allP ps2 st :: blkA b #[.map (some mb20), .int .i64 (st.objs.length : Int), .map (some tb21)] 76 :: mpA iK oV mb20 ps2 :: mpA iK bV tb21 tm22 :: blkA g1 #[.int .i64 v.kind, .int .i64 v.p, .int .i64 v.q, .string v.str, .int .i64 v.ref] 26 :: F) (fun _ h => h) ?_
    refine xs_mem (fun _ h => hp_shut (st := st) (n := (st.objs.length : Int)) ⟨⟨hi23, ha24, ht25⟩, rfl⟩ (h.re [1, 1, 1, 0] [])) ?_
    have hp : htagV st v = (o12.tag, true) := by unfold htagV; rw [hf14]; show (if o12.kind = 5 ∨ o12.kind = 7 then _ else _) = _; rw [if_pos (by omega)]
    refine xs_mem (fun _ h => hpA_shut (h.re [0] [])) ?_
    refine xs_fin [.int .i64 o12.tag, .bool true] (hpA b st :: F) (SI.tmp 4 (SI.tmp 5 SI.nil)) (fun _ h => h.re [0] [1]) ⟨?_, ?_⟩
    · rw [hp]; rfl
    · rfl
  ·
   have p34 := Decidable.not_not.1 (of_decide_eq_false c27)
   refine s_skip ?_
   refine s_skip ?_
   refine s_skip ?_
   refine s_skip ?_
   refine s_skip ?_
   refine sp (.bool false) ?_
   refine sp (.bool false) ?_
   refine s_nt ?_
   refine k_false ?_
   refine k_st ?_
   refine k_sr ?_
   refine sp (pB q13.1 0) ?_
   refine sp (pB q13.1 0) ?_
   refine sp (pB q13.1 1) ?_
   refine s_lt (t_load 0 (.int .i64 o12.tag)) ?_
   refine sp (.int .i64 o12.tag) ?_
   refine sp (.bool true) ?_
   refine s_nt ?_
   refine k_ret ?_
   refine xs_fact (fun H h => (h.mp (i := 5) rfl).nodup) (fun hnd35 => ?_)
   refine xs_mem (fun _ h => (put_same ho15) ▸ all_unfocus (o' := o12) hnd35 hq17 ho15 (ob_shut (o := o12) (h.re [0, 0, 0, 0] []))) ?_
   refine xs_mem (Bs := allP ps2 st :: blkA b #[.map (some mb20), .int .i64 (st.objs.length : Int), .map (some tb21)] 76 :: mpA iK oV mb20 ps2 :: mpA iK bV tb21 tm22 :: blkA g1 #[.int .i64 v.kind, .int .i64 v.p, .int .i64 v.q, .string v.str, .int .i64 v.ref] 26 :: F) (fun _ h => h) ?_
   refine xs_mem (fun _ h => hp_shut (st := st) (n := (st.objs.length : Int)) ⟨⟨hi23, ha24, ht25⟩, rfl⟩ (h.re [1, 1, 1, 0] [])) ?_
   have hp : htagV st v = (o12.tag, true) := by unfold htagV; rw [hf14]; show (if o12.kind = 5 ∨ o12.kind = 7 then _ else _) = _; rw [if_pos (by omega)]
   refine xs_mem (fun _ h => hpA_shut (h.re [0] [])) ?_
   refine xs_fin [.int .i64 o12.tag, .bool true] (hpA b st :: F) (SI.tmp 4 (SI.tmp 5 SI.nil)) (fun _ h => h.re [0] [1]) ⟨?_, ?_⟩
   · rw [hp]; rfl
   · rfl
theorem hname_s {Z : Zone} {F : List Asr} {b : Nat} {st : Hst}  (v : Vl) : SF Try.prog 66 #[.pointer (some ⟨b, 0, none⟩), v.v] Z (hpA b st :: F) fun r Bs => r = .tuple #[.string (hnameV st v).1, .bool (hnameV st v).2] ∧ Bs = hpA b st :: F := by
 refine sf_enter Try.func66 23 [(0, pB b 0), (1, .agg #[.int .i64 v.kind, .int .i64 v.p, .int .i64 v.q, .string v.str, .int .i64 v.ref])] (fun w0 => ?_)
 refine k_sr ?_
 refine s_box #[.int .i64 v.kind, .int .i64 v.p, .int .i64 v.q, .string v.str, .int .i64 v.ref] (fun g1 => ?_)
 refine sp (.string ByteArray.empty) ?_
 refine sp (.bool false) ?_
 refine s_nr ?_
 refine sp (pB b 0) ?_
 refine s_lt (t_loadA 0 #[.int .i64 v.kind, .int .i64 v.p, .int .i64 v.q, .string v.str, .int .i64 v.ref]) ?_
 refine s_memX (fun H h => hpA_open (h.re [1] [])) (fun ps2 _ => ?_)
 refine s_fact (fun H h => hp_facts (h.re [0] [])) (fun hf3 => ?_)
 obtain ⟨hi4, ha5⟩ := hf3
 refine s_call [0] (hfind_s (st := st) (ps := ps2) v) ?_
 rintro u6 _ ⟨e7, rfl⟩
 rcases fnd_cases ha5 v with ⟨hf8, ht9, hv10, hv11⟩ | ⟨o12, q13, hf14, ho15, hk16, hq17, hv18, hv19⟩
 ·
  rw [hv10] at e7; subst e7
  refine sp (.pointer none) ?_
  refine s_nt ?_
  refine k_seq ?_
  refine k_sr ?_
  refine sp (.pointer none) ?_
  refine sp (.bool true) ?_
  refine sp (.bool true) ?_
  refine s_skip ?_
  refine s_skip ?_
  refine s_skip ?_
  refine s_skip ?_
  refine s_skip ?_
  refine sp (.bool true) ?_
  refine s_nt ?_
  refine k_true ?_
  refine k_sr ?_
  refine sp (.string ByteArray.empty) ?_
  refine sp (.bool false) ?_
  refine s_nt ?_
  refine k_ret ?_
  refine xs_ret ?_
  have hp : hnameV st v = (ByteArray.empty, false) := by unfold hnameV; rw [hf8]
  refine xs_mem (fun _ h => hpA_shut (h.re [0] [])) ?_
  refine xs_fin [.string ByteArray.empty, .bool false] (hpA b st :: F) (SI.tmp 4 (SI.tmp 5 SI.nil)) (fun _ h => h.re [0] [1]) ⟨?_, ?_⟩
  · rw [hp]; rfl
  · rfl
 ·
  rw [hv18] at e7; subst e7
  refine sp (pB q13.1 0) ?_
  refine s_nt ?_
  refine k_seq ?_
  refine k_sr ?_
  refine sp (pB q13.1 0) ?_
  refine sp (.bool false) ?_
  refine sp (.bool false) ?_
  refine sp (pB q13.1 0) ?_
  refine sp (pB q13.1 0) ?_
  refine sp (pB q13.1 0) ?_
  refine s_mem3 (fun H h => hp_open (h.re [0] [])) (fun mb20 tb21 tm22 hw => ?_)
  obtain ⟨hi23, ha24, ht25⟩ := hw
  refine s_memX (fun H h => all_focus hq17 ho15 (h.re [3] [])) (fun v26 _ => ?_)
  refine s_lt (t_load 0 (.int .i64 o12.kind)) ?_
  refine s_lt t_cmp ?_
  refine sp (.bool (decide (o12.kind ≠ 8))) ?_
  refine s_nt ?_
  refine k_cond (decide (o12.kind ≠ 8)) (fun c27 => ?_) (fun c27 => ?_)
  ·
   have p28 := of_decide_eq_true c27
   refine k_sr ?_
   refine sp (.string ByteArray.empty) ?_
   refine sp (.bool false) ?_
   refine s_nt ?_
   refine k_ret ?_
   refine xs_ret ?_
   refine xs_fact (fun H h => (h.mp (i := 5) rfl).nodup) (fun hnd29 => ?_)
   refine xs_mem (fun _ h => (put_same ho15) ▸ all_unfocus (o' := o12) hnd29 hq17 ho15 (ob_shut (o := o12) (h.re [0, 0, 0, 0] []))) ?_
   refine xs_mem (Bs := allP ps2 st :: blkA b #[.map (some mb20), .int .i64 (st.objs.length : Int), .map (some tb21)] 76 :: mpA iK oV mb20 ps2 :: mpA iK bV tb21 tm22 :: blkA g1 #[.int .i64 v.kind, .int .i64 v.p, .int .i64 v.q, .string v.str, .int .i64 v.ref] 26 :: F) (fun _ h => h) ?_
   refine xs_mem (fun _ h => hp_shut (st := st) (n := (st.objs.length : Int)) ⟨⟨hi23, ha24, ht25⟩, rfl⟩ (h.re [1, 1, 1, 0] [])) ?_
   have hp : hnameV st v = (ByteArray.empty, false) := by unfold hnameV; rw [hf14]; show (if o12.kind = 8 then _ else _) = _; rw [if_neg (by omega)]
   refine xs_mem (fun _ h => hpA_shut (h.re [0] [])) ?_
   refine xs_fin [.string ByteArray.empty, .bool false] (hpA b st :: F) (SI.tmp 4 (SI.tmp 5 SI.nil)) (fun _ h => h.re [0] [1]) ⟨?_, ?_⟩
   · rw [hp]; rfl
   · rfl
  ·
   have p30 := Decidable.not_not.1 (of_decide_eq_false c27)
   refine k_st ?_
   refine k_sr ?_
   refine sp (pB q13.1 0) ?_
   refine sp (pB q13.1 0) ?_
   refine sp (pB q13.1 2) ?_
   refine s_lt (t_load 0 (.string o12.name)) ?_
   refine sp (.string o12.name) ?_
   refine sp (.bool true) ?_
   refine s_nt ?_
   refine k_ret ?_
   refine xs_fact (fun H h => (h.mp (i := 5) rfl).nodup) (fun hnd31 => ?_)
   refine xs_mem (fun _ h => (put_same ho15) ▸ all_unfocus (o' := o12) hnd31 hq17 ho15 (ob_shut (o := o12) (h.re [0, 0, 0, 0] []))) ?_
   refine xs_mem (Bs := allP ps2 st :: blkA b #[.map (some mb20), .int .i64 (st.objs.length : Int), .map (some tb21)] 76 :: mpA iK oV mb20 ps2 :: mpA iK bV tb21 tm22 :: blkA g1 #[.int .i64 v.kind, .int .i64 v.p, .int .i64 v.q, .string v.str, .int .i64 v.ref] 26 :: F) (fun _ h => h) ?_
   refine xs_mem (fun _ h => hp_shut (st := st) (n := (st.objs.length : Int)) ⟨⟨hi23, ha24, ht25⟩, rfl⟩ (h.re [1, 1, 1, 0] [])) ?_
   have hp : hnameV st v = (o12.name, true) := by unfold hnameV; rw [hf14]; show (if o12.kind = 8 then _ else _) = _; rw [if_pos (by omega)]
   refine xs_mem (fun _ h => hpA_shut (h.re [0] [])) ?_
   refine xs_fin [.string o12.name, .bool true] (hpA b st :: F) (SI.tmp 4 (SI.tmp 5 SI.nil)) (fun _ h => h.re [0] [1]) ⟨?_, ?_⟩
   · rw [hp]; rfl
   · rfl
theorem hdata_find {Z : Zone} {F : List Asr} {b : Nat} {st : Hst} {ps : List (Int × (Nat × Nat))} (v : Vl) (x : Int) : SF Try.prog 56 #[.pointer (some ⟨b, 0, none⟩), v.v, .int .i64 x] Z (hpP b st ps :: F) fun r Bs => r = .tuple #[datV ps st v x, .int .i64 (hslotE st v x)] ∧ Bs = hpP b st ps :: F := by
 refine sf_enter Try.func56 32 [(0, pB b 0), (1, .agg #[.int .i64 v.kind, .int .i64 v.p, .int .i64 v.q, .string v.str, .int .i64 v.ref]), (2, .int .i64 x)] (fun w0 => ?_)
 refine k_fact (fun H h => hp_facts (h.re [0] [])) (fun hf1 => ?_)
 obtain ⟨hi2, ha3⟩ := hf1
 refine k_sr ?_
 refine s_box #[.int .i64 v.kind, .int .i64 v.p, .int .i64 v.q, .string v.str, .int .i64 v.ref] (fun g4 => ?_)
 refine sp (.pointer none) ?_
 refine sp (.int .i64 0) ?_
 refine s_nr ?_
 refine sp (pB b 0) ?_
 refine s_lt (t_loadA 0 #[.int .i64 v.kind, .int .i64 v.p, .int .i64 v.q, .string v.str, .int .i64 v.ref]) ?_
 refine s_call [1] (hfind_s (st := st) (ps := ps) v) ?_
 rintro u5 _ ⟨e6, rfl⟩
 rcases fnd_cases ha3 v with ⟨hf7, ht8, hv9, hv10⟩ | ⟨o11, q12, hf13, ho14, hk15, hq16, hv17, hv18⟩
 ·
  rw [hv9] at e6; subst e6
  refine sp (.pointer none) ?_
  refine s_nt ?_
  refine k_seq ?_
  refine k_block ?_
  refine k_sr ?_
  refine sp (.pointer none) ?_
  refine sp (.bool true) ?_
  refine sp (.bool true) ?_
  refine s_skip ?_
  refine s_skip ?_
  refine s_skip ?_
  refine s_skip ?_
  refine s_skip ?_
  refine sp (.bool true) ?_
  refine sp (.bool true) ?_
  refine s_nt ?_
  refine k_true ?_
  refine k_sr ?_
  refine sp (pB b 0) ?_
  refine s_vcall (fun _ h => hmiss_s (F := [])) ?_
  rintro _ rfl
  refine sp (.pointer none) ?_
  refine sp (.int .i64 8) ?_
  refine s_nt ?_
  refine k_ret ?_
  refine xs_retBlock ?_
  refine xs_ret ?_
  have he : hslotE st v x = 8 := by unfold hslotE; rw [hf7]
  refine xs_fin [.pointer none, .int .i64 8] (hpP b st ps :: F) (SI.tmp 6 (SI.tmp 7 SI.nil)) (fun _ h => h.re [0] [1]) ⟨?_, rfl⟩
  rw [he]; unfold datV; rw [if_neg (by rw [he]; decide)]; rfl
 ·
  rw [hv17] at e6; subst e6
  refine sp (pB q12.1 0) ?_
  refine s_nt ?_
  refine k_seq ?_
  refine k_block ?_
  refine k_sr ?_
  refine sp (pB q12.1 0) ?_
  refine sp (.bool false) ?_
  refine sp (.bool false) ?_
  refine sp (pB q12.1 0) ?_
  refine sp (pB q12.1 0) ?_
  refine sp (pB q12.1 0) ?_
  refine s_mem3 (fun H h => hp_open (h.re [0] [])) (fun mb19 tb20 tm21 hw => ?_)
  obtain ⟨hi22, ha23, ht24⟩ := hw
  refine s_memX (fun H h => all_focus hq16 ho14 (h.re [3] [])) (fun v25 _ => ?_)
  refine s_lt (t_load 0 (.int .i64 o11.kind)) ?_
  refine s_lt t_cmp ?_
  refine sp (.bool (decide (o11.kind ≠ 8))) ?_
  refine sp (.bool (decide (o11.kind ≠ 8))) ?_
  refine s_nt ?_
  refine k_cond (decide (o11.kind ≠ 8)) (fun c26 => ?_) (fun c26 => ?_)
  ·
   have p27 := of_decide_eq_true c26
   refine k_sr ?_
   refine sp (pB b 0) ?_
   refine s_vcall (fun _ h => hmiss_s (F := [])) ?_
   rintro _ rfl
   refine sp (.pointer none) ?_
   refine sp (.int .i64 8) ?_
   refine s_nt ?_
   refine k_ret ?_
   refine xs_retBlock ?_
   refine xs_ret ?_
   refine xs_fact (fun H h => (h.mp (i := 5) rfl).nodup) (fun hnd28 => ?_)
   refine xs_mem (fun _ h => (put_same ho14) ▸ all_unfocus (o' := o11) hnd28 hq16 ho14 (ob_shut (o := o11) (h.re [0, 0, 0, 0] []))) ?_
   refine xs_mem (Bs := allP ps st :: blkA b #[.map (some mb19), .int .i64 (st.objs.length : Int), .map (some tb20)] 76 :: mpA iK oV mb19 ps :: mpA iK bV tb20 tm21 :: blkA g4 #[.int .i64 v.kind, .int .i64 v.p, .int .i64 v.q, .string v.str, .int .i64 v.ref] 26 :: F) (fun _ h => h) ?_
   refine xs_mem (fun _ h => hp_shut (st := st) (n := (st.objs.length : Int)) ⟨⟨hi22, ha23, ht24⟩, rfl⟩ (h.re [1, 1, 1, 0] [])) ?_
   have he : hslotE st v x = 8 := by unfold hslotE; rw [hf13]; simp_all <;> omega
   refine xs_fin [.pointer none, .int .i64 8] (hpP b st ps :: F) (SI.tmp 6 (SI.tmp 7 SI.nil)) (fun _ h => h.re [0] [1]) ⟨?_, rfl⟩
   rw [he]; unfold datV; rw [if_neg (by rw [he]; decide)]; rfl
  ·
   have p29 := Decidable.not_not.1 (of_decide_eq_false c26)
   refine k_sr ?_
   refine sp (.int .i64 x) ?_
   refine s_lt t_cmp ?_
   refine sp (.bool (decide (x < 1))) ?_
   refine s_fork 27 (decide (x < 1)) (fun c30 => ?_) (fun c30 => ?_)
   ·
    have p31 := of_decide_eq_true c30
    refine s_skip ?_
    refine s_skip ?_
    refine sp (.bool true) ?_
    refine sp (.bool true) ?_
    refine s_nt ?_
    refine k_true ?_
    refine k_sr ?_
    refine sp (.pointer none) ?_
    refine sp (.int .i64 6) ?_
    refine s_nt ?_
    refine k_ret ?_
    refine xs_retBlock ?_
    refine xs_ret ?_
    refine xs_fact (fun H h => (h.mp (i := 5) rfl).nodup) (fun hnd32 => ?_)
    refine xs_mem (fun _ h => (put_same ho14) ▸ all_unfocus (o' := o11) hnd32 hq16 ho14 (ob_shut (o := o11) (h.re [0, 0, 0, 0] []))) ?_
    refine xs_mem (Bs := allP ps st :: blkA b #[.map (some mb19), .int .i64 (st.objs.length : Int), .map (some tb20)] 76 :: mpA iK oV mb19 ps :: mpA iK bV tb20 tm21 :: blkA g4 #[.int .i64 v.kind, .int .i64 v.p, .int .i64 v.q, .string v.str, .int .i64 v.ref] 26 :: F) (fun _ h => h) ?_
    refine xs_mem (fun _ h => hp_shut (st := st) (n := (st.objs.length : Int)) ⟨⟨hi22, ha23, ht24⟩, rfl⟩ (h.re [1, 1, 1, 0] [])) ?_
    have he : hslotE st v x = 6 := by unfold hslotE; rw [hf13]; simp_all <;> omega
    refine xs_fin [.pointer none, .int .i64 6] (hpP b st ps :: F) (SI.tmp 6 (SI.tmp 7 SI.nil)) (fun _ h => h.re [0] [1]) ⟨?_, rfl⟩
    rw [he]; unfold datV; rw [if_neg (by rw [he]; decide)]; rfl
   ·
    have p33 := of_decide_eq_false c30
    refine sp (.int .i64 x) ?_
    refine s_lt t_cmp ?_
    refine sp (.bool (decide ((16 : Int) < x))) ?_
    refine sp (.bool (decide ((16 : Int) < x))) ?_
    refine s_nt ?_
    refine k_cond (decide ((16 : Int) < x)) (fun c34 => ?_) (fun c34 => ?_)
    ·
     have p35 := of_decide_eq_true c34
     refine k_sr ?_
     refine sp (.pointer none) ?_
     refine sp (.int .i64 6) ?_
     refine s_nt ?_
     refine k_ret ?_
     refine xs_retBlock ?_
     refine xs_ret ?_
     refine xs_fact (fun H h => (h.mp (i := 5) rfl).nodup) (fun hnd36 => ?_)
     refine xs_mem (fun _ h => (put_same ho14) ▸ all_unfocus (o' := o11) hnd36 hq16 ho14 (ob_shut (o := o11) (h.re [0, 0, 0, 0] []))) ?_
     refine xs_mem (Bs := allP ps st :: blkA b #[.map (some mb19), .int .i64 (st.objs.length : Int), .map (some tb20)] 76 :: mpA iK oV mb19 ps :: mpA iK bV tb20 tm21 :: blkA g4 #[.int .i64 v.kind, .int .i64 v.p, .int .i64 v.q, .string v.str, .int .i64 v.ref] 26 :: F) (fun _ h => h) ?_
     refine xs_mem (fun _ h => hp_shut (st := st) (n := (st.objs.length : Int)) ⟨⟨hi22, ha23, ht24⟩, rfl⟩ (h.re [1, 1, 1, 0] [])) ?_
     have he : hslotE st v x = 6 := by unfold hslotE; rw [hf13]; simp_all <;> omega
     refine xs_fin [.pointer none, .int .i64 6] (hpP b st ps :: F) (SI.tmp 6 (SI.tmp 7 SI.nil)) (fun _ h => h.re [0] [1]) ⟨?_, rfl⟩
     rw [he]; unfold datV; rw [if_neg (by rw [he]; decide)]; rfl
    ·
     have p37 := of_decide_eq_false c34
     refine k_skip ?_
     refine xs_block ?_
     refine xs_then ?_
     refine k_sr ?_
     refine sp (pB q12.1 0) ?_
     refine sp (pB q12.1 0) ?_
     refine sp (.int .i64 0) ?_
     refine s_nt ?_
     refine k_ret ?_
     refine xs_fact (fun H h => (h.mp (i := 5) rfl).nodup) (fun hnd38 => ?_)
     refine xs_mem (fun _ h => (put_same ho14) ▸ all_unfocus (o' := o11) hnd38 hq16 ho14 (ob_shut (o := o11) (h.re [0, 0, 0, 0] []))) ?_
     refine xs_mem (Bs := allP ps st :: blkA b #[.map (some mb19), .int .i64 (st.objs.length : Int), .map (some tb20)] 76 :: mpA iK oV mb19 ps :: mpA iK bV tb20 tm21 :: blkA g4 #[.int .i64 v.kind, .int .i64 v.p, .int .i64 v.q, .string v.str, .int .i64 v.ref] 26 :: F) (fun _ h => h) ?_
     refine xs_mem (fun _ h => hp_shut (st := st) (n := (st.objs.length : Int)) ⟨⟨hi22, ha23, ht24⟩, rfl⟩ (h.re [1, 1, 1, 0] [])) ?_
     have he : hslotE st v x = 0 := by unfold hslotE; rw [hf13]; simp_all <;> omega
     refine xs_fin [pB q12.1 0, .int .i64 0] (hpP b st ps :: F) (SI.tmp 6 (SI.tmp 7 SI.nil)) (fun _ h => h.re [0] [1]) ⟨?_, rfl⟩
     rw [he]; unfold datV; rw [if_pos he]; unfold fndV; rw [hf13, hq16]; rfl
theorem hslot_s {Z : Zone} {F : List Asr} {b : Nat} {st : Hst} (hw : HW st) (v : Vl) (x : Int) : SF Try.prog 63 #[.pointer (some ⟨b, 0, none⟩), v.v, .int .i64 x] Z (hpA b st :: F) fun r Bs => r = pairV (hslotV st v x) (hslotE st v x) ∧ Bs = hpA b st :: F := by
 refine sf_enter Try.func63 29 [(0, pB b 0), (1, .agg #[.int .i64 v.kind, .int .i64 v.p, .int .i64 v.q, .string v.str, .int .i64 v.ref]), (2, .int .i64 x)] (fun w0 => ?_)
 refine k_sr ?_
 refine s_box #[.int .i64 v.kind, .int .i64 v.p, .int .i64 v.q, .string v.str, .int .i64 v.ref] (fun g1 => ?_)
 refine s_alloc (.agg #[.int .i64 0, .int .i64 0, .int .i64 0, .string ByteArray.empty, .int .i64 0]) #[.int .i64 0, .int .i64 0, .int .i64 0, .string ByteArray.empty, .int .i64 0] (fun g2 => ?_)
 refine sp (.int .i64 0) ?_
 refine s_nr ?_
 refine sp (pB b 0) ?_
 refine s_lt (t_loadA 1 #[.int .i64 v.kind, .int .i64 v.p, .int .i64 v.q, .string v.str, .int .i64 v.ref]) ?_
 refine sp (.int .i64 x) ?_
 refine s_memX (fun H h => hpA_open (h.re [2] [])) (fun ps3 _ => ?_)
 refine s_fact (fun H h => hp_facts (h.re [0] [])) (fun hf4 => ?_)
 obtain ⟨hi5, ha6⟩ := hf4
 refine s_call [0] (hdata_find (st := st) (ps := ps3) v x) ?_
 rintro u7 _ ⟨e8, rfl⟩
 rcases dat_cases ha6 v x with ⟨he9, hv10⟩ | ⟨o11, q12, hf13, ho14, hk15, hk16, hq17, hx18, hx19, he20, hv21⟩
 ·
  rw [hv10] at e8; subst e8
  refine sp (.tuple #[.pointer none, .int .i64 (hslotE st v x)]) ?_
  refine sp (.pointer none) ?_
  refine sp (.int .i64 (hslotE st v x)) ?_
  refine sp (.pointer none) ?_
  refine sp (.int .i64 (hslotE st v x)) ?_
  refine s_nt ?_
  refine k_seq ?_
  refine k_sr ?_
  refine sp (.int .i64 (hslotE st v x)) ?_
  refine s_lt (Lt.to t_cmp (congrArg Value.bool ((decide_eq_true he9) : (decide ((hslotE st v x) ≠ 0)) = true))) ?_
  refine s_nt ?_
  refine k_true ?_
  refine k_sr ?_
  refine s_lt (t_kern (.agg #[.int .i64 0, .int .i64 0, .int .i64 0, .string ByteArray.empty, .int .i64 0])) ?_
  refine sp (.int .i64 (hslotE st v x)) ?_
  refine s_store 1 #[.int .i64 0, .int .i64 0, .int .i64 0, .string ByteArray.empty, .int .i64 0] ?_
  refine sp (.int .i64 (hslotE st v x)) ?_
  refine s_nt ?_
  refine k_ret ?_
  refine xs_ret ?_
  refine xs_mem (fun _ h => hpA_shut (h.re [0] [])) ?_
  refine xs_fin [.agg #[.int .i64 0, .int .i64 0, .int .i64 0, .string ByteArray.empty, .int .i64 0], .int .i64 (hslotE st v x)] (hpA b st :: F) (SI.agg 6 26 1 (SI.tmp 7 SI.nil)) (fun _ h => h.re [0] [1, 1]) ⟨?_, ?_⟩
  · rw [slot_err he9]; rfl
  · rfl
 ·
  rw [hv21, he20] at e8; subst e8
  have hvl := (hw.of ho14).data hk15
  refine sp (.tuple #[pB q12.1 0, .int .i64 0]) ?_
  refine sp (pB q12.1 0) ?_
  refine sp (.int .i64 0) ?_
  refine sp (pB q12.1 0) ?_
  refine sp (.int .i64 0) ?_
  refine s_nt ?_
  refine k_seq ?_
  refine k_sr ?_
  refine sp (.int .i64 0) ?_
  refine s_lt (t_cmp (c := false)) ?_
  refine s_nt ?_
  refine k_false ?_
  refine k_st ?_
  refine k_sr ?_
  refine sp (pB q12.1 0) ?_
  refine sp (pB q12.1 0) ?_
  refine sp (pB q12.1 9) ?_
  refine s_mem3 (fun H h => hp_open (h.re [0] [])) (fun mb22 tb23 tm24 hw => ?_)
  obtain ⟨hi25, ha26, ht27⟩ := hw
  refine s_memX (fun H h => all_focus hq17 ho14 (h.re [3] [])) (fun v28 _ => ?_)
  refine s_lt (t_load 0 v28) ?_
  refine sp (.int .i64 x) ?_
  refine s_lt (t_sub x 1 (by (try simp only [lnm]); omega)) ?_
  refine s_lt (t_index VlT_ok Try.underlying22 (.own 1) (x - 1) (((x - 1)).toNat) (by omega) (by (try simp only [lnm]); omega) (by omega)) ?_
  obtain ⟨y29, hy30⟩ : ∃ y, o11.vals[((x - 1)).toNat]? = some y := ⟨_, List.getElem?_eq_getElem (by (try simp only [lnm]); omega)⟩
  refine s_lt (t_loadE VlT_ok (.own 1) hy30) ?_
  refine s_store 7 #[.int .i64 y29.kind, .int .i64 y29.p, .int .i64 y29.q, .string y29.str, .int .i64 y29.ref] ?_
  refine sp (.int .i64 0) ?_
  refine s_nt ?_
  refine k_ret ?_
  refine xs_fact (fun H h => (h.mp (i := 5) rfl).nodup) (fun hnd31 => ?_)
  refine xs_mem (fun _ h => (put_same ho14) ▸ all_unfocus (o' := o11) hnd31 hq17 ho14 (ob_shut (o := o11) (h.re [0, 0, 0, 0] []))) ?_
  refine xs_mem (Bs := allP ps3 st :: blkA b #[.map (some mb22), .int .i64 (st.objs.length : Int), .map (some tb23)] 76 :: mpA iK oV mb22 ps3 :: mpA iK bV tb23 tm24 :: blkA g2 #[.int .i64 y29.kind, .int .i64 y29.p, .int .i64 y29.q, .string y29.str, .int .i64 y29.ref] 26 :: blkA g1 #[.int .i64 v.kind, .int .i64 v.p, .int .i64 v.q, .string v.str, .int .i64 v.ref] 26 :: F) (fun _ h => h) ?_
  refine xs_mem (fun _ h => hp_shut (st := st) (n := (st.objs.length : Int)) ⟨⟨hi25, ha26, ht27⟩, rfl⟩ (h.re [1, 1, 1, 0] [])) ?_
  refine xs_mem (fun _ h => hpA_shut (h.re [0] [])) ?_
  refine xs_fin [.agg #[.int .i64 y29.kind, .int .i64 y29.p, .int .i64 y29.q, .string y29.str, .int .i64 y29.ref], .int .i64 0] (hpA b st :: F) (SI.agg 6 26 1 (SI.tmp 7 SI.nil)) (fun _ h => h.re [0] [1, 1]) ⟨?_, ?_⟩
  · rw [slot_val hf13 he20 hy30, he20]; rfl
  · rfl
theorem hsetslot_s {Z : Zone} {F : List Asr} {b : Nat} {st : Hst} (hw : HW st) (v : Vl) (x : Int) (y : Vl) : SF Try.prog 25 #[.pointer (some ⟨b, 0, none⟩), v.v, .int .i64 x, y.v] Z (hpA b st :: F) fun r Bs => r = .int .i64 (hsetSlotE st v x y) ∧ Bs = hpA b (hsetSlot st v x y) :: F := by
 refine sf_enter Try.func25 38 [(0, pB b 0), (1, .agg #[.int .i64 v.kind, .int .i64 v.p, .int .i64 v.q, .string v.str, .int .i64 v.ref]), (2, .int .i64 x), (3, .agg #[.int .i64 y.kind, .int .i64 y.p, .int .i64 y.q, .string y.str, .int .i64 y.ref])] (fun w0 => ?_)
 refine k_sr ?_
 refine s_box #[.int .i64 v.kind, .int .i64 v.p, .int .i64 v.q, .string v.str, .int .i64 v.ref] (fun g1 => ?_)
 refine s_box #[.int .i64 y.kind, .int .i64 y.p, .int .i64 y.q, .string y.str, .int .i64 y.ref] (fun g2 => ?_)
 refine sp (.int .i64 0) ?_
 refine s_nr ?_
 refine sp (pB b 0) ?_
 refine s_lt (t_loadA 1 #[.int .i64 v.kind, .int .i64 v.p, .int .i64 v.q, .string v.str, .int .i64 v.ref]) ?_
 refine sp (.int .i64 x) ?_
 refine s_memX (fun H h => hpA_open (h.re [2] [])) (fun ps3 _ => ?_)
 refine s_fact (fun H h => hp_facts (h.re [0] [])) (fun hf4 => ?_)
 obtain ⟨hi5, ha6⟩ := hf4
 refine s_call [0] (hdata_find (st := st) (ps := ps3) v x) ?_
 rintro u7 _ ⟨e8, rfl⟩
 rcases dat_cases ha6 v x with ⟨he9, hv10⟩ | ⟨o11, q12, hf13, ho14, hk15, hk16, hq17, hx18, hx19, he20, hv21⟩
 ·
  rw [hv10] at e8; subst e8
  refine sp (.tuple #[.pointer none, .int .i64 (hslotE st v x)]) ?_
  refine sp (.pointer none) ?_
  refine sp (.int .i64 (hslotE st v x)) ?_
  refine sp (.pointer none) ?_
  refine sp (.int .i64 (hslotE st v x)) ?_
  refine s_nt ?_
  refine k_seq ?_
  refine k_sr ?_
  refine sp (.int .i64 (hslotE st v x)) ?_
  refine s_lt (Lt.to t_cmp (congrArg Value.bool ((decide_eq_true he9) : (decide ((hslotE st v x) ≠ 0)) = true))) ?_
  refine s_nt ?_
  refine k_true ?_
  refine k_sr ?_
  refine sp (.int .i64 (hslotE st v x)) ?_
  refine sp (.int .i64 (hslotE st v x)) ?_
  refine s_nt ?_
  refine k_ret ?_
  refine xs_ret ?_
  have hp := setSlot_err (x := y) he9
  refine xs_mem (fun _ h => hpA_shut (h.re [0] [])) ?_
  refine xs_fin [.int .i64 (hslotE st v x)] (hpA b st :: F) (SI.tmp 8 SI.nil) (fun _ h => h.re [0] [1, 1]) ⟨?_, ?_⟩
  · rw [hp.2]; try rfl
  · rw [hp.1]; try rfl
 ·
  rw [hv21, he20] at e8; subst e8
  have hvl := (hw.of ho14).data hk15
  refine sp (.tuple #[pB q12.1 0, .int .i64 0]) ?_
  refine sp (pB q12.1 0) ?_
  refine sp (.int .i64 0) ?_
  refine sp (pB q12.1 0) ?_
  refine sp (.int .i64 0) ?_
  refine s_nt ?_
  refine k_seq ?_
  refine k_sr ?_
  refine sp (.int .i64 0) ?_
  refine s_lt (t_cmp (c := false)) ?_
  refine s_nt ?_
  refine k_false ?_
  refine k_st ?_
  refine k_seq ?_
  refine k_sr ?_
  refine s_lt (t_loadA 1 #[.int .i64 y.kind, .int .i64 y.p, .int .i64 y.q, .string y.str, .int .i64 y.ref]) ?_
  refine s_vcall (fun _ h => helem_s y) ?_
  rintro _ rfl
  refine sp (.int .i64 (elemE y)) ?_
  refine s_nr ?_
  refine sp (.int .i64 (elemE y)) ?_
  refine s_lt t_cmp ?_
  refine s_nt ?_
  refine k_cond (decide ((elemE y) ≠ 0)) (fun c22 => ?_) (fun c22 => ?_)
  ·
   have p23 := of_decide_eq_true c22
   refine k_sr ?_
   refine sp (.int .i64 (elemE y)) ?_
   refine sp (.int .i64 (elemE y)) ?_
   refine s_nt ?_
   refine k_ret ?_
   refine xs_ret ?_
   have hp := setSlot_elem he20 (of_decide_eq_true c22)
   refine xs_mem (fun _ h => hpA_shut (h.re [0] [])) ?_
   refine xs_fin [.int .i64 (elemE y)] (hpA b st :: F) (SI.tmp 8 SI.nil) (fun _ h => h.re [0] [1, 1]) ⟨?_, ?_⟩
   · rw [hp.2]; try rfl
   · rw [hp.1]; try rfl
  ·
   have p24 := Decidable.not_not.1 (of_decide_eq_false c22)
   refine k_st ?_
   refine k_seq ?_
   refine k_draw ?_
   refine sp (pB q12.1 0) ?_
   refine sp (pB q12.1 0) ?_
   refine sp (pB q12.1 9) ?_
   refine s_mem3 (fun H h => hp_open (h.re [0] [])) (fun mb25 tb26 tm27 hw => ?_)
   obtain ⟨hi28, ha29, ht30⟩ := hw
   refine s_memX (fun H h => all_focus hq17 ho14 (h.re [3] [])) (fun v31 _ => ?_)
   refine s_lt (t_load 0 v31) ?_
   refine sp (.int .i64 x) ?_
   refine s_lt (t_sub x 1 (by (try simp only [lnm]); omega)) ?_
   refine s_lt (t_loadA 7 #[.int .i64 y.kind, .int .i64 y.p, .int .i64 y.q, .string y.str, .int .i64 y.ref]) ?_
   refine s_lt (t_index VlT_ok Try.underlying22 (.own 1) (x - 1) (((x - 1)).toNat) (by omega) (by (try simp only [lnm]); omega) (by omega)) ?_
   obtain ⟨y32, hy33⟩ : ∃ y, o11.vals[((x - 1)).toNat]? = some y := ⟨_, List.getElem?_eq_getElem (by (try simp only [lnm]); omega)⟩
   refine s_storeE 1 0 y VlT_ok hy33 ?_
   refine s_nil ?_
   refine x_dynS (fun _ h => by kernel_rfl) ?_
   refine xs_then ?_
   refine k_sr ?_
   refine sp (pB b 0) ?_
   refine s_lt (t_loadA 8 #[.int .i64 v.kind, .int .i64 v.p, .int .i64 v.q, .string v.str, .int .i64 v.ref]) ?_
   refine s_fact (fun H h => (h.mp (i := 5) rfl).nodup) (fun hnd34 => ?_)
   refine s_mem (fun _ h => all_unfocus (o' := { o11 with vals := (o11.vals.set (((x - 1)).toNat) y) }) hnd34 hq17 ho14 (ob_shut (o := { o11 with vals := (o11.vals.set (((x - 1)).toNat) y) }) (h.re [0, 0, 0, 0] []))) ?_
   refine s_mem (Bs := allP ps3 (st.put v.ref { o11 with vals := (o11.vals.set (((x - 1)).toNat) y) }) :: blkA b #[.map (some mb25), .int .i64 (st.objs.length : Int), .map (some tb26)] 76 :: mpA iK oV mb25 ps3 :: mpA iK bV tb26 tm27 :: blkA g2 #[.int .i64 y.kind, .int .i64 y.p, .int .i64 y.q, .string y.str, .int .i64 y.ref] 26 :: blkA g1 #[.int .i64 v.kind, .int .i64 v.p, .int .i64 v.q, .string v.str, .int .i64 v.ref] 26 :: F) (fun _ h => h) ?_
   have hob35 := hi28.obs o11 (get_mem ho14).1
   refine s_mem (fun _ h => hp_shut (st := (st.put v.ref { o11 with vals := (o11.vals.set (((x - 1)).toNat) y) })) (n := (st.objs.length : Int)) ⟨⟨put_inv hi28 ⟨hob35.kind, hob35.tab, hob35.mt⟩, ha29.put ho14, ht30.put ho14⟩, by rw [put_len]⟩ (h.re [1, 1, 1, 0] [])) ?_
   refine s_call [0] (htouch_s (st := (st.put v.ref { o11 with vals := (o11.vals.set (((x - 1)).toNat) y) })) (ps := ps3) v (show Hst.get _ _ = some { o11 with vals := (o11.vals.set (((x - 1)).toNat) y) } from by rw [get_put ho14, if_pos rfl]) 0) ?_
   rw [if_pos (rfl)]
   rintro _ _ ⟨rfl, rfl⟩
   refine sp (.int .i64 0) ?_
   refine s_nt ?_
   refine k_ret ?_
   have hp := setSlot_ok ho14 he20 (Decidable.not_not.1 (of_decide_eq_false c22))
   refine xs_mem (fun _ h => hpA_shut (h.re [0] [])) ?_
   refine xs_fin [.int .i64 0] (hpA b ((st.put v.ref { o11 with vals := (o11.vals.set (((x - 1)).toNat) y) }).touch v.ref) :: F) (SI.tmp 8 SI.nil) (fun _ h => h.re [0] [1, 1]) ⟨?_, ?_⟩
   · rw [hp.2]; try rfl
   · rw [hp.1]; try rfl
theorem hsetrefs_s {Z : Zone} {F : List Asr} {b : Nat} {st : Hst} {rv : Value} {l : List Vl} (hk0 : Kn Z VlT rv l) (hl0 : l.length ≤ 1000) (v : Vl) : SF Try.prog 64 #[.pointer (some ⟨b, 0, none⟩), v.v, rv] Z (hpA b st :: F) fun r Bs => r = .int .i64 (hsetRefsE st v l) ∧ Bs = hpA b (hsetRefs st v l) :: F := by
 refine sf_enter Try.func64 63 [(0, pB b 0), (1, .agg #[.int .i64 v.kind, .int .i64 v.p, .int .i64 v.q, .string v.str, .int .i64 v.ref]), (2, rv)] (fun w0 => ?_)
 refine k_fact (fun H h => (hk0.get h).len_le) (fun lA => ?_)
 refine k_sr ?_
 refine s_box #[.int .i64 v.kind, .int .i64 v.p, .int .i64 v.q, .string v.str, .int .i64 v.ref] (fun g1 => ?_)
 refine sp (.int .i64 0) ?_
 refine s_nr ?_
 refine sp (pB b 0) ?_
 refine s_lt (t_loadA 0 #[.int .i64 v.kind, .int .i64 v.p, .int .i64 v.q, .string v.str, .int .i64 v.ref]) ?_
 refine s_memX (fun H h => hpA_open (h.re [1] [])) (fun ps2 _ => ?_)
 refine s_fact (fun H h => hp_facts (h.re [0] [])) (fun hf3 => ?_)
 obtain ⟨hi4, ha5⟩ := hf3
 refine s_call [0] (hfind_s (st := st) (ps := ps2) v) ?_
 rintro u6 _ ⟨e7, rfl⟩
 rcases fnd_cases ha5 v with ⟨hf8, ht9, hv10, hv11⟩ | ⟨o12, q13, hf14, ho15, hk16, hq17, hv18, hv19⟩
 ·
  rw [hv10] at e7; subst e7
  refine sp (.pointer none) ?_
  refine s_nt ?_
  refine k_seq ?_
  refine k_sr ?_
  refine sp (.pointer none) ?_
  refine sp (.bool true) ?_
  refine sp (.bool true) ?_
  refine s_skip ?_
  refine s_skip ?_
  refine s_skip ?_
  refine s_skip ?_
  refine s_skip ?_
  refine s_skip ?_
  refine s_skip ?_
  refine s_skip ?_
  refine s_skip ?_
  refine s_skip ?_
  refine s_skip ?_
  refine s_skip ?_
  refine sp (.bool true) ?_
  refine s_nt ?_
  refine k_true ?_
  refine k_sr ?_
  refine sp (pB b 0) ?_
  refine s_vcall (fun _ h => hmiss_s (F := [])) ?_
  rintro _ rfl
  refine sp (.int .i64 8) ?_
  refine s_nt ?_
  refine k_ret ?_
  refine xs_ret ?_
  have hp := setRefs_type (l := l) (isFT_none hf8)
  refine xs_mem (fun _ h => hpA_shut (h.re [0] [])) ?_
  refine xs_fin [.int .i64 8] (hpA b st :: F) (SI.tmp 6 SI.nil) (fun _ h => h.re [0] [1]) ⟨?_, ?_⟩
  · rw [hp.2]; try rfl
  · rw [hp.1]; try rfl
 ·
  rw [hv18] at e7; subst e7
  refine sp (pB q13.1 0) ?_
  refine s_nt ?_
  refine k_seq ?_
  refine k_sr ?_
  refine sp (pB q13.1 0) ?_
  refine sp (.bool false) ?_
  refine sp (.bool false) ?_
  refine sp (pB q13.1 0) ?_
  refine sp (pB q13.1 0) ?_
  refine sp (pB q13.1 0) ?_
  refine s_mem3 (fun H h => hp_open (h.re [0] [])) (fun mb20 tb21 tm22 hw => ?_)
  obtain ⟨hi23, ha24, ht25⟩ := hw
  refine s_memX (fun H h => all_focus hq17 ho15 (h.re [3] [])) (fun v26 _ => ?_)
  refine s_lt (t_load 0 (.int .i64 o12.kind)) ?_
  refine s_lt t_cmp ?_
  refine sp (.bool (decide (o12.kind ≠ 5))) ?_
  refine s_fork 23 (decide (o12.kind ≠ 5)) (fun c27 => ?_) (fun c27 => ?_)
  ·
   have p28 := of_decide_eq_true c27
   refine sp (pB q13.1 0) ?_
   refine sp (pB q13.1 0) ?_
   refine sp (pB q13.1 0) ?_
   refine s_lt (t_load 0 (.int .i64 o12.kind)) ?_
   refine s_lt t_cmp ?_
   refine sp (.bool (decide (o12.kind ≠ 7))) ?_
   refine sp (.bool (decide (o12.kind ≠ 7))) ?_
   refine s_nt ?_
   refine k_cond (decide (o12.kind ≠ 7)) (fun c29 => ?_) (fun c29 => ?_)
   ·
    have p30 := of_decide_eq_true c29
    refine k_sr ?_
    refine sp (pB b 0) ?_
    refine s_vcall (fun _ h => hmiss_s (F := [])) ?_
    rintro _ rfl
    refine sp (.int .i64 8) ?_
    refine s_nt ?_
    refine k_ret ?_
    refine xs_ret ?_
    refine xs_fact (fun H h => (h.mp (i := 5) rfl).nodup) (fun hnd31 => ?_)
    refine xs_mem (fun _ h => (put_same ho15) ▸ all_unfocus (o' := o12) hnd31 hq17 ho15 (ob_shut (o := o12) (h.re [0, 0, 0, 0] []))) ?_
    refine xs_mem (Bs := allP ps2 st :: blkA b #[.map (some mb20), .int .i64 (st.objs.length : Int), .map (some tb21)] 76 :: mpA iK oV mb20 ps2 :: mpA iK bV tb21 tm22 :: blkA g1 #[.int .i64 v.kind, .int .i64 v.p, .int .i64 v.q, .string v.str, .int .i64 v.ref] 26 :: F) (fun _ h => h) ?_
    refine xs_mem (fun _ h => hp_shut (st := st) (n := (st.objs.length : Int)) ⟨⟨hi23, ha24, ht25⟩, rfl⟩ (h.re [1, 1, 1, 0] [])) ?_
    have hft : hisFT st v = false := by rw [isFT_some hf14]; simp_all
    have hp := setRefs_type (l := l) hft
    refine xs_mem (fun _ h => hpA_shut (h.re [0] [])) ?_
    refine xs_fin [.int .i64 8] (hpA b st :: F) (SI.tmp 6 SI.nil) (fun _ h => h.re [0] [1]) ⟨?_, ?_⟩
    · rw [hp.2]; try rfl
    · rw [hp.1]; try rfl
   ·
    have p32 := Decidable.not_not.1 (of_decide_eq_false c29)
    refine k_st ?_
    refine k_seq ?_
    refine k_sr ?_
    refine sp rv ?_
    refine s_lt (t_len VlT_ok Try.underlying22 (.zn hk0)) ?_
    refine sp (.int .i64 0) ?_
    refine s_nt ?_
    refine k_block ?_
    refine k_loop (ι := Nat) (fun i => i ≤ l.length ∧ refsE l = refsE (l.drop i)) (fun i => [(0, pB b 0), (2, rv), (4, pB g1 0), (7, pB q13.1 0), (33, rv), (34, .int .i64 (l.length : Int)), (35, .int .i64 (i : Int))]) (fun i => blkA q13.1 #[.int .i64 o12.kind, .int .i64 o12.tag, .string o12.name, (tabV q13 o12), .int .i64 o12.mt.kind, .int .i64 o12.mt.p, .int .i64 o12.mt.q, .string o12.mt.str, .int .i64 o12.mt.ref, v26] 84 :: own VlT v26 o12.vals :: tabO q13 o12 :: holeP ps2 st v.ref :: blkA b #[.map (some mb20), .int .i64 (st.objs.length : Int), .map (some tb21)] 76 :: mpA iK oV mb20 ps2 :: mpA iK bV tb21 tm22 :: blkA g1 #[.int .i64 v.kind, .int .i64 v.p, .int .i64 v.q, .string v.str, .int .i64 v.ref] 26 :: F) (fun i => l.length - i) 0 ⟨Nat.zero_le _, rfl⟩ (sub_of rfl ⟨⟨rfl, rfl⟩, ⟨⟨rfl, rfl⟩, ⟨⟨rfl, rfl⟩, ⟨⟨rfl, rfl⟩, ⟨⟨rfl, rfl⟩, ⟨⟨rfl, rfl⟩, ⟨⟨rfl, rfl⟩, trivial⟩⟩⟩⟩⟩⟩⟩) (fun _ h => h.re [0, 0, 0, 0, 0, 0, 0, 0] []) ?_
    rintro i hi33
    show SK _ _ _ _ _ [(0, .pointer (some ⟨b, 0, none⟩)), (2, rv), (4, .pointer (some ⟨g1, 0, none⟩)), (7, .pointer (some ⟨q13.1, 0, none⟩)), (33, rv), (34, .int .i64 (l.length : Int)), (35, .int .i64 (i : Int))] _ (blkA q13.1 #[.int .i64 o12.kind, .int .i64 o12.tag, .string o12.name, (tabV q13 o12), .int .i64 o12.mt.kind, .int .i64 o12.mt.p, .int .i64 o12.mt.q, .string o12.mt.str, .int .i64 o12.mt.ref, v26] 84 :: own VlT v26 o12.vals :: tabO q13 o12 :: holeP ps2 st v.ref :: blkA b #[.map (some mb20), .int .i64 (st.objs.length : Int), .map (some tb21)] 76 :: mpA iK oV mb20 ps2 :: mpA iK bV tb21 tm22 :: blkA g1 #[.int .i64 v.kind, .int .i64 v.p, .int .i64 v.q, .string v.str, .int .i64 v.ref] 26 :: F)
    refine k_sr ?_
    refine s_lt t_cmp ?_
    refine s_nt ?_
    refine k_seq ?_
    refine k_cond (decide ((i : Int) < (l.length : Int))) (fun c34 => ?_) (fun c34 => ?_)
    ·
     have p35 := of_decide_eq_true c34
     refine k_st ?_
     refine k_seq ?_
     refine k_block ?_
     refine k_sr ?_
     refine s_lt (t_index VlT_ok Try.underlying22 (.zn hk0) (i : Int) i (by omega) (by (try simp only [lnm]); omega) (by omega)) ?_
     obtain ⟨y36, hy37⟩ : ∃ y, l[i]? = some y := ⟨_, List.getElem?_eq_getElem (by (try simp only [lnm]); omega)⟩
     refine s_lt (t_loadE VlT_ok (.zn hk0) hy37) ?_
     refine s_alloc (.agg #[.int .i64 0, .int .i64 0, .int .i64 0, .string ByteArray.empty, .int .i64 0]) #[.int .i64 0, .int .i64 0, .int .i64 0, .string ByteArray.empty, .int .i64 0] (fun g38 => ?_)
     refine s_store 0 #[.int .i64 y36.kind, .int .i64 y36.p, .int .i64 y36.q, .string y36.str, .int .i64 y36.ref] ?_
     refine s_nr ?_
     refine s_lt (t_loadA 0 #[.int .i64 y36.kind, .int .i64 y36.p, .int .i64 y36.q, .string y36.str, .int .i64 y36.ref]) ?_
     refine s_vcall (fun _ h => helem_s y36) ?_
     rintro _ rfl
     refine sp (.int .i64 (elemE y36)) ?_
     refine s_nr ?_
     refine sp (.int .i64 (elemE y36)) ?_
     refine s_lt t_cmp ?_
     refine s_nt ?_
     refine k_cond (decide ((elemE y36) ≠ 0)) (fun c39 => ?_) (fun c39 => ?_)
     ·
      have p40 := of_decide_eq_true c39
      refine k_sr ?_
      refine sp (.int .i64 (elemE y36)) ?_
      refine sp (.int .i64 (elemE y36)) ?_
      refine s_nt ?_
      refine k_ret ?_
      refine xs_retBlock ?_
      refine xs_ret ?_
      refine xs_ret ?_
      refine xs_retBlock ?_
      refine xs_ret ?_
      refine xs_fact (fun H h => (h.mp (i := 6) rfl).nodup) (fun hnd41 => ?_)
      refine xs_mem (fun _ h => (put_same ho15) ▸ all_unfocus (o' := o12) hnd41 hq17 ho15 (ob_shut (o := o12) (h.re [1, 1, 1, 1] []))) ?_
      refine xs_mem (Bs := allP ps2 st :: blkA g38 #[.int .i64 y36.kind, .int .i64 y36.p, .int .i64 y36.q, .string y36.str, .int .i64 y36.ref] 26 :: blkA b #[.map (some mb20), .int .i64 (st.objs.length : Int), .map (some tb21)] 76 :: mpA iK oV mb20 ps2 :: mpA iK bV tb21 tm22 :: blkA g1 #[.int .i64 v.kind, .int .i64 v.p, .int .i64 v.q, .string v.str, .int .i64 v.ref] 26 :: F) (fun _ h => h) ?_
      refine xs_mem (fun _ h => hp_shut (st := st) (n := (st.objs.length : Int)) ⟨⟨hi23, ha24, ht25⟩, rfl⟩ (h.re [2, 2, 2, 0] [])) ?_
      have hft : hisFT st v = true := by rw [isFT_some hf14]; simp_all
      have hne := of_decide_eq_true c39
      have hre := (refs_step hi33.2 hy37).1 hne
      have hp := setRefs_elem hft (by rw [hre]; exact hne)
      refine xs_mem (fun _ h => hpA_shut (h.re [0] [])) ?_
      refine xs_fin [.int .i64 (elemE y36)] (hpA b st :: F) (SI.tmp 6 SI.nil) (fun _ h => h.re [0] [1, 1]) ⟨?_, ?_⟩
      · rw [hp.2, hre]; try rfl
      · rw [hp.1]; try rfl
     ·
      have p42 := Decidable.not_not.1 (of_decide_eq_false c39)
      refine k_skip ?_
      refine xs_block ?_
      refine xs_then ?_
      refine k_reg ?_
      refine s_lt (t_add (i : Int) 1 (by (try simp only [lnm]); omega)) ?_
      refine sp (.int .i64 ((i : Int) + 1)) ?_
      refine s_nil ?_
      exact xs_round (i + 1) (by omega) ⟨by omega, (refs_step hi33.2 hy37).2 (Decidable.not_not.1 (of_decide_eq_false c39))⟩ (sub_of rfl ⟨⟨rfl, rfl⟩, ⟨⟨rfl, rfl⟩, ⟨⟨rfl, rfl⟩, ⟨⟨rfl, rfl⟩, ⟨⟨rfl, rfl⟩, ⟨⟨rfl, rfl⟩, ⟨⟨rfl, rfl⟩, trivial⟩⟩⟩⟩⟩⟩⟩) (fun _ h => h.re [1, 1, 1, 1, 1, 1, 1, 1] [8])
    ·
     have p43 := of_decide_eq_false c34
     refine k_exit ?_
     refine xs_exit ?_
     refine xs_exit ?_
     refine xs_here ?_
     refine xs_then ?_
     refine k_sr ?_
     refine sp rv ?_
     refine s_lt (t_len VlT_ok Try.underlying22 (.zn hk0)) ?_
     refine s_make VlT_ok Try.underlying22 (l.length : Int) (by omega) (by show 48 * _ ≤ _; omega) (by omega) (fun v44 => ?_)
     refine sp v44 ?_
     refine s_nr ?_
     refine sp v44 ?_
     refine sp rv ?_
     refine s_copy 0 VlT_ok Try.underlying22 (.zn hk0) ?_
     refine s_nr ?_
     refine sp (pB q13.1 0) ?_
     refine sp v44 ?_
     refine sp rv ?_
     refine s_lt (t_len VlT_ok Try.underlying22 (.zn hk0)) ?_
     refine sp rv ?_
     refine s_lt (t_len VlT_ok Try.underlying22 (.zn hk0)) ?_
     refine s_lt (t_pre3 VlT_ok Try.underlying22 (.own 0) (l.length : Int) l.length (by omega) (by (try simp only [lnm]); omega) (by omega)) ?_
     refine sp (pB q13.1 0) ?_
     refine sp (pB q13.1 9) ?_
     refine s_mem (fun _ h => Holds.pre3 (i := 0) h VlT_ok l.length rfl (by (try simp only [lnm]); omega)) ?_
     have hLL : ((l.take (List.replicate (((l.length : Int)).toNat) VlT.zero).length ++ (List.replicate (((l.length : Int)).toNat) VlT.zero).drop l.length).take l.length) = l := by simp
     refine s_mem (Bs := own VlT (pre3 v44 l.length) l :: blkA q13.1 #[.int .i64 o12.kind, .int .i64 o12.tag, .string o12.name, (tabV q13 o12), .int .i64 o12.mt.kind, .int .i64 o12.mt.p, .int .i64 o12.mt.q, .string o12.mt.str, .int .i64 o12.mt.ref, v26] 84 :: own VlT v26 o12.vals :: tabO q13 o12 :: holeP ps2 st v.ref :: blkA b #[.map (some mb20), .int .i64 (st.objs.length : Int), .map (some tb21)] 76 :: mpA iK oV mb20 ps2 :: mpA iK bV tb21 tm22 :: blkA g1 #[.int .i64 v.kind, .int .i64 v.p, .int .i64 v.q, .string v.str, .int .i64 v.ref] 26 :: F) (fun _ h => by rw [hLL] at h; exact h) ?_
     refine s_fact (fun H h => ((Acc.own (T := VlT) (L := l) 0 rfl) H h).form) (fun hf45 => ?_)
     refine s_store (u := (pre3 v44 l.length)) (m := 1) 1 #[.int .i64 o12.kind, .int .i64 o12.tag, .string o12.name, (tabV q13 o12), .int .i64 o12.mt.kind, .int .i64 o12.mt.p, .int .i64 o12.mt.q, .string o12.mt.str, .int .i64 o12.mt.ref, (pre3 v44 l.length)] ?_ (hm := by (obtain ⟨_, _, e⟩ := hf45; rw [e]; rfl)) (h1 := by (obtain ⟨_, _, e⟩ := hf45; rw [e]; rfl)) (ha' := by (obtain ⟨_, _, e⟩ := hf45; rw [e]; rfl))
     refine s_nr ?_
     refine sp (pB b 0) ?_
     refine s_lt (t_loadA 8 #[.int .i64 v.kind, .int .i64 v.p, .int .i64 v.q, .string v.str, .int .i64 v.ref]) ?_
     refine s_fact (fun H h => (h.mp (i := 6) rfl).nodup) (fun hnd46 => ?_)
     refine s_mem (fun _ h => all_unfocus (o' := { o12 with vals := l }) hnd46 hq17 ho15 (ob_shut (o := { o12 with vals := l }) (h.re [1, 0, 1, 1] []))) ?_
     refine s_mem (Bs := allP ps2 (st.put v.ref { o12 with vals := l }) :: own VlT v26 o12.vals :: blkA b #[.map (some mb20), .int .i64 (st.objs.length : Int), .map (some tb21)] 76 :: mpA iK oV mb20 ps2 :: mpA iK bV tb21 tm22 :: blkA g1 #[.int .i64 v.kind, .int .i64 v.p, .int .i64 v.q, .string v.str, .int .i64 v.ref] 26 :: F) (fun _ h => h) ?_
     have hob47 := hi23.obs o12 (get_mem ho15).1
     refine s_mem (fun _ h => hp_shut (st := (st.put v.ref { o12 with vals := l })) (n := (st.objs.length : Int)) ⟨⟨put_inv hi23 ⟨hob47.kind, hob47.tab, hob47.mt⟩, ha24.put ho15, ht25.put ho15⟩, by rw [put_len]⟩ (h.re [2, 2, 2, 0] [])) ?_
     refine s_call [0] (htouch_s (st := (st.put v.ref { o12 with vals := l })) (ps := ps2) v (show Hst.get _ _ = some { o12 with vals := l } from by rw [get_put ho15, if_pos rfl]) 0) ?_
     rw [if_pos (rfl)]
     rintro _ _ ⟨rfl, rfl⟩
     refine sp (.int .i64 0) ?_
     refine s_nt ?_
     refine k_ret ?_
     have hft : hisFT st v = true := by rw [isFT_some hf14]; simp_all
     have hp := setRefs_ok ho15 hft (refs_end hi33.2 (by omega))
     refine xs_mem (fun _ h => hpA_shut (h.re [0] [])) ?_
     refine xs_fin [.int .i64 0] (hpA b ((st.put v.ref { o12 with vals := l }).touch v.ref) :: F) (SI.tmp 6 SI.nil) (fun _ h => h.re [0] [1, 1]) ⟨?_, ?_⟩
     · rw [hp.2]; try rfl
     · rw [hp.1]; try rfl
  ·
   have p49 := Decidable.not_not.1 (of_decide_eq_false c27)
   refine s_skip ?_
   refine s_skip ?_
   refine s_skip ?_
   refine s_skip ?_
   refine s_skip ?_
   refine sp (.bool false) ?_
   refine sp (.bool false) ?_
   refine s_nt ?_
   refine k_false ?_
   refine k_st ?_
   refine k_seq ?_
   refine k_sr ?_
   refine sp rv ?_
   refine s_lt (t_len VlT_ok Try.underlying22 (.zn hk0)) ?_
   refine sp (.int .i64 0) ?_
   refine s_nt ?_
   refine k_block ?_
   refine k_loop (ι := Nat) (fun i => i ≤ l.length ∧ refsE l = refsE (l.drop i)) (fun i => [(0, pB b 0), (2, rv), (4, pB g1 0), (7, pB q13.1 0), (33, rv), (34, .int .i64 (l.length : Int)), (35, .int .i64 (i : Int))]) (fun i => blkA q13.1 #[.int .i64 o12.kind, .int .i64 o12.tag, .string o12.name, (tabV q13 o12), .int .i64 o12.mt.kind, .int .i64 o12.mt.p, .int .i64 o12.mt.q, .string o12.mt.str, .int .i64 o12.mt.ref, v26] 84 :: own VlT v26 o12.vals :: tabO q13 o12 :: holeP ps2 st v.ref :: blkA b #[.map (some mb20), .int .i64 (st.objs.length : Int), .map (some tb21)] 76 :: mpA iK oV mb20 ps2 :: mpA iK bV tb21 tm22 :: blkA g1 #[.int .i64 v.kind, .int .i64 v.p, .int .i64 v.q, .string v.str, .int .i64 v.ref] 26 :: F) (fun i => l.length - i) 0 ⟨Nat.zero_le _, rfl⟩ (sub_of rfl ⟨⟨rfl, rfl⟩, ⟨⟨rfl, rfl⟩, ⟨⟨rfl, rfl⟩, ⟨⟨rfl, rfl⟩, ⟨⟨rfl, rfl⟩, ⟨⟨rfl, rfl⟩, ⟨⟨rfl, rfl⟩, trivial⟩⟩⟩⟩⟩⟩⟩) (fun _ h => h.re [0, 0, 0, 0, 0, 0, 0, 0] []) ?_
   rintro i hi50
   show SK _ _ _ _ _ [(0, .pointer (some ⟨b, 0, none⟩)), (2, rv), (4, .pointer (some ⟨g1, 0, none⟩)), (7, .pointer (some ⟨q13.1, 0, none⟩)), (33, rv), (34, .int .i64 (l.length : Int)), (35, .int .i64 (i : Int))] _ (blkA q13.1 #[.int .i64 o12.kind, .int .i64 o12.tag, .string o12.name, (tabV q13 o12), .int .i64 o12.mt.kind, .int .i64 o12.mt.p, .int .i64 o12.mt.q, .string o12.mt.str, .int .i64 o12.mt.ref, v26] 84 :: own VlT v26 o12.vals :: tabO q13 o12 :: holeP ps2 st v.ref :: blkA b #[.map (some mb20), .int .i64 (st.objs.length : Int), .map (some tb21)] 76 :: mpA iK oV mb20 ps2 :: mpA iK bV tb21 tm22 :: blkA g1 #[.int .i64 v.kind, .int .i64 v.p, .int .i64 v.q, .string v.str, .int .i64 v.ref] 26 :: F)
   refine k_sr ?_
   refine s_lt t_cmp ?_
   refine s_nt ?_
   refine k_seq ?_
   refine k_cond (decide ((i : Int) < (l.length : Int))) (fun c51 => ?_) (fun c51 => ?_)
   ·
    have p52 := of_decide_eq_true c51
    refine k_st ?_
    refine k_seq ?_
    refine k_block ?_
    refine k_sr ?_
    refine s_lt (t_index VlT_ok Try.underlying22 (.zn hk0) (i : Int) i (by omega) (by (try simp only [lnm]); omega) (by omega)) ?_
    obtain ⟨y53, hy54⟩ : ∃ y, l[i]? = some y := ⟨_, List.getElem?_eq_getElem (by (try simp only [lnm]); omega)⟩
    refine s_lt (t_loadE VlT_ok (.zn hk0) hy54) ?_
    refine s_alloc (.agg #[.int .i64 0, .int .i64 0, .int .i64 0, .string ByteArray.empty, .int .i64 0]) #[.int .i64 0, .int .i64 0, .int .i64 0, .string ByteArray.empty, .int .i64 0] (fun g55 => ?_)
    refine s_store 0 #[.int .i64 y53.kind, .int .i64 y53.p, .int .i64 y53.q, .string y53.str, .int .i64 y53.ref] ?_
    refine s_nr ?_
    refine s_lt (t_loadA 0 #[.int .i64 y53.kind, .int .i64 y53.p, .int .i64 y53.q, .string y53.str, .int .i64 y53.ref]) ?_
    refine s_vcall (fun _ h => helem_s y53) ?_
    rintro _ rfl
    refine sp (.int .i64 (elemE y53)) ?_
    refine s_nr ?_
    refine sp (.int .i64 (elemE y53)) ?_
    refine s_lt t_cmp ?_
    refine s_nt ?_
    refine k_cond (decide ((elemE y53) ≠ 0)) (fun c56 => ?_) (fun c56 => ?_)
    ·
     have p57 := of_decide_eq_true c56
     refine k_sr ?_
     refine sp (.int .i64 (elemE y53)) ?_
     refine sp (.int .i64 (elemE y53)) ?_
     refine s_nt ?_
     refine k_ret ?_
     refine xs_retBlock ?_
     refine xs_ret ?_
     refine xs_ret ?_
     refine xs_retBlock ?_
     refine xs_ret ?_
     refine xs_fact (fun H h => (h.mp (i := 6) rfl).nodup) (fun hnd58 => ?_)
     refine xs_mem (fun _ h => (put_same ho15) ▸ all_unfocus (o' := o12) hnd58 hq17 ho15 (ob_shut (o := o12) (h.re [1, 1, 1, 1] []))) ?_
     refine xs_mem (Bs := allP ps2 st :: blkA g55 #[.int .i64 y53.kind, .int .i64 y53.p, .int .i64 y53.q, .string y53.str, .int .i64 y53.ref] 26 :: blkA b #[.map (some mb20), .int .i64 (st.objs.length : Int), .map (some tb21)] 76 :: mpA iK oV mb20 ps2 :: mpA iK bV tb21 tm22 :: blkA g1 #[.int .i64 v.kind, .int .i64 v.p, .int .i64 v.q, .string v.str, .int .i64 v.ref] 26 :: F) (fun _ h => h) ?_
     refine xs_mem (fun _ h => hp_shut (st := st) (n := (st.objs.length : Int)) ⟨⟨hi23, ha24, ht25⟩, rfl⟩ (h.re [2, 2, 2, 0] [])) ?_
     have hft : hisFT st v = true := by rw [isFT_some hf14]; simp_all
     have hne := of_decide_eq_true c56
     have hre := (refs_step hi50.2 hy54).1 hne
     have hp := setRefs_elem hft (by rw [hre]; exact hne)
     refine xs_mem (fun _ h => hpA_shut (h.re [0] [])) ?_
     refine xs_fin [.int .i64 (elemE y53)] (hpA b st :: F) (SI.tmp 6 SI.nil) (fun _ h => h.re [0] [1, 1]) ⟨?_, ?_⟩
     · rw [hp.2, hre]; try rfl
     · rw [hp.1]; try rfl
    ·
     have p59 := Decidable.not_not.1 (of_decide_eq_false c56)
     refine k_skip ?_
     refine xs_block ?_
     refine xs_then ?_
     refine k_reg ?_
     refine s_lt (t_add (i : Int) 1 (by (try simp only [lnm]); omega)) ?_
     refine sp (.int .i64 ((i : Int) + 1)) ?_
     refine s_nil ?_
     exact xs_round (i + 1) (by omega) ⟨by omega, (refs_step hi50.2 hy54).2 (Decidable.not_not.1 (of_decide_eq_false c56))⟩ (sub_of rfl ⟨⟨rfl, rfl⟩, ⟨⟨rfl, rfl⟩, ⟨⟨rfl, rfl⟩, ⟨⟨rfl, rfl⟩, ⟨⟨rfl, rfl⟩, ⟨⟨rfl, rfl⟩, ⟨⟨rfl, rfl⟩, trivial⟩⟩⟩⟩⟩⟩⟩) (fun _ h => h.re [1, 1, 1, 1, 1, 1, 1, 1] [8])
   ·
    have p60 := of_decide_eq_false c51
    refine k_exit ?_
    refine xs_exit ?_
    refine xs_exit ?_
    refine xs_here ?_
    refine xs_then ?_
    refine k_sr ?_
    refine sp rv ?_
    refine s_lt (t_len VlT_ok Try.underlying22 (.zn hk0)) ?_
    refine s_make VlT_ok Try.underlying22 (l.length : Int) (by omega) (by show 48 * _ ≤ _; omega) (by omega) (fun v61 => ?_)
    refine sp v61 ?_
    refine s_nr ?_
    refine sp v61 ?_
    refine sp rv ?_
    refine s_copy 0 VlT_ok Try.underlying22 (.zn hk0) ?_
    refine s_nr ?_
    refine sp (pB q13.1 0) ?_
    refine sp v61 ?_
    refine sp rv ?_
    refine s_lt (t_len VlT_ok Try.underlying22 (.zn hk0)) ?_
    refine sp rv ?_
    refine s_lt (t_len VlT_ok Try.underlying22 (.zn hk0)) ?_
    refine s_lt (t_pre3 VlT_ok Try.underlying22 (.own 0) (l.length : Int) l.length (by omega) (by (try simp only [lnm]); omega) (by omega)) ?_
    refine sp (pB q13.1 0) ?_
    refine sp (pB q13.1 9) ?_
    refine s_mem (fun _ h => Holds.pre3 (i := 0) h VlT_ok l.length rfl (by (try simp only [lnm]); omega)) ?_
    have hLL : ((l.take (List.replicate (((l.length : Int)).toNat) VlT.zero).length ++ (List.replicate (((l.length : Int)).toNat) VlT.zero).drop l.length).take l.length) = l := by simp
    refine s_mem (Bs := own VlT (pre3 v61 l.length) l :: blkA q13.1 #[.int .i64 o12.kind, .int .i64 o12.tag, .string o12.name, (tabV q13 o12), .int .i64 o12.mt.kind, .int .i64 o12.mt.p, .int .i64 o12.mt.q, .string o12.mt.str, .int .i64 o12.mt.ref, v26] 84 :: own VlT v26 o12.vals :: tabO q13 o12 :: holeP ps2 st v.ref :: blkA b #[.map (some mb20), .int .i64 (st.objs.length : Int), .map (some tb21)] 76 :: mpA iK oV mb20 ps2 :: mpA iK bV tb21 tm22 :: blkA g1 #[.int .i64 v.kind, .int .i64 v.p, .int .i64 v.q, .string v.str, .int .i64 v.ref] 26 :: F) (fun _ h => by rw [hLL] at h; exact h) ?_
    refine s_fact (fun H h => ((Acc.own (T := VlT) (L := l) 0 rfl) H h).form) (fun hf62 => ?_)
    refine s_store (u := (pre3 v61 l.length)) (m := 1) 1 #[.int .i64 o12.kind, .int .i64 o12.tag, .string o12.name, (tabV q13 o12), .int .i64 o12.mt.kind, .int .i64 o12.mt.p, .int .i64 o12.mt.q, .string o12.mt.str, .int .i64 o12.mt.ref, (pre3 v61 l.length)] ?_ (hm := by (obtain ⟨_, _, e⟩ := hf62; rw [e]; rfl)) (h1 := by (obtain ⟨_, _, e⟩ := hf62; rw [e]; rfl)) (ha' := by (obtain ⟨_, _, e⟩ := hf62; rw [e]; rfl))
    refine s_nr ?_
    refine sp (pB b 0) ?_
    refine s_lt (t_loadA 8 #[.int .i64 v.kind, .int .i64 v.p, .int .i64 v.q, .string v.str, .int .i64 v.ref]) ?_
    refine s_fact (fun H h => (h.mp (i := 6) rfl).nodup) (fun hnd63 => ?_)
    refine s_mem (fun _ h => all_unfocus (o' := { o12 with vals := l }) hnd63 hq17 ho15 (ob_shut (o := { o12 with vals := l }) (h.re [1, 0, 1, 1] []))) ?_
    refine s_mem (Bs := allP ps2 (st.put v.ref { o12 with vals := l }) :: own VlT v26 o12.vals :: blkA b #[.map (some mb20), .int .i64 (st.objs.length : Int), .map (some tb21)] 76 :: mpA iK oV mb20 ps2 :: mpA iK bV tb21 tm22 :: blkA g1 #[.int .i64 v.kind, .int .i64 v.p, .int .i64 v.q, .string v.str, .int .i64 v.ref] 26 :: F) (fun _ h => h) ?_
    have hob64 := hi23.obs o12 (get_mem ho15).1
    refine s_mem (fun _ h => hp_shut (st := (st.put v.ref { o12 with vals := l })) (n := (st.objs.length : Int)) ⟨⟨put_inv hi23 ⟨hob64.kind, hob64.tab, hob64.mt⟩, ha24.put ho15, ht25.put ho15⟩, by rw [put_len]⟩ (h.re [2, 2, 2, 0] [])) ?_
    refine s_call [0] (htouch_s (st := (st.put v.ref { o12 with vals := l })) (ps := ps2) v (show Hst.get _ _ = some { o12 with vals := l } from by rw [get_put ho15, if_pos rfl]) 0) ?_
    rw [if_pos (rfl)]
    rintro _ _ ⟨rfl, rfl⟩
    refine sp (.int .i64 0) ?_
    refine s_nt ?_
    refine k_ret ?_
    have hft : hisFT st v = true := by rw [isFT_some hf14]; simp_all
    have hp := setRefs_ok ho15 hft (refs_end hi50.2 (by omega))
    refine xs_mem (fun _ h => hpA_shut (h.re [0] [])) ?_
    refine xs_fin [.int .i64 0] (hpA b ((st.put v.ref { o12 with vals := l }).touch v.ref) :: F) (SI.tmp 6 SI.nil) (fun _ h => h.re [0] [1, 1]) ⟨?_, ?_⟩
    · rw [hp.2]; try rfl
    · rw [hp.1]; try rfl
theorem halive_s {Z : Zone} {F : List Asr} {b : Nat} {st : Hst}  (id : Int) : SF Try.prog 31 #[.pointer (some ⟨b, 0, none⟩), .int .i64 id] Z (hpA b st :: F) fun r Bs => r = .bool (halive st id) ∧ Bs = hpA b st :: F := by
 refine sf_enter Try.func31 16 [(0, pB b 0), (1, .int .i64 id)] (fun w0 => ?_)
 refine k_memX (fun H h => hpA_open (h.re [0] [])) (fun ps1 _ => ?_)
 refine k_fact (fun H h => hp_facts (h.re [0] [])) (fun hf2 => ?_)
 obtain ⟨hi3, ha4⟩ := hf2
 refine k_mem3 (fun H h => hp_open (h.re [0] [])) (fun mb5 tb6 tm7 hw => ?_)
 obtain ⟨hi8, ha9, ht10⟩ := hw
 refine k_sr ?_
 refine sp (.bool false) ?_
 refine s_nr ?_
 refine sp (pB b 0) ?_
 refine sp (.bool true) ?_
 refine sp (.bool true) ?_
 refine sp (pB b 0) ?_
 refine sp (pB b 0) ?_
 refine sp (pB b 0) ?_
 refine s_lt (t_load 0 (.map (some mb5))) ?_
 refine sp (.int .i64 id) ?_
 rcases get_cases ha9 id with ⟨hg11, hq12⟩ | ⟨o13, q14, ho15, hq16⟩
 ·
  refine s_lt (Lt.to (v' := .pointer none) (t_lookup 1 intOk Try.underlying73 (.pointer none) id) (by rw [hq12]; rfl)) ?_
  refine sp (.bool false) ?_
  refine sp (.bool false) ?_
  refine sp (.bool false) ?_
  refine s_nt ?_
  refine k_ret ?_
  refine xs_mem (fun _ h => hp_shut (st := st) (n := (st.objs.length : Int)) ⟨⟨hi8, ha9, ht10⟩, rfl⟩ (h.re [0, 0, 0, 0] [])) ?_
  refine xs_mem (fun _ h => hpA_shut (h.re [0] [])) ?_
  refine xs_fin [.bool false] (hpA b st :: F) (SI.tmp 4 SI.nil) (fun _ h => h.re [0] []) ⟨?_, ?_⟩
  · unfold halive; rw [hg11]; rfl
  · rfl
 ·
  refine s_lt (Lt.to (v' := ptrV q14.1) (t_lookup 1 intOk Try.underlying73 (.pointer none) id) (by rw [hq16]; rfl)) ?_
  refine sp (.bool true) ?_
  refine sp (.bool true) ?_
  refine sp (.bool true) ?_
  refine s_nt ?_
  refine k_ret ?_
  refine xs_mem (fun _ h => hp_shut (st := st) (n := (st.objs.length : Int)) ⟨⟨hi8, ha9, ht10⟩, rfl⟩ (h.re [0, 0, 0, 0] [])) ?_
  refine xs_mem (fun _ h => hpA_shut (h.re [0] [])) ?_
  refine xs_fin [.bool true] (hpA b st :: F) (SI.tmp 4 SI.nil) (fun _ h => h.re [0] []) ⟨?_, ?_⟩
  · unfold halive; rw [ho15]; rfl
  · rfl
theorem hdrop_s {Z : Zone} {F : List Asr} {b : Nat} {st : Hst}  (id : Int) : SF Try.prog 33 #[.pointer (some ⟨b, 0, none⟩), .int .i64 id] Z (hpA b st :: F) fun r Bs => r = .int .i64 (hdropE st id) ∧ Bs = hpA b (hdrop st id) :: F := by
 refine sf_enter Try.func33 21 [(0, pB b 0), (1, .int .i64 id)] (fun w0 => ?_)
 refine k_memX (fun H h => hpA_open (h.re [0] [])) (fun ps1 _ => ?_)
 refine k_fact (fun H h => hp_facts (h.re [0] [])) (fun hf2 => ?_)
 obtain ⟨hi3, ha4⟩ := hf2
 refine k_mem3 (fun H h => hp_open (h.re [0] [])) (fun mb5 tb6 tm7 hw => ?_)
 obtain ⟨hi8, ha9, ht10⟩ := hw
 refine k_fact (fun H h => (h.mp (i := 1) rfl).nodup) (fun hnd0 => ?_)
 refine k_sr ?_
 refine sp (.int .i64 0) ?_
 refine s_nt ?_
 refine k_seq ?_
 refine k_block ?_
 refine k_sr ?_
 refine sp (pB b 0) ?_
 refine sp (.bool false) ?_
 refine sp (.bool false) ?_
 refine s_nt ?_
 refine k_false ?_
 refine k_sr ?_
 refine sp (pB b 0) ?_
 refine sp (pB b 0) ?_
 refine sp (pB b 0) ?_
 refine s_lt (t_load 0 (.map (some mb5))) ?_
 refine sp (.int .i64 id) ?_
 rcases get_cases ha9 id with ⟨hg11, hq12⟩ | ⟨o13, q14, ho15, hq16⟩
 ·
  refine s_lt (Lt.to (v' := .pointer none) (t_lookup 1 intOk Try.underlying73 (.pointer none) id) (by rw [hq12]; rfl)) ?_
  refine sp (.bool true) ?_
  refine sp (.bool true) ?_
  refine s_nt ?_
  refine k_true ?_
  refine k_sr ?_
  refine sp (.int .i64 19) ?_
  refine s_nt ?_
  refine k_ret ?_
  refine xs_retBlock ?_
  refine xs_ret ?_
  refine xs_mem (fun _ h => hp_shut (st := st) (n := (st.objs.length : Int)) ⟨⟨hi8, ha9, ht10⟩, rfl⟩ (h.re [0, 0, 0, 0] [])) ?_
  refine xs_mem (fun _ h => hpA_shut (h.re [0] [])) ?_
  refine xs_fin [.int .i64 19] (hpA b st :: F) (SI.tmp 4 SI.nil) (fun _ h => h.re [0] []) ⟨?_, ?_⟩
  · unfold hdropE halive; rw [hg11]; rfl
  · unfold hdrop halive; rw [hg11]; rfl
 ·
  refine s_lt (Lt.to (v' := ptrV q14.1) (t_lookup 1 intOk Try.underlying73 (.pointer none) id) (by rw [hq16]; rfl)) ?_
  refine sp (.bool false) ?_
  refine sp (.bool false) ?_
  refine s_nt ?_
  refine k_false ?_
  refine k_skip ?_
  refine xs_block ?_
  refine xs_then ?_
  refine k_sr ?_
  refine sp (pB b 0) ?_
  refine sp (pB b 0) ?_
  refine sp (pB b 0) ?_
  refine s_lt (t_load 0 (.map (some mb5))) ?_
  refine sp (.int .i64 id) ?_
  refine s_delete0 1 intOk Try.underlying73 id ?_
  refine s_mem (fun _ h => all_drop hnd0 hq16 ho15 (h.re [3] [])) ?_
  refine s_nr ?_
  refine sp (.int .i64 0) ?_
  refine s_nt ?_
  refine k_ret ?_
  refine xs_mem (fun _ h => hp_shut (st := (hdrop st id)) (n := (st.objs.length : Int)) ⟨⟨drop_inv hi8 id, HA.drop ha9 hnd0 hq16 ho15, TA.drop ht10 id⟩, by rw [drop_len.1]⟩ (h.re [1, 1, 1, 0] [])) ?_
  refine xs_mem (fun _ h => hpA_shut (h.re [0] [])) ?_
  refine xs_fin [.int .i64 0] (hpA b (hdrop st id) :: F) (SI.tmp 4 SI.nil) (fun _ h => h.re [0] []) ⟨?_, ?_⟩
  · unfold hdropE halive; rw [ho15]; rfl
  · rfl
theorem hcount_s {Z : Zone} {F : List Asr} {b : Nat} {st : Hst}   : SF Try.prog 36 #[.pointer (some ⟨b, 0, none⟩)] Z (hpA b st :: F) fun r Bs => r = .int .i64 (st.count : Int) ∧ Bs = hpA b st :: F := by
 refine sf_enter Try.func36 10 [(0, pB b 0)] (fun w0 => ?_)
 refine k_memX (fun H h => hpA_open (h.re [0] [])) (fun ps1 _ => ?_)
 refine k_fact (fun H h => hp_facts (h.re [0] [])) (fun hf2 => ?_)
 obtain ⟨hi3, ha4⟩ := hf2
 refine k_mem3 (fun H h => hp_open (h.re [0] [])) (fun mb5 tb6 tm7 hw => ?_)
 obtain ⟨hi8, ha9, ht10⟩ := hw
 refine k_sr ?_
 refine sp (.int .i64 0) ?_
 refine s_nt ?_
 refine k_seq ?_
 refine k_sr ?_
 refine sp (pB b 0) ?_
 refine sp (.bool false) ?_
 refine s_nt ?_
 refine k_false ?_
 refine k_st ?_
 refine k_sr ?_
 refine sp (pB b 0) ?_
 refine sp (pB b 0) ?_
 refine sp (pB b 0) ?_
 refine s_lt (t_load 0 (.map (some mb5))) ?_
 refine s_lt (t_lenM 1 Try.underlying73) ?_
 refine sp (.int .i64 (ps1.length : Int)) ?_
 refine s_nt ?_
 refine k_ret ?_
 refine xs_mem (fun _ h => hp_shut (st := st) (n := (st.objs.length : Int)) ⟨⟨hi8, ha9, ht10⟩, rfl⟩ (h.re [0, 0, 0, 0] [])) ?_
 refine xs_mem (fun _ h => hpA_shut (h.re [0] [])) ?_
 refine xs_fin [.int .i64 (ps1.length : Int)] (hpA b st :: F) (SI.tmp 2 SI.nil) (fun _ h => h.re [0] []) ⟨?_, ?_⟩
 · rw [← ha9.len]; rfl
 · rfl
end Go.Proofs.Ytmilekfknhglkaa
end
section
set_option linter.unusedSimpArgs false
set_option linter.unusedVariables false
namespace Go.Proofs.Ytmilekfknhglkaa
/-! ### What an object shows -/
end Go.Proofs.Ytmilekfknhglkaa
end
section
set_option linter.unusedSimpArgs false
set_option linter.unusedVariables false
namespace Go.S
open Go.Hp Go.J Go.RowKit Go.Maps
open Go.Mem (Ty KTy blk intK)
open Go.WideElems (Fit rd rg rd_mk rg_of)
open Go.WideShapes (sorted_perm)
section
variable {P : Program}
end
end Go.S
end
section
set_option linter.unusedVariables false
namespace Go.Proofs
open Go.Shelf
def Try.sortA_ren : Go.Shelf.Ren := ⟨fun | 5 => 71 | 8 => 83 | 7 => 82 | 19 => 95 | 20 => 96 | 10 => 86 | 11 => 87 | 12 => 88 | 13 => 89 | 14 => 90 | 15 => 91 | 16 => 92 | 17 => 93 | 18 => 94 | 30 => 97 | 31 => 98 | 32 => 99 | 33 => 100 | 34 => 101 | 35 => 102 | 40 => 103 | n => n, fun | 23 => 54 | 25 => 3 | 3 => 3 | 32 => 121 | 22 => 54 | 0 => 0 | 44 => 132 | 46 => 134 | 4 => 4 | 36 => 125 | 35 => 124 | 41 => 89 | 5 => 5 | 9 => 9 | 53 => 135 | 57 => 139 | 63 => 141 | 64 => 142 | n => n, fun | n => n⟩
theorem Try.sortA : Go.Proofs.SlLaysM.n5 Try.prog Try.sortA_ren := {
  mixed := by kernel_rfl
  f5 := ⟨Try.f71.name, by decide, Try.func71.trans (congrArg some (by kernel_rfl))⟩
  f7 := ⟨Try.f82.name, by decide, Try.func82.trans (congrArg some (by kernel_rfl))⟩
  f8 := Try.func83.trans (congrArg some (by kernel_rfl))
  f10 := ⟨Try.f86.name, by decide, Try.func86.trans (congrArg some (by kernel_rfl))⟩
  f11 := ⟨Try.f87.name, by decide, Try.func87.trans (congrArg some (by kernel_rfl))⟩
  f12 := ⟨Try.f88.name, by decide, Try.func88.trans (congrArg some (by kernel_rfl))⟩
  f13 := ⟨Try.f89.name, by decide, Try.func89.trans (congrArg some (by kernel_rfl))⟩
  f14 := ⟨Try.f90.name, by decide, Try.func90.trans (congrArg some (by kernel_rfl))⟩
  f15 := ⟨Try.f91.name, by decide, Try.func91.trans (congrArg some (by kernel_rfl))⟩
  f16 := ⟨Try.f92.name, by decide, Try.func92.trans (congrArg some (by kernel_rfl))⟩
  f17 := ⟨Try.f93.name, by decide, Try.func93.trans (congrArg some (by kernel_rfl))⟩
  f18 := ⟨Try.f94.name, by decide, Try.func94.trans (congrArg some (by kernel_rfl))⟩
  f19 := Try.func95.trans (congrArg some (by kernel_rfl))
  f20 := Try.func96.trans (congrArg some (by kernel_rfl))
  f30 := ⟨Try.f97.name, by decide, Try.func97.trans (congrArg some (by kernel_rfl))⟩
  f31 := Try.func98.trans (congrArg some (by kernel_rfl))
  f32 := Try.func99.trans (congrArg some (by kernel_rfl))
  f33 := ⟨Try.f100.name, by decide, Try.func100.trans (congrArg some (by kernel_rfl))⟩
  f34 := ⟨Try.f101.name, by decide, Try.func101.trans (congrArg some (by kernel_rfl))⟩
  f35 := ⟨Try.f102.name, by decide, Try.func102.trans (congrArg some (by kernel_rfl))⟩
  f40 := ⟨Try.f103.name, by decide, Try.func103.trans (congrArg some (by kernel_rfl))⟩
  t0 := Try.underlying0
  a0 := Try.isAgg0
  z0 := Try.sizeOf0
  v0 := Try.zeroValue0
  t3 := Try.underlying3
  a3 := Try.isAgg3
  z3 := Try.sizeOf3
  v3 := Try.zeroValue3
  t4 := Try.underlying4
  a4 := Try.isAgg4
  z4 := Try.sizeOf4
  v4 := Try.zeroValue4
  t5 := Try.underlying5
  a5 := Try.isAgg5
  z5 := Try.sizeOf5
  v5 := Try.zeroValue5
  t9 := Try.underlying9
  a9 := Try.isAgg9
  z9 := Try.sizeOf9
  v9 := Try.zeroValue9
  t22 := Try.underlying54
  a22 := Try.isAgg54
  z22 := Try.sizeOf54
  v22 := Try.zeroValue54
  t23 := Try.underlying54
  a23 := Try.isAgg54
  z23 := Try.sizeOf54
  v23 := Try.zeroValue54
  t25 := Try.underlying3
  a25 := Try.isAgg3
  z25 := Try.sizeOf3
  v25 := Try.zeroValue3
  t32 := Try.underlying121
  a32 := Try.isAgg121
  z32 := Try.sizeOf121
  v32 := Try.zeroValue121
  t35 := Try.underlying124
  a35 := Try.isAgg124
  z35 := Try.sizeOf124
  v35 := Try.zeroValue124
  t36 := Try.underlying125
  a36 := Try.isAgg125
  z36 := Try.sizeOf125
  v36 := Try.zeroValue125
  t41 := Try.underlying89
  a41 := Try.isAgg89
  z41 := Try.sizeOf89
  v41 := Try.zeroValue89
  t44 := Try.underlying132
  a44 := Try.isAgg132
  z44 := Try.sizeOf132
  v44 := Try.zeroValue132
  t46 := Try.underlying134
  a46 := Try.isAgg134
  z46 := Try.sizeOf134
  v46 := Try.zeroValue134
  t53 := Try.underlying135
  a53 := Try.isAgg135
  z53 := Try.sizeOf135
  v53 := Try.zeroValue135
  t57 := Try.underlying139
  a57 := Try.isAgg139
  z57 := Try.sizeOf139
  v57 := Try.zeroValue139
  t63 := Try.underlying141
  a63 := Try.isAgg141
  z63 := Try.sizeOf141
  v63 := Try.zeroValue141
  t64 := Try.underlying142
  a64 := Try.isAgg142
  z64 := Try.sizeOf142
  v64 := Try.zeroValue142 }
namespace Ytmilekfknhglkaa
open Go.Hp Go.J Go.S Go.RowKit Go.Maps Go.Sort
open Go.Mem (aget aset adel)
theorem sort_s {Z : Zone} {F : List Asr} {v : Value} {L : List Int} (hl : L.length < 4611686018427387904) : SF Try.prog 71 #[v] Z (own iTy v L :: F) fun r Bs => r = .tuple #[] ∧ Bs = own iTy v (srt L) :: F :=
  sf_sort hl (fun b off cap zs w h1 h2 h3 => AnyM.slices_Sort_int Try.sortA b off cap zs w h1 h2 h3) (fun p cap w => AnyM.slices_Sort_int_none Try.sortA p cap w)
end Ytmilekfknhglkaa
end Go.Proofs
end
section
set_option linter.unusedSimpArgs false
set_option linter.unusedVariables false
set_option maxRecDepth 100000
set_option maxHeartbeats 2000000
namespace Go.Proofs.Ytmilekfknhglkaa
open Go.Hp Go.J Go.S
open Go.Mem (Ty KTy blk elemAt pre suf blk_pre blk_suf aget aset strK aggDesc)
open Go.Mem (adel apos aget_aset aget_adel)
structure Ent where
  key : Int
  val : Int
  deriving DecidableEq
abbrev Ent.v (x : Ent) : Value := .agg #[.int .i64 x.key, .int .i64 x.val]
section
variable {Z : Zone} {F : List Asr} {H : Heap} {b : Nat} {st : Hst} {ps : List (Int × (Nat × Nat))} {id : Int} {q : Nat × Nat} {o : Hob}
theorem nodup_sub : ∀ (A B : List Int), A.Nodup → (∀ x ∈ A, x ∈ B) → A.length ≤ B.length
  | [], B, _, _ => Nat.zero_le _
  | a :: r, B, hn, h => by
    rw [List.nodup_cons] at hn
    have ha := h a (by simp)
    have h1 := nodup_sub r (B.erase a) hn.2 fun x hx => (List.mem_erase_of_ne (fun e => hn.1 (by rw [← e]; exact hx))).2 (h x (List.mem_cons_of_mem _ hx))
    rw [List.length_erase_of_mem ha] at h1
    have := List.length_pos_of_mem ha
    simp only [List.length_cons]; omega
theorem fl_len {dn : List (Int × Bool)} (hn : (dn.map Prod.fst).Nodup) : ((dn.map Prod.fst).filter fun id => (aget ps id).isSome).length ≤ ps.length := by
  have e0 : (ps.map Prod.fst).length = ps.length := by simp
  rw [← e0]
  refine nodup_sub _ _ (hn.filter _) fun x hx => ?_
  have h1 := (List.mem_filter.1 hx).2
  apply Decidable.byContradiction
  intro hc
  rw [(Go.Mem.aget_none_iff ps x).2 hc] at h1; cases h1
theorem nodup_snoc {dn : List (Int × Bool)} {k : Int} {u : Bool} (hn : (dn.map Prod.fst).Nodup) (hk : k ∉ dn.map Prod.fst) : ((dn ++ [(k, u)]).map Prod.fst).Nodup := by
  rw [List.map_append, List.nodup_append]
  refine ⟨hn, by simp, fun a ha b hb => ?_⟩
  simp at hb
  subst hb
  exact fun e => hk (e ▸ ha)
end
theorem halive0_s {Z : Zone} {F : List Asr} {b mb tb : Nat} {n : Value} {ps : List (Int × (Nat × Nat))} (id : Int) : SF Try.prog 31 #[.pointer (some ⟨b, 0, none⟩), .int .i64 id] Z (blkA b #[.map (some mb), n, .map (some tb)] 76 :: mpA iK oV mb ps :: F) fun r Bs => r = .bool (aget ps id).isSome ∧ Bs = blkA b #[.map (some mb), n, .map (some tb)] 76 :: mpA iK oV mb ps :: F := by
 refine sf_enter Try.func31 16 [(0, pB b 0), (1, .int .i64 id)] (fun w0 => ?_)
 refine k_sr ?_
 refine sp (.bool false) ?_
 refine s_nr ?_
 refine sp (pB b 0) ?_
 refine sp (.bool true) ?_
 refine sp (.bool true) ?_
 refine sp (pB b 0) ?_
 refine sp (pB b 0) ?_
 refine sp (pB b 0) ?_
 refine s_lt (t_load 0 (.map (some mb))) ?_
 refine sp (.int .i64 id) ?_
 rcases hq1 : aget ps id with _ | q2
 ·
  refine s_lt (Lt.to (v' := .pointer none) (t_lookup 1 intOk Try.underlying73 (.pointer none) id) (by rw [hq1]; rfl)) ?_
  refine sp (.bool false) ?_
  refine sp (.bool false) ?_
  refine sp (.bool false) ?_
  refine s_nt ?_
  refine k_ret ?_
  exact xs_fin [.bool false] (blkA b #[.map (some mb), n, .map (some tb)] 76 :: mpA iK oV mb ps :: F) (SI.tmp 4 SI.nil) (fun _ h => h.re [0, 0] []) ⟨by first | rfl | (rw [hq1]; rfl), rfl⟩
 ·
  refine s_lt (Lt.to (v' := ptrV q2.1) (t_lookup 1 intOk Try.underlying73 (.pointer none) id) (by rw [hq1]; rfl)) ?_
  refine sp (.bool true) ?_
  refine sp (.bool true) ?_
  refine sp (.bool true) ?_
  refine s_nt ?_
  refine k_ret ?_
  exact xs_fin [.bool true] (blkA b #[.map (some mb), n, .map (some tb)] 76 :: mpA iK oV mb ps :: F) (SI.tmp 4 SI.nil) (fun _ h => h.re [0, 0] []) ⟨by first | rfl | (rw [hq1]; rfl), rfl⟩
theorem htouched_s {Z : Zone} {F : List Asr} {b : Nat} {st : Hst} {n : Nat} (hsm : HSm n st) (hn : n ≤ 300) : SF Try.prog 35 #[.pointer (some ⟨b, 0, none⟩)] Z (hpA b st :: F) fun r Bs => Bs = own iTy r (htchd st) :: hpA b (huntch st) :: F := by
 refine sf_enter Try.func35 30 [(0, pB b 0)] (fun w0 => ?_)
 refine k_memX (fun H h => hpA_open (h.re [0] [])) (fun ps1 _ => ?_)
 refine k_fact (fun H h => hp_facts (h.re [0] [])) (fun hf2 => ?_)
 obtain ⟨hi3, ha4⟩ := hf2
 refine k_mem3 (fun H h => hp_open (h.re [0] [])) (fun mb5 tb6 tm7 hw => ?_)
 obtain ⟨hi8, ha9, ht10⟩ := hw
 refine k_fact (fun H h => (h.mp (i := 1) rfl).nodup) (fun hnd0 => ?_)
 refine k_fact (fun H h => (h.mp (i := 2) rfl).nodup) (fun hnd1 => ?_)
 refine k_sr ?_
 refine sp (.slice none 0 0) ?_
 refine s_nt ?_
 refine k_seq ?_
 refine k_sr ?_
 refine sp (pB b 0) ?_
 refine sp (.bool false) ?_
 refine s_nt ?_
 refine k_false ?_
 refine k_st ?_
 refine k_sr ?_
 refine sp (.slice none 0 0) ?_
 refine s_nt ?_
 refine k_seq ?_
 refine k_sr ?_
 refine sp (pB b 0) ?_
 refine sp (pB b 0) ?_
 refine sp (pB b 2) ?_
 refine s_lt (t_load 0 (.map (some tb6))) ?_
 refine s_range 2 Try.underlying74 (fun r11 => ?_)
 refine s_nt ?_
 refine k_block ?_
 refine k_mem (fun _ h => Holds.nilS (T := iTy) h) ?_
 refine k_mem (Bs := own iTy (.slice none 0 0) ((([] : List (Int × Bool)).map Prod.fst).filter fun id => (aget ps1 id).isSome) :: blkA b #[.map (some mb5), .int .i64 (st.objs.length : Int), .map (some tb6)] 76 :: mpA iK oV mb5 ps1 :: rgA iK bV tb6 r11 tm7 [] :: allP ps1 st :: F) (fun _ h => h) ?_
 refine k_loop (ι := Value × List (Int × Bool)) (fun (sx, dn) => (dn.map Prod.fst).Nodup) (fun (sx, dn) => [(0, pB b 0), (3, sx), (11, pB r11 0)]) (fun (sx, dn) => own iTy sx ((dn.map Prod.fst).filter fun id => (aget ps1 id).isSome) :: blkA b #[.map (some mb5), .int .i64 (st.objs.length : Int), .map (some tb6)] 76 :: mpA iK oV mb5 ps1 :: rgA iK bV tb6 r11 tm7 dn :: allP ps1 st :: F) (fun (sx, dn) => tm7.length - dn.length) ((.slice none 0 0), []) List.nodup_nil (sub_of rfl ⟨⟨rfl, rfl⟩, ⟨⟨rfl, rfl⟩, ⟨⟨rfl, rfl⟩, trivial⟩⟩⟩) (fun _ h => h.re [0, 0, 0, 0, 0] []) ?_
 rintro ⟨sx, dn⟩ hi12
 replace hi12 : (dn.map Prod.fst).Nodup := hi12
 show SK _ _ _ _ _ [(0, .pointer (some ⟨b, 0, none⟩)), (3, sx), (11, .pointer (some ⟨r11, 0, none⟩))] _ (own iTy sx ((dn.map Prod.fst).filter fun id => (aget ps1 id).isSome) :: blkA b #[.map (some mb5), .int .i64 (st.objs.length : Int), .map (some tb6)] 76 :: mpA iK oV mb5 ps1 :: rgA iK bV tb6 r11 tm7 dn :: allP ps1 st :: F)
 have hfn := fl_len (ps := ps1) hi12
 have hpl : ps1.length ≤ 300 := by have := ha9.len; have := count_le st; have := hsm.len; omega
 refine k_sr ?_
 refine s_next 3 (fun hd13 => ?_) (fun ky14 u15 hm16 hn17 hd18 => ?_)
 ·
  refine sp (.bool false) ?_
  refine s_nt ?_
  refine k_seq ?_
  refine k_false ?_
  refine k_exit ?_
  refine xs_mem (fun _ h => Holds.unrange 3 h) ?_
  refine xs_exit ?_
  refine xs_exit ?_
  refine xs_here ?_
  refine xs_then ?_
  refine k_sr ?_
  refine sp sx ?_
  refine s_call [0] (sort_s (L := ((dn.map Prod.fst).filter fun id => (aget ps1 id).isSome)) (by omega)) ?_
  rintro _ _ ⟨rfl, rfl⟩
  refine s_nr ?_
  refine sp (pB b 0) ?_
  refine sp (pB b 0) ?_
  refine sp (pB b 2) ?_
  refine s_lt (t_load 1 (.map (some tb6))) ?_
  refine s_clear0 3 Try.underlying74 ?_
  refine s_mem (Bs := own iTy sx (srt ((dn.map Prod.fst).filter fun id => (aget ps1 id).isSome)) :: blkA b #[.map (some mb5), .int .i64 (st.objs.length : Int), .map (some tb6)] 76 :: mpA iK oV mb5 ps1 :: mpA iK bV tb6 [] :: allP ps1 (huntch st) :: F) (fun _ h => h) ?_
  refine s_nr ?_
  refine sp sx ?_
  refine sp sx ?_
  refine s_nt ?_
  refine k_ret ?_
  refine xs_mem (fun _ h => hp_shut (st := (huntch st)) (n := (st.objs.length : Int)) ⟨⟨untch_inv hi8, ⟨ha9.has, ha9.len⟩, TA.untch st⟩, rfl⟩ (h.re [1, 1, 1, 1] [])) ?_
  refine xs_mem (fun _ h => hpA_shut (h.re [0] [])) ?_
  have hk : (srt ((dn.map Prod.fst).filter fun id => (aget ps1 id).isSome)) = htchd st := (srt_perm' ((hd13.map Prod.fst).filter _)).trans (by rw [← tch_srt ht10 hnd1]; congr 1; refine List.filter_congr fun x _ => ?_; exact ha9.has x)
  rw [hk]
  exact xs_fin [sx] (own iTy sx (htchd st) :: hpA b (huntch st) :: F) (SI.tmp 2 SI.nil) (fun _ h => h.re [1, 0] []) rfl
 ·
  refine sp (.bool true) ?_
  refine s_nt ?_
  refine k_seq ?_
  refine k_true ?_
  refine k_st ?_
  refine k_block ?_
  refine k_sr ?_
  refine s_lt (t_entry 3) ?_
  refine sp (.int .i64 ky14) ?_
  refine sp (.int .i64 ky14) ?_
  refine s_nr ?_
  refine sp (pB b 0) ?_
  refine sp (.int .i64 ky14) ?_
  refine s_call [1, 1] (halive0_s (ps := ps1) ky14) ?_
  rintro _ _ ⟨rfl, rfl⟩
  refine s_nt ?_
  refine k_cond ((aget ps1 ky14).isSome) (fun c19 => ?_) (fun c19 => ?_)
  ·
   refine k_reg ?_
   refine sp sx ?_
   refine sp (.int .i64 ky14) ?_
   refine s_buildSlice (e := 3) [(0, .int .i64 ky14)] #[.int .i64 ky14] (fun g20 => ?_) (hb := by kernel_rfl)
   refine s_append (L := ((dn.map Prod.fst).filter fun id => (aget ps1 id).isSome)) 3 iTy_ok Try.underlying54 (.lit 0 iTy_ok [ky14]) (by show _ * 8 ≤ _; (try simp only [lnm]); omega) (by (try simp only [lnm]); omega) (fun v21 => ?_)
   refine sp v21 ?_
   refine s_nil ?_
   refine xs_block ?_
   have hfl : (((dn.map Prod.fst).filter fun id => (aget ps1 id).isSome) ++ [ky14]) = (((dn ++ [(ky14, u15)]).map Prod.fst).filter fun id => (aget ps1 id).isSome) := by rw [List.map_append, List.filter_append, List.map_cons, List.map_nil]; show _ = _ ++ List.filter _ [ky14]; rw [List.filter_cons_of_pos (by exact c19)]; rfl
   refine xs_mem (Bs := blkA g20 #[.int .i64 ky14] 3 :: blkA b #[.map (some mb5), .int .i64 (st.objs.length : Int), .map (some tb6)] 76 :: mpA iK oV mb5 ps1 :: own iTy v21 (((dn ++ [(ky14, u15)]).map Prod.fst).filter fun id => (aget ps1 id).isSome) :: rgA iK bV tb6 r11 tm7 (dn ++ [(ky14, u15)]) :: allP ps1 st :: F) (fun _ h => by rw [hfl] at h; exact h) ?_
   exact xs_round (v21, dn ++ [(ky14, u15)]) (by show tm7.length - (dn ++ [(ky14, u15)]).length < tm7.length - dn.length; rw [List.length_append]; have := hd18; simp only [List.length_singleton]; omega) (nodup_snoc hi12 hn17) (sub_of rfl ⟨⟨rfl, rfl⟩, ⟨⟨rfl, rfl⟩, ⟨⟨rfl, rfl⟩, trivial⟩⟩⟩) (fun _ h => h.re [3, 1, 1, 1, 1] [5])
  ·
   refine k_skip ?_
   refine xs_block ?_
   have hfl : ((dn.map Prod.fst).filter fun id => (aget ps1 id).isSome) = (((dn ++ [(ky14, u15)]).map Prod.fst).filter fun id => (aget ps1 id).isSome) := by rw [List.map_append, List.filter_append, List.map_cons, List.map_nil]; show _ = _ ++ List.filter _ [ky14]; rw [List.filter_cons_of_neg (by rw [c19]; decide)]; simp
   refine xs_mem (Bs := blkA b #[.map (some mb5), .int .i64 (st.objs.length : Int), .map (some tb6)] 76 :: mpA iK oV mb5 ps1 :: own iTy sx (((dn ++ [(ky14, u15)]).map Prod.fst).filter fun id => (aget ps1 id).isSome) :: rgA iK bV tb6 r11 tm7 (dn ++ [(ky14, u15)]) :: allP ps1 st :: F) (fun _ h => by rw [hfl] at h; exact h) ?_
   exact xs_round (sx, dn ++ [(ky14, u15)]) (by show tm7.length - (dn ++ [(ky14, u15)]).length < tm7.length - dn.length; rw [List.length_append]; have := hd18; simp only [List.length_singleton]; omega) (nodup_snoc hi12 hn17) (sub_of rfl ⟨⟨rfl, rfl⟩, ⟨⟨rfl, rfl⟩, ⟨⟨rfl, rfl⟩, trivial⟩⟩⟩) (fun _ h => h.re [2, 0, 0, 0, 0] [])
end Go.Proofs.Ytmilekfknhglkaa
end
section
set_option linter.unusedSimpArgs false
set_option linter.unusedVariables false
set_option maxRecDepth 100000
set_option maxHeartbeats 2000000
namespace Go.Proofs.Ytmilekfknhglkaa
open Go.Hp Go.J Go.S
open Go.Mem (Ty KTy blk elemAt pre suf blk_pre blk_suf aget aset strK aggDesc)
open Go.Mem (adel apos aget_aset aget_adel)
end Go.Proofs.Ytmilekfknhglkaa
end
section
set_option linter.unusedSimpArgs false
set_option linter.unusedVariables false
namespace Go.Proofs.Ytmilekfknhglkaa
structure Sv where
  p : Option Addr
  len : Nat
  cap : Nat
abbrev Sv.v (s : Sv) : Value := .slice s.p s.len s.cap
/-- A call: its cells, and what its list holds. -/
structure Cl where
  kind : Int
  a : Vl
  b : Vl
  c : Vl
  n : Int
  s : ByteArray
  lv : Sv
  l : List Vl
structure Rs where
  v : Vl
  w : Vl
  n : Int
  s : ByteArray
  ok : Bool
  e : Int
  deriving DecidableEq
def hcall (st : Hst) (c : Cl) : Hst :=
  if c.kind = 0 then hmake st (newO 4 0 ByteArray.empty []) else
  if c.kind = 1 then hmake st (newO 5 c.n ByteArray.empty []) else
  if c.kind = 2 then hmake st (newO 7 c.n ByteArray.empty []) else
  if c.kind = 3 then hdata st c.s else
  if c.kind = 4 then st else
  if c.kind = 5 then hset st c.a c.b c.c else
  if c.kind = 6 then st else
  if c.kind = 7 then st else
  if c.kind = 8 then hins st c.a c.n c.c else
  if c.kind = 9 then hrem st c.a c.n else
  if c.kind = 10 then hsetMeta st c.a c.b else
  if c.kind = 11 then st else
  if c.kind = 12 then hsetSlot st c.a c.n c.c else
  if c.kind = 13 then hsetRefs st c.a c.l else
  if c.kind = 14 then hdrop st c.n else
  if c.kind = 15 then st else
  if c.kind = 16 then st else
  if c.kind = 17 then st else
  st
def hres (st : Hst) (c : Cl) : Rs :=
  if c.kind = 0 then ⟨hmakeV st 4, zVl, 0, ByteArray.empty, false, hmakeE st⟩ else
  if c.kind = 1 then ⟨hmakeV st 5, zVl, 0, ByteArray.empty, false, hmakeE st⟩ else
  if c.kind = 2 then ⟨hmakeV st 7, zVl, 0, ByteArray.empty, false, hmakeE st⟩ else
  if c.kind = 3 then ⟨hdataV st c.s, zVl, 0, ByteArray.empty, false, hdataE st c.s⟩ else
  if c.kind = 4 then ⟨hgetV st c.a c.b, zVl, 0, ByteArray.empty, false, hgetE st c.a⟩ else
  if c.kind = 5 then ⟨zVl, zVl, 0, ByteArray.empty, false, hsetE st c.a c.b c.c⟩ else
  if c.kind = 6 then ⟨zVl, zVl, hlenV st c.a, ByteArray.empty, false, hgetE st c.a⟩ else
  if c.kind = 7 then ⟨(hnext st c.a c.b).1, (hnext st c.a c.b).2.1, 0, ByteArray.empty, (hnext st c.a c.b).2.2.1, (hnext st c.a c.b).2.2.2⟩ else
  if c.kind = 8 then ⟨zVl, zVl, 0, ByteArray.empty, false, hinsE st c.a c.n c.c⟩ else
  if c.kind = 9 then ⟨hremV st c.a c.n, zVl, 0, ByteArray.empty, false, hremE st c.a c.n⟩ else
  if c.kind = 10 then ⟨zVl, zVl, 0, ByteArray.empty, false, hsetMetaE st c.a c.b⟩ else
  if c.kind = 11 then ⟨hslotV st c.a c.n, zVl, 0, ByteArray.empty, false, hslotE st c.a c.n⟩ else
  if c.kind = 12 then ⟨zVl, zVl, 0, ByteArray.empty, false, hsetSlotE st c.a c.n c.c⟩ else
  if c.kind = 13 then ⟨zVl, zVl, 0, ByteArray.empty, false, hsetRefsE st c.a c.l⟩ else
  if c.kind = 14 then ⟨zVl, zVl, 0, ByteArray.empty, false, hdropE st c.n⟩ else
  if c.kind = 15 then ⟨zVl, zVl, (htagV st c.a).1, ByteArray.empty, (htagV st c.a).2, 0⟩ else
  if c.kind = 16 then ⟨zVl, zVl, 0, (hnameV st c.a).1, (hnameV st c.a).2, 0⟩ else
  if c.kind = 17 then ⟨hmeta st c.a, zVl, 0, ByteArray.empty, false, 0⟩ else
  ⟨zVl, zVl, 0, ByteArray.empty, halive st c.n, 0⟩
section
variable {st : Hst} {c : Cl} {n : Nat}
theorem hdata_cases (st : Hst) (name : ByteArray) : (40 < (name.size : Int) ∧ hdata st name = st ∧ hdataE st name = 14 ∧ hdataV st name = zVl) ∨ (¬ 40 < (name.size : Int) ∧ hdata st name = hmake st (newO 8 0 name (List.replicate 16 zVl)) ∧ hdataE st name = hmakeE st ∧ hdataV st name = hmakeV st 8) := by
  unfold hdata hdataE hdataV
  by_cases h : 40 < (name.size : Int)
  · exact .inl ⟨h, if_pos h, if_pos h, if_pos h⟩
  · exact .inr ⟨h, if_neg h, if_neg h, if_neg h⟩
theorem hdata_inv' (h : HInv st) (name : ByteArray) : HInv (hdata st name) := by
  rcases hdata_cases st name with ⟨_, e, _⟩ | ⟨_, e, _⟩ <;> rw [e]
  · exact h
  · exact hmake_inv h (newO_inv _ _ _ (by decide))
theorem hdata_sm' (h : HSm n st) (name : ByteArray) : HSm (n + 1) (hdata st name) := by
  rcases hdata_cases st name with ⟨_, e, _⟩ | ⟨_, e, _⟩ <;> rw [e]
  · exact h.mono (by omega)
  · exact hmake_sm h rfl (by simp [newO])
theorem hdata_w (h : HW st) (name : ByteArray) : HW (hdata st name) := by
  rcases hdata_cases st name with ⟨_, e, _⟩ | ⟨_, e, _⟩ <;> rw [e]
  · exact h
  · exact h.make (data_w name)
theorem hcall_0 (h : c.kind = 0) : hcall st c = hmake st (newO 4 0 ByteArray.empty []) := by unfold hcall; rw [if_pos h]
theorem hres_0 (h : c.kind = 0) : hres st c = ⟨hmakeV st 4, zVl, 0, ByteArray.empty, false, hmakeE st⟩ := by unfold hres; rw [if_pos h]
theorem hcall_1 (h : c.kind = 1) : hcall st c = hmake st (newO 5 c.n ByteArray.empty []) := by unfold hcall; rw [if_neg (by omega), if_pos h]
theorem hres_1 (h : c.kind = 1) : hres st c = ⟨hmakeV st 5, zVl, 0, ByteArray.empty, false, hmakeE st⟩ := by unfold hres; rw [if_neg (by omega), if_pos h]
theorem hcall_2 (h : c.kind = 2) : hcall st c = hmake st (newO 7 c.n ByteArray.empty []) := by unfold hcall; rw [if_neg (by omega), if_neg (by omega), if_pos h]
theorem hres_2 (h : c.kind = 2) : hres st c = ⟨hmakeV st 7, zVl, 0, ByteArray.empty, false, hmakeE st⟩ := by unfold hres; rw [if_neg (by omega), if_neg (by omega), if_pos h]
theorem hcall_3 (h : c.kind = 3) : hcall st c = hdata st c.s := by unfold hcall; rw [if_neg (by omega), if_neg (by omega), if_neg (by omega), if_pos h]
theorem hres_3 (h : c.kind = 3) : hres st c = ⟨hdataV st c.s, zVl, 0, ByteArray.empty, false, hdataE st c.s⟩ := by unfold hres; rw [if_neg (by omega), if_neg (by omega), if_neg (by omega), if_pos h]
theorem hcall_4 (h : c.kind = 4) : hcall st c = st := by unfold hcall; rw [if_neg (by omega), if_neg (by omega), if_neg (by omega), if_neg (by omega), if_pos h]
theorem hres_4 (h : c.kind = 4) : hres st c = ⟨hgetV st c.a c.b, zVl, 0, ByteArray.empty, false, hgetE st c.a⟩ := by unfold hres; rw [if_neg (by omega), if_neg (by omega), if_neg (by omega), if_neg (by omega), if_pos h]
theorem hcall_5 (h : c.kind = 5) : hcall st c = hset st c.a c.b c.c := by unfold hcall; rw [if_neg (by omega), if_neg (by omega), if_neg (by omega), if_neg (by omega), if_neg (by omega), if_pos h]
theorem hres_5 (h : c.kind = 5) : hres st c = ⟨zVl, zVl, 0, ByteArray.empty, false, hsetE st c.a c.b c.c⟩ := by unfold hres; rw [if_neg (by omega), if_neg (by omega), if_neg (by omega), if_neg (by omega), if_neg (by omega), if_pos h]
theorem hcall_6 (h : c.kind = 6) : hcall st c = st := by unfold hcall; rw [if_neg (by omega), if_neg (by omega), if_neg (by omega), if_neg (by omega), if_neg (by omega), if_neg (by omega), if_pos h]
theorem hres_6 (h : c.kind = 6) : hres st c = ⟨zVl, zVl, hlenV st c.a, ByteArray.empty, false, hgetE st c.a⟩ := by unfold hres; rw [if_neg (by omega), if_neg (by omega), if_neg (by omega), if_neg (by omega), if_neg (by omega), if_neg (by omega), if_pos h]
theorem hcall_7 (h : c.kind = 7) : hcall st c = st := by unfold hcall; rw [if_neg (by omega), if_neg (by omega), if_neg (by omega), if_neg (by omega), if_neg (by omega), if_neg (by omega), if_neg (by omega), if_pos h]
theorem hres_7 (h : c.kind = 7) : hres st c = ⟨(hnext st c.a c.b).1, (hnext st c.a c.b).2.1, 0, ByteArray.empty, (hnext st c.a c.b).2.2.1, (hnext st c.a c.b).2.2.2⟩ := by unfold hres; rw [if_neg (by omega), if_neg (by omega), if_neg (by omega), if_neg (by omega), if_neg (by omega), if_neg (by omega), if_neg (by omega), if_pos h]
theorem hcall_8 (h : c.kind = 8) : hcall st c = hins st c.a c.n c.c := by unfold hcall; rw [if_neg (by omega), if_neg (by omega), if_neg (by omega), if_neg (by omega), if_neg (by omega), if_neg (by omega), if_neg (by omega), if_neg (by omega), if_pos h]
theorem hres_8 (h : c.kind = 8) : hres st c = ⟨zVl, zVl, 0, ByteArray.empty, false, hinsE st c.a c.n c.c⟩ := by unfold hres; rw [if_neg (by omega), if_neg (by omega), if_neg (by omega), if_neg (by omega), if_neg (by omega), if_neg (by omega), if_neg (by omega), if_neg (by omega), if_pos h]
theorem hcall_9 (h : c.kind = 9) : hcall st c = hrem st c.a c.n := by unfold hcall; rw [if_neg (by omega), if_neg (by omega), if_neg (by omega), if_neg (by omega), if_neg (by omega), if_neg (by omega), if_neg (by omega), if_neg (by omega), if_neg (by omega), if_pos h]
theorem hres_9 (h : c.kind = 9) : hres st c = ⟨hremV st c.a c.n, zVl, 0, ByteArray.empty, false, hremE st c.a c.n⟩ := by unfold hres; rw [if_neg (by omega), if_neg (by omega), if_neg (by omega), if_neg (by omega), if_neg (by omega), if_neg (by omega), if_neg (by omega), if_neg (by omega), if_neg (by omega), if_pos h]
theorem hcall_10 (h : c.kind = 10) : hcall st c = hsetMeta st c.a c.b := by unfold hcall; rw [if_neg (by omega), if_neg (by omega), if_neg (by omega), if_neg (by omega), if_neg (by omega), if_neg (by omega), if_neg (by omega), if_neg (by omega), if_neg (by omega), if_neg (by omega), if_pos h]
theorem hres_10 (h : c.kind = 10) : hres st c = ⟨zVl, zVl, 0, ByteArray.empty, false, hsetMetaE st c.a c.b⟩ := by unfold hres; rw [if_neg (by omega), if_neg (by omega), if_neg (by omega), if_neg (by omega), if_neg (by omega), if_neg (by omega), if_neg (by omega), if_neg (by omega), if_neg (by omega), if_neg (by omega), if_pos h]
theorem hcall_11 (h : c.kind = 11) : hcall st c = st := by unfold hcall; rw [if_neg (by omega), if_neg (by omega), if_neg (by omega), if_neg (by omega), if_neg (by omega), if_neg (by omega), if_neg (by omega), if_neg (by omega), if_neg (by omega), if_neg (by omega), if_neg (by omega), if_pos h]
theorem hres_11 (h : c.kind = 11) : hres st c = ⟨hslotV st c.a c.n, zVl, 0, ByteArray.empty, false, hslotE st c.a c.n⟩ := by unfold hres; rw [if_neg (by omega), if_neg (by omega), if_neg (by omega), if_neg (by omega), if_neg (by omega), if_neg (by omega), if_neg (by omega), if_neg (by omega), if_neg (by omega), if_neg (by omega), if_neg (by omega), if_pos h]
theorem hcall_12 (h : c.kind = 12) : hcall st c = hsetSlot st c.a c.n c.c := by unfold hcall; rw [if_neg (by omega), if_neg (by omega), if_neg (by omega), if_neg (by omega), if_neg (by omega), if_neg (by omega), if_neg (by omega), if_neg (by omega), if_neg (by omega), if_neg (by omega), if_neg (by omega), if_neg (by omega), if_pos h]
theorem hres_12 (h : c.kind = 12) : hres st c = ⟨zVl, zVl, 0, ByteArray.empty, false, hsetSlotE st c.a c.n c.c⟩ := by unfold hres; rw [if_neg (by omega), if_neg (by omega), if_neg (by omega), if_neg (by omega), if_neg (by omega), if_neg (by omega), if_neg (by omega), if_neg (by omega), if_neg (by omega), if_neg (by omega), if_neg (by omega), if_neg (by omega), if_pos h]
theorem hcall_13 (h : c.kind = 13) : hcall st c = hsetRefs st c.a c.l := by unfold hcall; rw [if_neg (by omega), if_neg (by omega), if_neg (by omega), if_neg (by omega), if_neg (by omega), if_neg (by omega), if_neg (by omega), if_neg (by omega), if_neg (by omega), if_neg (by omega), if_neg (by omega), if_neg (by omega), if_neg (by omega), if_pos h]
theorem hres_13 (h : c.kind = 13) : hres st c = ⟨zVl, zVl, 0, ByteArray.empty, false, hsetRefsE st c.a c.l⟩ := by unfold hres; rw [if_neg (by omega), if_neg (by omega), if_neg (by omega), if_neg (by omega), if_neg (by omega), if_neg (by omega), if_neg (by omega), if_neg (by omega), if_neg (by omega), if_neg (by omega), if_neg (by omega), if_neg (by omega), if_neg (by omega), if_pos h]
theorem hcall_14 (h : c.kind = 14) : hcall st c = hdrop st c.n := by unfold hcall; rw [if_neg (by omega), if_neg (by omega), if_neg (by omega), if_neg (by omega), if_neg (by omega), if_neg (by omega), if_neg (by omega), if_neg (by omega), if_neg (by omega), if_neg (by omega), if_neg (by omega), if_neg (by omega), if_neg (by omega), if_neg (by omega), if_pos h]
theorem hres_14 (h : c.kind = 14) : hres st c = ⟨zVl, zVl, 0, ByteArray.empty, false, hdropE st c.n⟩ := by unfold hres; rw [if_neg (by omega), if_neg (by omega), if_neg (by omega), if_neg (by omega), if_neg (by omega), if_neg (by omega), if_neg (by omega), if_neg (by omega), if_neg (by omega), if_neg (by omega), if_neg (by omega), if_neg (by omega), if_neg (by omega), if_neg (by omega), if_pos h]
theorem hcall_15 (h : c.kind = 15) : hcall st c = st := by unfold hcall; rw [if_neg (by omega), if_neg (by omega), if_neg (by omega), if_neg (by omega), if_neg (by omega), if_neg (by omega), if_neg (by omega), if_neg (by omega), if_neg (by omega), if_neg (by omega), if_neg (by omega), if_neg (by omega), if_neg (by omega), if_neg (by omega), if_neg (by omega), if_pos h]
theorem hres_15 (h : c.kind = 15) : hres st c = ⟨zVl, zVl, (htagV st c.a).1, ByteArray.empty, (htagV st c.a).2, 0⟩ := by unfold hres; rw [if_neg (by omega), if_neg (by omega), if_neg (by omega), if_neg (by omega), if_neg (by omega), if_neg (by omega), if_neg (by omega), if_neg (by omega), if_neg (by omega), if_neg (by omega), if_neg (by omega), if_neg (by omega), if_neg (by omega), if_neg (by omega), if_neg (by omega), if_pos h]
theorem hcall_16 (h : c.kind = 16) : hcall st c = st := by unfold hcall; rw [if_neg (by omega), if_neg (by omega), if_neg (by omega), if_neg (by omega), if_neg (by omega), if_neg (by omega), if_neg (by omega), if_neg (by omega), if_neg (by omega), if_neg (by omega), if_neg (by omega), if_neg (by omega), if_neg (by omega), if_neg (by omega), if_neg (by omega), if_neg (by omega), if_pos h]
theorem hres_16 (h : c.kind = 16) : hres st c = ⟨zVl, zVl, 0, (hnameV st c.a).1, (hnameV st c.a).2, 0⟩ := by unfold hres; rw [if_neg (by omega), if_neg (by omega), if_neg (by omega), if_neg (by omega), if_neg (by omega), if_neg (by omega), if_neg (by omega), if_neg (by omega), if_neg (by omega), if_neg (by omega), if_neg (by omega), if_neg (by omega), if_neg (by omega), if_neg (by omega), if_neg (by omega), if_neg (by omega), if_pos h]
theorem hcall_17 (h : c.kind = 17) : hcall st c = st := by unfold hcall; rw [if_neg (by omega), if_neg (by omega), if_neg (by omega), if_neg (by omega), if_neg (by omega), if_neg (by omega), if_neg (by omega), if_neg (by omega), if_neg (by omega), if_neg (by omega), if_neg (by omega), if_neg (by omega), if_neg (by omega), if_neg (by omega), if_neg (by omega), if_neg (by omega), if_neg (by omega), if_pos h]
theorem hres_17 (h : c.kind = 17) : hres st c = ⟨hmeta st c.a, zVl, 0, ByteArray.empty, false, 0⟩ := by unfold hres; rw [if_neg (by omega), if_neg (by omega), if_neg (by omega), if_neg (by omega), if_neg (by omega), if_neg (by omega), if_neg (by omega), if_neg (by omega), if_neg (by omega), if_neg (by omega), if_neg (by omega), if_neg (by omega), if_neg (by omega), if_neg (by omega), if_neg (by omega), if_neg (by omega), if_neg (by omega), if_pos h]
theorem hcall_x (h : c.kind < 0 ∨ 17 < c.kind) : hcall st c = st := by unfold hcall; rw [if_neg (by omega), if_neg (by omega), if_neg (by omega), if_neg (by omega), if_neg (by omega), if_neg (by omega), if_neg (by omega), if_neg (by omega), if_neg (by omega), if_neg (by omega), if_neg (by omega), if_neg (by omega), if_neg (by omega), if_neg (by omega), if_neg (by omega), if_neg (by omega), if_neg (by omega), if_neg (by omega)]
theorem hres_x (h : c.kind < 0 ∨ 17 < c.kind) : hres st c = ⟨zVl, zVl, 0, ByteArray.empty, halive st c.n, 0⟩ := by unfold hres; rw [if_neg (by omega), if_neg (by omega), if_neg (by omega), if_neg (by omega), if_neg (by omega), if_neg (by omega), if_neg (by omega), if_neg (by omega), if_neg (by omega), if_neg (by omega), if_neg (by omega), if_neg (by omega), if_neg (by omega), if_neg (by omega), if_neg (by omega), if_neg (by omega), if_neg (by omega), if_neg (by omega)]
theorem kinds (c : Cl) : c.kind = 0 ∨ c.kind = 1 ∨ c.kind = 2 ∨ c.kind = 3 ∨ c.kind = 4 ∨ c.kind = 5 ∨ c.kind = 6 ∨ c.kind = 7 ∨ c.kind = 8 ∨ c.kind = 9 ∨ c.kind = 10 ∨ c.kind = 11 ∨ c.kind = 12 ∨ c.kind = 13 ∨ c.kind = 14 ∨ c.kind = 15 ∨ c.kind = 16 ∨ c.kind = 17 ∨ (c.kind < 0 ∨ 17 < c.kind) := by omega
theorem hcall_inv (h : HInv st) (c : Cl) : HInv (hcall st c) := by
  rcases kinds c with hk | hk | hk | hk | hk | hk | hk | hk | hk | hk | hk | hk | hk | hk | hk | hk | hk | hk | hk
  · rw [hcall_0 hk]; exact hmake_inv h (newO_inv _ _ _ (by decide))
  · rw [hcall_1 hk]; exact hmake_inv h (newO_inv _ _ _ (by decide))
  · rw [hcall_2 hk]; exact hmake_inv h (newO_inv _ _ _ (by decide))
  · rw [hcall_3 hk]; exact hdata_inv' h _
  · rw [hcall_4 hk]; exact h
  · rw [hcall_5 hk]; exact hset_inv h _ _ _
  · rw [hcall_6 hk]; exact h
  · rw [hcall_7 hk]; exact h
  · rw [hcall_8 hk]; exact hins_inv h _ _ _
  · rw [hcall_9 hk]; exact hrem_inv h _ _
  · rw [hcall_10 hk]; exact hsetMeta_inv h _ _
  · rw [hcall_11 hk]; exact h
  · rw [hcall_12 hk]; exact setSlot_inv h _ _ _
  · rw [hcall_13 hk]; exact setRefs_inv h _ _
  · rw [hcall_14 hk]; exact drop_inv h _
  · rw [hcall_15 hk]; exact h
  · rw [hcall_16 hk]; exact h
  · rw [hcall_17 hk]; exact h
  · rw [hcall_x hk]; exact h
theorem hcall_sm (hi : HInv st) (h : HSm n st) (c : Cl) (hl : c.l.length ≤ 20) : HSm (n + 1) (hcall st c) := by
  rcases kinds c with hk | hk | hk | hk | hk | hk | hk | hk | hk | hk | hk | hk | hk | hk | hk | hk | hk | hk | hk
  · rw [hcall_0 hk]; exact hmake_sm h rfl (by simp [newO])
  · rw [hcall_1 hk]; exact hmake_sm h rfl (by simp [newO])
  · rw [hcall_2 hk]; exact hmake_sm h rfl (by simp [newO])
  · rw [hcall_3 hk]; exact hdata_sm' h _
  · rw [hcall_4 hk]; exact h.mono (by omega)
  · rw [hcall_5 hk]; exact hset_sm hi h _ _ _
  · rw [hcall_6 hk]; exact h.mono (by omega)
  · rw [hcall_7 hk]; exact h.mono (by omega)
  · rw [hcall_8 hk]; exact hins_sm hi h _ _ _
  · rw [hcall_9 hk]; exact hrem_sm hi h _ _
  · rw [hcall_10 hk]; exact hsetMeta_sm h _ _
  · rw [hcall_11 hk]; exact h.mono (by omega)
  · rw [hcall_12 hk]; exact setSlot_sm h _ _ _
  · rw [hcall_13 hk]; exact setRefs_sm h _ hl
  · rw [hcall_14 hk]; exact drop_sm h _
  · rw [hcall_15 hk]; exact h.mono (by omega)
  · rw [hcall_16 hk]; exact h.mono (by omega)
  · rw [hcall_17 hk]; exact h.mono (by omega)
  · rw [hcall_x hk]; exact h.mono (by omega)
theorem hcall_w (hi : HInv st) (h : HW st) (c : Cl) : HW (hcall st c) := by
  rcases kinds c with hk | hk | hk | hk | hk | hk | hk | hk | hk | hk | hk | hk | hk | hk | hk | hk | hk | hk | hk
  · rw [hcall_0 hk]; exact h.make (newO_w _ _ _ (fun _ hv => (by cases hv)) (fun h8 => by cases h8))
  · rw [hcall_1 hk]; exact h.make (newO_w _ _ _ (fun _ hv => (by cases hv)) (fun h8 => by cases h8))
  · rw [hcall_2 hk]; exact h.make (newO_w _ _ _ (fun _ hv => (by cases hv)) (fun h8 => by cases h8))
  · rw [hcall_3 hk]; exact hdata_w h _
  · rw [hcall_4 hk]; exact h
  · rw [hcall_5 hk]; exact HW.set hi h _ _ _
  · rw [hcall_6 hk]; exact h
  · rw [hcall_7 hk]; exact h
  · rw [hcall_8 hk]; exact hins_w hi h _ _ _
  · rw [hcall_9 hk]; exact hrem_w hi h _ _
  · rw [hcall_10 hk]; exact setMeta_w h _ _
  · rw [hcall_11 hk]; exact h
  · rw [hcall_12 hk]; exact setSlot_w h _ _ _
  · rw [hcall_13 hk]; exact setRefs_w h _ _
  · rw [hcall_14 hk]; exact drop_w h _
  · rw [hcall_15 hk]; exact h
  · rw [hcall_16 hk]; exact h
  · rw [hcall_17 hk]; exact h
  · rw [hcall_x hk]; exact h
/-- A call that creates an object. -/
def news (st : Hst) (c : Cl) : Prop := 0 ≤ c.kind ∧ c.kind ≤ 3 ∧ (hres st c).e = 0
/-- The heap behind the first calls. -/
def hrun (l : List Cl) : Nat → Hst
  | 0 => hp0
  | i + 1 => match l[i]? with
    | some c => hcall (hrun l i) c
    | none => hrun l i
theorem hrun_succ {l : List Cl} {i : Nat} {y : Cl} (h : l[i]? = some y) : hrun l (i + 1) = hcall (hrun l i) y := by rw [hrun, h]
theorem hrun_good {l : List Cl} (hl : ∀ x ∈ l, x.l.length ≤ 20) : ∀ i, HInv (hrun l i) ∧ HSm i (hrun l i) ∧ HW (hrun l i)
  | 0 => ⟨HInv.nil, HSm.nil, HW.nil⟩
  | i + 1 => by
    obtain ⟨h1, h2, h3⟩ := hrun_good hl i
    rw [hrun]
    cases hc : l[i]? with
    | none => exact ⟨h1, h2.mono (by omega), h3⟩
    | some c => exact ⟨hcall_inv h1 c, hcall_sm h1 h2 c (hl c (List.mem_of_getElem? hc)), hcall_w h1 h3 c⟩
end
end Go.Proofs.Ytmilekfknhglkaa
end
