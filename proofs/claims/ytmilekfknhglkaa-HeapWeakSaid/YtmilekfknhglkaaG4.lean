/-
  Tables of the program: what follows a key, sizes, insertion, removal. Each law says its conditions.
-/
import Derived.Test.YtmilekfknhglkaaG3
import Derived.Test.YtmilekfknhglkaaG2
import Derived.Shelf.Sort.Plain
import Derived.Lib.SlKeysI
import Derived.Shelf.SlIterI.Nil
import Derived.Shelf.SortM.Plain
import Derived.Shelf.SortM.SortNone
import Derived.Ground.GgzProg
import Derived.Ground.SlgmProg
section
set_option linter.unusedSimpArgs false
set_option linter.unusedVariables false
set_option maxRecDepth 100000
set_option maxHeartbeats 2000000
namespace Go.Proofs.Ytmilekfknhglkaa
open Go.Hp Go.J Go.S
open Go.Mem (Ty KTy blk elemAt pre suf blk_pre blk_suf aget aset strK aggDesc)
open Go.Mem (adel apos aget_aset aget_adel)
theorem tbafter_s {Z : Zone} {F : List Asr} {b : Nat} {L : List Vl} {S : List Slt} (hl : L.length ≤ 100000) (hs : S.length ≤ 100000) (x : Int) (hx0 : 0 ≤ x) (hx1 : x ≤ L.length) : SF Try.prog 49 #[.pointer (some ⟨b, 0, none⟩), .int .i64 x] Z (tbA b L S :: F) fun r Bs => r = nextV (tafter ⟨L, S⟩ x.toNat) ∧ Bs = tbA b L S :: F := by
 refine sf_enter Try.func49 48 [(0, pB b 0), (1, .int .i64 x)] (fun w0 => ?_)
 refine k_sr ?_
 refine s_alloc (.agg #[.int .i64 0, .int .i64 0, .int .i64 0, .string ByteArray.empty, .int .i64 0]) #[.int .i64 0, .int .i64 0, .int .i64 0, .string ByteArray.empty, .int .i64 0] (fun g1 => ?_)
 refine s_alloc (.agg #[.int .i64 0, .int .i64 0, .int .i64 0, .string ByteArray.empty, .int .i64 0]) #[.int .i64 0, .int .i64 0, .int .i64 0, .string ByteArray.empty, .int .i64 0] (fun g2 => ?_)
 refine sp (.bool false) ?_
 refine sp (.int .i64 0) ?_
 refine s_nt ?_
 refine k_seq ?_
 refine k_sr ?_
 refine sp (.int .i64 x) ?_
 refine sp (.int .i64 x) ?_
 refine s_nt ?_
 refine k_block ?_
 refine k_loop (ι := Nat) (fun i => x.toNat ≤ i ∧ i ≤ L.length ∧ seek (L.drop i) i = seek (L.drop x.toNat) x.toNat) (fun i => [(0, pB b 0), (4, pB g1 0), (5, pB g2 0), (8, .int .i64 (i : Int))]) (fun i => blkA g2 #[.int .i64 0, .int .i64 0, .int .i64 0, .string ByteArray.empty, .int .i64 0] 26 :: blkA g1 #[.int .i64 0, .int .i64 0, .int .i64 0, .string ByteArray.empty, .int .i64 0] 26 :: tbA b L S :: F) (fun i => L.length - i) x.toNat ⟨by omega, by omega, rfl⟩ (sub_of rfl ⟨⟨rfl, rfl⟩, ⟨⟨rfl, rfl⟩, ⟨⟨rfl, rfl⟩, ⟨⟨rfl, congrArg (Value.int .i64) (by omega)⟩, trivial⟩⟩⟩⟩) (fun _ h => h.re [0, 0, 0] []) ?_
 rintro i hi3
 show SK _ _ _ _ _ [(0, .pointer (some ⟨b, 0, none⟩)), (4, .pointer (some ⟨g1, 0, none⟩)), (5, .pointer (some ⟨g2, 0, none⟩)), (8, .int .i64 (i : Int))] _ (blkA g2 #[.int .i64 0, .int .i64 0, .int .i64 0, .string ByteArray.empty, .int .i64 0] 26 :: blkA g1 #[.int .i64 0, .int .i64 0, .int .i64 0, .string ByteArray.empty, .int .i64 0] 26 :: tbA b L S :: F)
 refine k_seq ?_
 refine k_sr ?_
 refine sp (.int .i64 (i : Int)) ?_
 refine sp (pB b 0) ?_
 refine sp (pB b 0) ?_
 refine sp (pB b 0) ?_
 refine s_mem2 (fun H h => tb_open (h.re [2] [])) (fun lv4 r5 hw => ?_)
 refine s_lt (t_load 0 lv4) ?_
 refine s_lt (t_len VlT_ok Try.underlying22 (.own 1)) ?_
 refine s_lt t_cmp ?_
 refine s_nt ?_
 refine k_cond (decide ((i : Int) < (L.length : Int))) (fun c6 => ?_) (fun c6 => ?_)
 ·
  have p7 := of_decide_eq_true c6
  refine k_st ?_
  refine k_seq ?_
  refine k_block ?_
  refine k_sr ?_
  refine sp (pB b 0) ?_
  refine sp (pB b 0) ?_
  refine sp (pB b 0) ?_
  refine s_lt (t_load 0 lv4) ?_
  refine sp (.int .i64 (i : Int)) ?_
  refine s_lt (t_index VlT_ok Try.underlying22 (.own 1) (i : Int) i (by omega) (by (try simp only [lnm]); omega) (by omega)) ?_
  refine sp (.pointer (some (elemAt VlT.size lv4 i))) ?_
  obtain ⟨y8, hy9⟩ : ∃ y, L[i]? = some y := ⟨_, List.getElem?_eq_getElem (by (try simp only [lnm]); omega)⟩
  refine s_lt (t_loadF 0 VlT_ok (.own 1) hy9) ?_
  refine s_lt t_cmp ?_
  refine s_nt ?_
  refine k_cond (decide (y8.kind ≠ 0)) (fun c10 => ?_) (fun c10 => ?_)
  ·
   have p11 := of_decide_eq_true c10
   refine k_seq ?_
   refine k_held [blkA b #[lv4, pB r5 0] 80, own VlT lv4 L] ?_
   refine hp_ 0 [0, 0] (.int .i64 (i : Int)) ?_
   refine h_l 1 rfl [0, 0] (fun _ => (t_add (i : Int) 1 (by (try simp only [lnm]); omega))) ?_
   refine hp_ 3 [0, 0] (pB b 0) ?_
   refine hp_ 4 [0, 0] (pB b 0) ?_
   refine hp_ 5 [0, 0] (pB b 0) ?_
   refine h_l 6 rfl [0, 0] (fun _ => (t_load 0 lv4)) ?_
   refine hp_ 7 [0, 0] (.int .i64 (i : Int)) ?_
   refine h_l 8 rfl [0, 0] (fun _ => (t_index VlT_ok Try.underlying22 (.own 1) (i : Int) i (by omega) (by (try simp only [lnm]); omega) (by omega))) ?_
   refine h_l 9 rfl [0, 0] (fun _ => (t_loadE VlT_ok (.own 1) hy9)) ?_
   refine h_stepS 2 ?_
   refine s_vcall (fun _ h => ofint_s ((i : Int) + 1)) ?_
   rintro _ rfl
   refine s_nil (xs_held [0, 0] ?_)
   refine h_stepS 10 ?_
   refine s_store 4 #[.int .i64 ((ofI ((i : Int) + 1)).kind), .int .i64 ((ofI ((i : Int) + 1)).p), .int .i64 ((ofI ((i : Int) + 1)).q), .string ((ofI ((i : Int) + 1)).str), .int .i64 ((ofI ((i : Int) + 1)).ref)] ?_
   refine s_nil (xs_held [0, 0] ?_)
   refine h_stepS 11 ?_
   refine s_store 3 #[.int .i64 y8.kind, .int .i64 y8.p, .int .i64 y8.q, .string y8.str, .int .i64 y8.ref] ?_
   refine s_nil (xs_held [0, 0] ?_)
   refine hp_ 12 [0, 0] (.bool true) ?_
   refine hp_ 13 [0, 0] (.int .i64 0) ?_
   refine h_doneS ?_
   refine xs_then ?_
   refine k_ret ?_
   refine xs_retBlock ?_
   refine xs_ret ?_
   refine xs_ret ?_
   refine xs_retBlock ?_
   refine xs_ret ?_
   refine xs_mem (fun _ h => tb_shut (h.re [0, 0, 0] [])) ?_
   have hp : tafter ⟨L, S⟩ x.toNat = (ofI ((i : Int) + 1), y8, true, 0) := after_found (T := ⟨L, S⟩) hi3.2.2 hy9 (of_decide_eq_true c10)
   refine xs_fin [.agg #[.int .i64 ((ofI ((i : Int) + 1)).kind), .int .i64 ((ofI ((i : Int) + 1)).p), .int .i64 ((ofI ((i : Int) + 1)).q), .string ((ofI ((i : Int) + 1)).str), .int .i64 ((ofI ((i : Int) + 1)).ref)], .agg #[.int .i64 y8.kind, .int .i64 y8.p, .int .i64 y8.q, .string y8.str, .int .i64 y8.ref], .bool true, .int .i64 0] (tbA b L S :: F) (SI.agg 4 26 2 (SI.agg 5 26 1 (SI.tmp 6 (SI.tmp 7 SI.nil)))) (fun _ h => h.re [0] [1, 1]) ⟨?_, rfl⟩
   rw [hp]; rfl
  ·
   have p12 := Decidable.not_not.1 (of_decide_eq_false c10)
   refine k_skip ?_
   refine xs_block ?_
   refine xs_then ?_
   refine k_reg ?_
   refine sp (.int .i64 (i : Int)) ?_
   refine s_lt (t_add (i : Int) 1 (by (try simp only [lnm]); omega)) ?_
   refine sp (.int .i64 ((i : Int) + 1)) ?_
   refine s_nil ?_
   refine xs_mem (fun _ h => tb_shut (h.re [0, 0, 0] [])) ?_
   exact xs_round (i + 1) (by omega) ⟨by omega, by omega, seek_step hi3.2.2 hy9 (of_decide_eq_false c10)⟩ (sub_of rfl ⟨⟨rfl, rfl⟩, ⟨⟨rfl, rfl⟩, ⟨⟨rfl, rfl⟩, ⟨⟨rfl, rfl⟩, trivial⟩⟩⟩⟩) (fun _ h => h.re [1, 1, 0] [])
 ·
  have p13 := of_decide_eq_false c6
  refine k_exit ?_
  refine xs_exit ?_
  refine xs_exit ?_
  refine xs_here ?_
  refine xs_then ?_
  refine k_sr ?_
  refine sp (pB b 0) ?_
  refine sp (pB b 0) ?_
  refine sp (pB b 1) ?_
  refine s_lt (t_load 0 (pB r5 0)) ?_
  refine s_lt (t_kern (.agg #[.int .i64 0, .int .i64 0, .int .i64 0, .string ByteArray.empty, .int .i64 0])) ?_
  refine s_call [2] (omnext_s (S := S) (by (try simp only [lnm]); omega) zVl) ?_
  rintro _ _ ⟨rfl, rfl⟩
  refine sp (.agg #[.int .i64 (((onext S zVl).1).kind), .int .i64 (((onext S zVl).1).p), .int .i64 (((onext S zVl).1).q), .string (((onext S zVl).1).str), .int .i64 (((onext S zVl).1).ref)]) ?_
  refine sp (.agg #[.int .i64 (((onext S zVl).2.1).kind), .int .i64 (((onext S zVl).2.1).p), .int .i64 (((onext S zVl).2.1).q), .string (((onext S zVl).2.1).str), .int .i64 (((onext S zVl).2.1).ref)]) ?_
  refine sp (.bool ((onext S zVl).2.2.1)) ?_
  refine sp (.int .i64 ((onext S zVl).2.2.2)) ?_
  refine s_store 4 #[.int .i64 (((onext S zVl).1).kind), .int .i64 (((onext S zVl).1).p), .int .i64 (((onext S zVl).1).q), .string (((onext S zVl).1).str), .int .i64 (((onext S zVl).1).ref)] ?_
  refine s_store 3 #[.int .i64 (((onext S zVl).2.1).kind), .int .i64 (((onext S zVl).2.1).p), .int .i64 (((onext S zVl).2.1).q), .string (((onext S zVl).2.1).str), .int .i64 (((onext S zVl).2.1).ref)] ?_
  refine sp (.bool ((onext S zVl).2.2.1)) ?_
  refine sp (.int .i64 ((onext S zVl).2.2.2)) ?_
  refine s_nt ?_
  refine k_ret ?_
  refine xs_mem (fun _ h => tb_shut (h.re [1, 1, 0] [])) ?_
  have hp : tafter ⟨L, S⟩ x.toNat = onext S zVl := after_none (T := ⟨L, S⟩) hi3.2.2 (by show L.length ≤ i; omega)
  refine xs_fin [.agg #[.int .i64 (((onext S zVl).1).kind), .int .i64 (((onext S zVl).1).p), .int .i64 (((onext S zVl).1).q), .string (((onext S zVl).1).str), .int .i64 (((onext S zVl).1).ref)], .agg #[.int .i64 (((onext S zVl).2.1).kind), .int .i64 (((onext S zVl).2.1).p), .int .i64 (((onext S zVl).2.1).q), .string (((onext S zVl).2.1).str), .int .i64 (((onext S zVl).2.1).ref)], .bool ((onext S zVl).2.2.1), .int .i64 ((onext S zVl).2.2.2)] (tbA b L S :: F) (SI.agg 4 26 2 (SI.agg 5 26 1 (SI.tmp 6 (SI.tmp 7 SI.nil)))) (fun _ h => h.re [0] [1, 1]) ⟨?_, rfl⟩
  rw [hp]; rfl
theorem tbnext_s {Z : Zone} {F : List Asr} {b : Nat} {L : List Vl} {S : List Slt} (hl : L.length ≤ 100000) (hs : S.length ≤ 100000) (k : Vl) : SF Try.prog 17 #[.pointer (some ⟨b, 0, none⟩), k.v] Z (tbA b L S :: F) fun r Bs => r = nextV (tnext ⟨L, S⟩ k) ∧ Bs = tbA b L S :: F := by
 refine sf_enter Try.func17 89 [(0, pB b 0), (1, .agg #[.int .i64 k.kind, .int .i64 k.p, .int .i64 k.q, .string k.str, .int .i64 k.ref])] (fun w0 => ?_)
 refine k_sr ?_
 refine s_box #[.int .i64 k.kind, .int .i64 k.p, .int .i64 k.q, .string k.str, .int .i64 k.ref] (fun g1 => ?_)
 refine s_alloc (.agg #[.int .i64 0, .int .i64 0, .int .i64 0, .string ByteArray.empty, .int .i64 0]) #[.int .i64 0, .int .i64 0, .int .i64 0, .string ByteArray.empty, .int .i64 0] (fun g2 => ?_)
 refine s_alloc (.agg #[.int .i64 0, .int .i64 0, .int .i64 0, .string ByteArray.empty, .int .i64 0]) #[.int .i64 0, .int .i64 0, .int .i64 0, .string ByteArray.empty, .int .i64 0] (fun g3 => ?_)
 refine sp (.bool false) ?_
 refine sp (.int .i64 0) ?_
 refine s_nt ?_
 refine k_seq ?_
 refine k_sr ?_
 refine sp (pB b 0) ?_
 refine sp (.bool false) ?_
 refine s_nt ?_
 refine k_false ?_
 refine k_st ?_
 refine k_seq ?_
 refine k_sr ?_
 refine s_lt (t_loadA 2 #[.int .i64 k.kind, .int .i64 k.p, .int .i64 k.q, .string k.str, .int .i64 k.ref]) ?_
 refine s_lt (t_kern (.agg #[.int .i64 0, .int .i64 0, .int .i64 0, .string ByteArray.empty, .int .i64 0])) ?_
 refine s_lt (t_eqS (fun w => (eqVlT k zVl w).1)) ?_
 refine s_nt ?_
 refine k_cond (decide (k = zVl)) (fun c4 => ?_) (fun c4 => ?_)
 ·
  have p5 := of_decide_eq_true c4
  refine k_sr ?_
  refine sp (pB b 0) ?_
  refine s_call [3] (tbafter_s (L := L) (S := S) (by (try simp only [lnm]); omega) (by (try simp only [lnm]); omega) 0 (by omega) (by (try simp only [lnm]); omega)) ?_
  rintro _ _ ⟨rfl, rfl⟩
  refine sp (.agg #[.int .i64 (((tafter ⟨L, S⟩ (0 : Int).toNat).1).kind), .int .i64 (((tafter ⟨L, S⟩ (0 : Int).toNat).1).p), .int .i64 (((tafter ⟨L, S⟩ (0 : Int).toNat).1).q), .string (((tafter ⟨L, S⟩ (0 : Int).toNat).1).str), .int .i64 (((tafter ⟨L, S⟩ (0 : Int).toNat).1).ref)]) ?_
  refine sp (.agg #[.int .i64 (((tafter ⟨L, S⟩ (0 : Int).toNat).2.1).kind), .int .i64 (((tafter ⟨L, S⟩ (0 : Int).toNat).2.1).p), .int .i64 (((tafter ⟨L, S⟩ (0 : Int).toNat).2.1).q), .string (((tafter ⟨L, S⟩ (0 : Int).toNat).2.1).str), .int .i64 (((tafter ⟨L, S⟩ (0 : Int).toNat).2.1).ref)]) ?_
  refine sp (.bool ((tafter ⟨L, S⟩ (0 : Int).toNat).2.2.1)) ?_
  refine sp (.int .i64 ((tafter ⟨L, S⟩ (0 : Int).toNat).2.2.2)) ?_
  refine s_store 2 #[.int .i64 (((tafter ⟨L, S⟩ (0 : Int).toNat).1).kind), .int .i64 (((tafter ⟨L, S⟩ (0 : Int).toNat).1).p), .int .i64 (((tafter ⟨L, S⟩ (0 : Int).toNat).1).q), .string (((tafter ⟨L, S⟩ (0 : Int).toNat).1).str), .int .i64 (((tafter ⟨L, S⟩ (0 : Int).toNat).1).ref)] ?_
  refine s_store 1 #[.int .i64 (((tafter ⟨L, S⟩ (0 : Int).toNat).2.1).kind), .int .i64 (((tafter ⟨L, S⟩ (0 : Int).toNat).2.1).p), .int .i64 (((tafter ⟨L, S⟩ (0 : Int).toNat).2.1).q), .string (((tafter ⟨L, S⟩ (0 : Int).toNat).2.1).str), .int .i64 (((tafter ⟨L, S⟩ (0 : Int).toNat).2.1).ref)] ?_
  refine sp (.bool ((tafter ⟨L, S⟩ (0 : Int).toNat).2.2.1)) ?_
  refine sp (.int .i64 ((tafter ⟨L, S⟩ (0 : Int).toNat).2.2.2)) ?_
  refine s_nt ?_
  refine k_ret ?_
  refine xs_ret ?_
  have hp : tnext ⟨L, S⟩ k = tafter ⟨L, S⟩ 0 := by rw [of_decide_eq_true c4]; exact tnext_nil
  refine xs_fin [.agg #[.int .i64 (((tafter ⟨L, S⟩ (0 : Int).toNat).1).kind), .int .i64 (((tafter ⟨L, S⟩ (0 : Int).toNat).1).p), .int .i64 (((tafter ⟨L, S⟩ (0 : Int).toNat).1).q), .string (((tafter ⟨L, S⟩ (0 : Int).toNat).1).str), .int .i64 (((tafter ⟨L, S⟩ (0 : Int).toNat).1).ref)], .agg #[.int .i64 (((tafter ⟨L, S⟩ (0 : Int).toNat).2.1).kind), .int .i64 (((tafter ⟨L, S⟩ (0 : Int).toNat).2.1).p), .int .i64 (((tafter ⟨L, S⟩ (0 : Int).toNat).2.1).q), .string (((tafter ⟨L, S⟩ (0 : Int).toNat).2.1).str), .int .i64 (((tafter ⟨L, S⟩ (0 : Int).toNat).2.1).ref)], .bool ((tafter ⟨L, S⟩ (0 : Int).toNat).2.2.1), .int .i64 ((tafter ⟨L, S⟩ (0 : Int).toNat).2.2.2)] (tbA b L S :: F) (SI.agg 4 26 2 (SI.agg 5 26 1 (SI.tmp 6 (SI.tmp 7 SI.nil)))) (fun _ h => h.re [0] [1, 1, 1]) ⟨?_, rfl⟩
  rw [hp]; rfl
 ·
  have p6 := of_decide_eq_false c4
  refine k_st ?_
  refine k_sr ?_
  refine s_lt (t_loadA 2 #[.int .i64 k.kind, .int .i64 k.p, .int .i64 k.q, .string k.str, .int .i64 k.ref]) ?_
  refine s_vcall (fun _ h => integer_s k) ?_
  rintro u7 e8
  rcases int_cases k with ⟨hi9, hp10, hv11⟩ | ⟨hi12, hw13⟩
  ·
   rw [hi9, hp10] at e8; subst e8
   refine sp (.tuple #[.int .i64 (whole k), .bool true]) ?_
   refine sp (.int .i64 (whole k)) ?_
   refine sp (.bool true) ?_
   refine sp (.int .i64 (whole k)) ?_
   refine sp (.bool true) ?_
   refine s_nt ?_
   refine k_seq ?_
   refine k_sr ?_
   refine sp (.bool true) ?_
   refine sp (.bool true) ?_
   refine sp (.int .i64 (whole k)) ?_
   refine s_lt t_cmp ?_
   refine sp (.bool (decide ((1 : Int) ≤ (whole k)))) ?_
   refine sp (.bool (decide ((1 : Int) ≤ (whole k)))) ?_
   refine s_fork 37 (decide ((1 : Int) ≤ (whole k))) (fun c14 => ?_) (fun c14 => ?_)
   ·
    have p15 := of_decide_eq_true c14
    refine sp (.int .i64 (whole k)) ?_
    refine sp (pB b 0) ?_
    refine sp (pB b 0) ?_
    refine sp (pB b 0) ?_
    refine s_mem2 (fun H h => tb_open (h.re [3] [])) (fun lv16 r17 hw => ?_)
    refine s_lt (t_load 0 lv16) ?_
    refine s_lt (t_len VlT_ok Try.underlying22 (.own 1)) ?_
    refine s_lt t_cmp ?_
    refine sp (.bool (decide ((whole k) ≤ (L.length : Int)))) ?_
    refine s_nt ?_
    refine k_cond (decide ((whole k) ≤ (L.length : Int))) (fun c18 => ?_) (fun c18 => ?_)
    ·
     have p19 := of_decide_eq_true c18
     refine k_sr ?_
     refine sp (pB b 0) ?_
     refine sp (.int .i64 (whole k)) ?_
     refine s_mem (fun _ h => tb_shut (h.re [0, 0, 0] [])) ?_
     refine s_call [0] (tbafter_s (L := L) (S := S) (by (try simp only [lnm]); omega) (by (try simp only [lnm]); omega) (whole k) (by omega) (by (try simp only [lnm]); omega)) ?_
     rintro _ _ ⟨rfl, rfl⟩
     refine sp (.agg #[.int .i64 (((tafter ⟨L, S⟩ ((whole k) : Int).toNat).1).kind), .int .i64 (((tafter ⟨L, S⟩ ((whole k) : Int).toNat).1).p), .int .i64 (((tafter ⟨L, S⟩ ((whole k) : Int).toNat).1).q), .string (((tafter ⟨L, S⟩ ((whole k) : Int).toNat).1).str), .int .i64 (((tafter ⟨L, S⟩ ((whole k) : Int).toNat).1).ref)]) ?_
     refine sp (.agg #[.int .i64 (((tafter ⟨L, S⟩ ((whole k) : Int).toNat).2.1).kind), .int .i64 (((tafter ⟨L, S⟩ ((whole k) : Int).toNat).2.1).p), .int .i64 (((tafter ⟨L, S⟩ ((whole k) : Int).toNat).2.1).q), .string (((tafter ⟨L, S⟩ ((whole k) : Int).toNat).2.1).str), .int .i64 (((tafter ⟨L, S⟩ ((whole k) : Int).toNat).2.1).ref)]) ?_
     refine sp (.bool ((tafter ⟨L, S⟩ ((whole k) : Int).toNat).2.2.1)) ?_
     refine sp (.int .i64 ((tafter ⟨L, S⟩ ((whole k) : Int).toNat).2.2.2)) ?_
     refine s_store 2 #[.int .i64 (((tafter ⟨L, S⟩ ((whole k) : Int).toNat).1).kind), .int .i64 (((tafter ⟨L, S⟩ ((whole k) : Int).toNat).1).p), .int .i64 (((tafter ⟨L, S⟩ ((whole k) : Int).toNat).1).q), .string (((tafter ⟨L, S⟩ ((whole k) : Int).toNat).1).str), .int .i64 (((tafter ⟨L, S⟩ ((whole k) : Int).toNat).1).ref)] ?_
     refine s_store 1 #[.int .i64 (((tafter ⟨L, S⟩ ((whole k) : Int).toNat).2.1).kind), .int .i64 (((tafter ⟨L, S⟩ ((whole k) : Int).toNat).2.1).p), .int .i64 (((tafter ⟨L, S⟩ ((whole k) : Int).toNat).2.1).q), .string (((tafter ⟨L, S⟩ ((whole k) : Int).toNat).2.1).str), .int .i64 (((tafter ⟨L, S⟩ ((whole k) : Int).toNat).2.1).ref)] ?_
     refine sp (.bool ((tafter ⟨L, S⟩ ((whole k) : Int).toNat).2.2.1)) ?_
     refine sp (.int .i64 ((tafter ⟨L, S⟩ ((whole k) : Int).toNat).2.2.2)) ?_
     refine s_nt ?_
     refine k_ret ?_
     refine xs_ret ?_
     have hz : k ≠ zVl := of_decide_eq_false c4
     have hp : tnext ⟨L, S⟩ k = tafter ⟨L, S⟩ (whole k).toNat := tnext_in hz (by omega) (by show _ ≤ (L.length : Int); omega)
     refine xs_fin [.agg #[.int .i64 (((tafter ⟨L, S⟩ ((whole k) : Int).toNat).1).kind), .int .i64 (((tafter ⟨L, S⟩ ((whole k) : Int).toNat).1).p), .int .i64 (((tafter ⟨L, S⟩ ((whole k) : Int).toNat).1).q), .string (((tafter ⟨L, S⟩ ((whole k) : Int).toNat).1).str), .int .i64 (((tafter ⟨L, S⟩ ((whole k) : Int).toNat).1).ref)], .agg #[.int .i64 (((tafter ⟨L, S⟩ ((whole k) : Int).toNat).2.1).kind), .int .i64 (((tafter ⟨L, S⟩ ((whole k) : Int).toNat).2.1).p), .int .i64 (((tafter ⟨L, S⟩ ((whole k) : Int).toNat).2.1).q), .string (((tafter ⟨L, S⟩ ((whole k) : Int).toNat).2.1).str), .int .i64 (((tafter ⟨L, S⟩ ((whole k) : Int).toNat).2.1).ref)], .bool ((tafter ⟨L, S⟩ ((whole k) : Int).toNat).2.2.1), .int .i64 ((tafter ⟨L, S⟩ ((whole k) : Int).toNat).2.2.2)] (tbA b L S :: F) (SI.agg 4 26 2 (SI.agg 5 26 1 (SI.tmp 6 (SI.tmp 7 SI.nil)))) (fun _ h => h.re [0] [1, 1, 1]) ⟨?_, rfl⟩
     rw [hp]; rfl
    ·
     have p20 := of_decide_eq_false c18
     refine k_st ?_
     refine k_cut (ι := Nat × Nat) (fun _ => True) (fun (jb10, jb11) => [(0, pB b 0), (4, pB g2 0), (5, pB g3 0), (8, .int .i64 (whole k)), (9, .bool true), (10, pB jb10 0), (11, pB jb11 0), (12, .bool ((onext S k).2.2.1)), (13, .int .i64 ((onext S k).2.2.2))]) (fun (jb10, jb11) => blkA jb10 #[.int .i64 (((onext S k).1).kind), .int .i64 (((onext S k).1).p), .int .i64 (((onext S k).1).q), .string (((onext S k).1).str), .int .i64 (((onext S k).1).ref)] 26 :: blkA jb11 #[.int .i64 (((onext S k).2.1).kind), .int .i64 (((onext S k).2.1).p), .int .i64 (((onext S k).2.1).q), .string (((onext S k).2.1).str), .int .i64 (((onext S k).2.1).ref)] 26 :: blkA b #[lv16, pB r17 0] 80 :: own VlT lv16 L :: omA r17 S :: blkA g3 #[.int .i64 0, .int .i64 0, .int .i64 0, .string ByteArray.empty, .int .i64 0] 26 :: blkA g2 #[.int .i64 0, .int .i64 0, .int .i64 0, .string ByteArray.empty, .int .i64 0] 26 :: blkA g1 #[.int .i64 k.kind, .int .i64 k.p, .int .i64 k.q, .string k.str, .int .i64 k.ref] 26 :: F) ?_ (fun ix _ => ?_)
     ·
      refine k_held [blkA b #[lv16, pB r17 0] 80, own VlT lv16 L, blkA g3 #[.int .i64 0, .int .i64 0, .int .i64 0, .string ByteArray.empty, .int .i64 0] 26, blkA g2 #[.int .i64 0, .int .i64 0, .int .i64 0, .string ByteArray.empty, .int .i64 0] 26, blkA g1 #[.int .i64 k.kind, .int .i64 k.p, .int .i64 k.q, .string k.str, .int .i64 k.ref] 26] ?_
      refine hp_ 0 [0, 0, 1, 1, 1] (pB b 0) ?_
      refine hp_ 1 [0, 0, 1, 1, 1] (pB b 0) ?_
      refine hp_ 2 [0, 0, 1, 1, 1] (pB b 1) ?_
      refine h_l 3 rfl [0, 0, 1, 1, 1] (fun _ => (t_load 0 (pB r17 0))) ?_
      refine h_l 4 rfl [0, 0, 1, 1, 1] (fun _ => (t_loadA 4 #[.int .i64 k.kind, .int .i64 k.p, .int .i64 k.q, .string k.str, .int .i64 k.ref])) ?_
      refine h_stepS3 5 11 12 ?_ ?_ ?_
      ·
       refine s_call [2] (omnext_s (S := S) (by (try simp only [lnm]); omega) k) ?_
       rintro _ _ ⟨rfl, rfl⟩
       refine s_nil (xs_held [1, 1, 1, 1, 1] ?_)
       refine hp_ 6 [1, 1, 1, 1, 1] (.tuple #[.agg #[.int .i64 (((onext S k).1).kind), .int .i64 (((onext S k).1).p), .int .i64 (((onext S k).1).q), .string (((onext S k).1).str), .int .i64 (((onext S k).1).ref)], .agg #[.int .i64 (((onext S k).2.1).kind), .int .i64 (((onext S k).2.1).p), .int .i64 (((onext S k).2.1).q), .string (((onext S k).2.1).str), .int .i64 (((onext S k).2.1).ref)], .bool ((onext S k).2.2.1), .int .i64 ((onext S k).2.2.2)]) ?_
       refine hp_ 7 [1, 1, 1, 1, 1] (.agg #[.int .i64 (((onext S k).1).kind), .int .i64 (((onext S k).1).p), .int .i64 (((onext S k).1).q), .string (((onext S k).1).str), .int .i64 (((onext S k).1).ref)]) ?_
       refine hp_ 8 [1, 1, 1, 1, 1] (.agg #[.int .i64 (((onext S k).2.1).kind), .int .i64 (((onext S k).2.1).p), .int .i64 (((onext S k).2.1).q), .string (((onext S k).2.1).str), .int .i64 (((onext S k).2.1).ref)]) ?_
       refine hp_ 9 [1, 1, 1, 1, 1] (.bool ((onext S k).2.2.1)) ?_
       refine hp_ 10 [1, 1, 1, 1, 1] (.int .i64 ((onext S k).2.2.2)) ?_
       refine h_stepS2 11 12 ?_ ?_
       ·
        refine s_alloc (.agg #[.int .i64 0, .int .i64 0, .int .i64 0, .string ByteArray.empty, .int .i64 0]) #[.int .i64 0, .int .i64 0, .int .i64 0, .string ByteArray.empty, .int .i64 0] (fun g21 => ?_)
        refine s_nil (xs_held [2, 2, 2, 2, 2] ?_)
        refine h_stepS 12 ?_
        refine s_alloc (.agg #[.int .i64 0, .int .i64 0, .int .i64 0, .string ByteArray.empty, .int .i64 0]) #[.int .i64 0, .int .i64 0, .int .i64 0, .string ByteArray.empty, .int .i64 0] (fun g22 => ?_)
        refine s_nil (xs_held [3, 3, 3, 3, 3] ?_)
        refine h_stepS 13 ?_
        refine s_store 1 #[.int .i64 (((onext S k).1).kind), .int .i64 (((onext S k).1).p), .int .i64 (((onext S k).1).q), .string (((onext S k).1).str), .int .i64 (((onext S k).1).ref)] ?_
        refine s_nil (xs_held [3, 3, 3, 3, 3] ?_)
        refine h_stepS 14 ?_
        refine s_store 0 #[.int .i64 (((onext S k).2.1).kind), .int .i64 (((onext S k).2.1).p), .int .i64 (((onext S k).2.1).q), .string (((onext S k).2.1).str), .int .i64 (((onext S k).2.1).ref)] ?_
        refine s_nil (xs_held [3, 3, 3, 3, 3] ?_)
        refine hp_ 15 [3, 3, 3, 3, 3] (.bool ((onext S k).2.2.1)) ?_
        refine hp_ 16 [3, 3, 3, 3, 3] (.int .i64 ((onext S k).2.2.2)) ?_
        refine h_doneS ?_
        exact xcut (g21, g22) (fun _ h => h.re [1, 0, 1, 1, 0, 0, 0, 0] [])
       ·
        refine s_alloc (.agg #[.int .i64 0, .int .i64 0, .int .i64 0, .string ByteArray.empty, .int .i64 0]) #[.int .i64 0, .int .i64 0, .int .i64 0, .string ByteArray.empty, .int .i64 0] (fun g23 => ?_)
        refine s_nil (xs_held [2, 2, 2, 2, 2] ?_)
        refine h_stepS 11 ?_
        refine s_alloc (.agg #[.int .i64 0, .int .i64 0, .int .i64 0, .string ByteArray.empty, .int .i64 0]) #[.int .i64 0, .int .i64 0, .int .i64 0, .string ByteArray.empty, .int .i64 0] (fun g24 => ?_)
        refine s_nil (xs_held [3, 3, 3, 3, 3] ?_)
        refine h_stepS 13 ?_
        refine s_store 0 #[.int .i64 (((onext S k).1).kind), .int .i64 (((onext S k).1).p), .int .i64 (((onext S k).1).q), .string (((onext S k).1).str), .int .i64 (((onext S k).1).ref)] ?_
        refine s_nil (xs_held [3, 3, 3, 3, 3] ?_)
        refine h_stepS 14 ?_
        refine s_store 1 #[.int .i64 (((onext S k).2.1).kind), .int .i64 (((onext S k).2.1).p), .int .i64 (((onext S k).2.1).q), .string (((onext S k).2.1).str), .int .i64 (((onext S k).2.1).ref)] ?_
        refine s_nil (xs_held [3, 3, 3, 3, 3] ?_)
        refine hp_ 15 [3, 3, 3, 3, 3] (.bool ((onext S k).2.2.1)) ?_
        refine hp_ 16 [3, 3, 3, 3, 3] (.int .i64 ((onext S k).2.2.2)) ?_
        refine h_doneS ?_
        exact xcut (g24, g23) (fun _ h => h.re [0, 0, 1, 1, 0, 0, 0, 0] [])
      ·
       refine s_alloc (.agg #[.int .i64 0, .int .i64 0, .int .i64 0, .string ByteArray.empty, .int .i64 0]) #[.int .i64 0, .int .i64 0, .int .i64 0, .string ByteArray.empty, .int .i64 0] (fun g25 => ?_)
       refine s_nil (xs_held [1, 1, 2, 2, 2] ?_)
       refine h_stepS2 5 12 ?_ ?_
       ·
        refine s_call [3] (omnext_s (S := S) (by (try simp only [lnm]); omega) k) ?_
        rintro _ _ ⟨rfl, rfl⟩
        refine s_nil (xs_held [2, 2, 2, 2, 2] ?_)
        refine hp_ 6 [2, 2, 2, 2, 2] (.tuple #[.agg #[.int .i64 (((onext S k).1).kind), .int .i64 (((onext S k).1).p), .int .i64 (((onext S k).1).q), .string (((onext S k).1).str), .int .i64 (((onext S k).1).ref)], .agg #[.int .i64 (((onext S k).2.1).kind), .int .i64 (((onext S k).2.1).p), .int .i64 (((onext S k).2.1).q), .string (((onext S k).2.1).str), .int .i64 (((onext S k).2.1).ref)], .bool ((onext S k).2.2.1), .int .i64 ((onext S k).2.2.2)]) ?_
        refine hp_ 7 [2, 2, 2, 2, 2] (.agg #[.int .i64 (((onext S k).1).kind), .int .i64 (((onext S k).1).p), .int .i64 (((onext S k).1).q), .string (((onext S k).1).str), .int .i64 (((onext S k).1).ref)]) ?_
        refine hp_ 8 [2, 2, 2, 2, 2] (.agg #[.int .i64 (((onext S k).2.1).kind), .int .i64 (((onext S k).2.1).p), .int .i64 (((onext S k).2.1).q), .string (((onext S k).2.1).str), .int .i64 (((onext S k).2.1).ref)]) ?_
        refine hp_ 9 [2, 2, 2, 2, 2] (.bool ((onext S k).2.2.1)) ?_
        refine hp_ 10 [2, 2, 2, 2, 2] (.int .i64 ((onext S k).2.2.2)) ?_
        refine h_stepS 12 ?_
        refine s_alloc (.agg #[.int .i64 0, .int .i64 0, .int .i64 0, .string ByteArray.empty, .int .i64 0]) #[.int .i64 0, .int .i64 0, .int .i64 0, .string ByteArray.empty, .int .i64 0] (fun g26 => ?_)
        refine s_nil (xs_held [3, 3, 3, 3, 3] ?_)
        refine h_stepS 13 ?_
        refine s_store 2 #[.int .i64 (((onext S k).1).kind), .int .i64 (((onext S k).1).p), .int .i64 (((onext S k).1).q), .string (((onext S k).1).str), .int .i64 (((onext S k).1).ref)] ?_
        refine s_nil (xs_held [3, 3, 3, 3, 3] ?_)
        refine h_stepS 14 ?_
        refine s_store 0 #[.int .i64 (((onext S k).2.1).kind), .int .i64 (((onext S k).2.1).p), .int .i64 (((onext S k).2.1).q), .string (((onext S k).2.1).str), .int .i64 (((onext S k).2.1).ref)] ?_
        refine s_nil (xs_held [3, 3, 3, 3, 3] ?_)
        refine hp_ 15 [3, 3, 3, 3, 3] (.bool ((onext S k).2.2.1)) ?_
        refine hp_ 16 [3, 3, 3, 3, 3] (.int .i64 ((onext S k).2.2.2)) ?_
        refine h_doneS ?_
        exact xcut (g25, g26) (fun _ h => h.re [2, 0, 1, 1, 0, 0, 0, 0] [])
       ·
        refine s_alloc (.agg #[.int .i64 0, .int .i64 0, .int .i64 0, .string ByteArray.empty, .int .i64 0]) #[.int .i64 0, .int .i64 0, .int .i64 0, .string ByteArray.empty, .int .i64 0] (fun g27 => ?_)
        refine s_nil (xs_held [2, 2, 3, 3, 3] ?_)
        refine h_stepS 5 ?_
        refine s_call [4] (omnext_s (S := S) (by (try simp only [lnm]); omega) k) ?_
        rintro _ _ ⟨rfl, rfl⟩
        refine s_nil (xs_held [3, 3, 3, 3, 3] ?_)
        refine hp_ 6 [3, 3, 3, 3, 3] (.tuple #[.agg #[.int .i64 (((onext S k).1).kind), .int .i64 (((onext S k).1).p), .int .i64 (((onext S k).1).q), .string (((onext S k).1).str), .int .i64 (((onext S k).1).ref)], .agg #[.int .i64 (((onext S k).2.1).kind), .int .i64 (((onext S k).2.1).p), .int .i64 (((onext S k).2.1).q), .string (((onext S k).2.1).str), .int .i64 (((onext S k).2.1).ref)], .bool ((onext S k).2.2.1), .int .i64 ((onext S k).2.2.2)]) ?_
        refine hp_ 7 [3, 3, 3, 3, 3] (.agg #[.int .i64 (((onext S k).1).kind), .int .i64 (((onext S k).1).p), .int .i64 (((onext S k).1).q), .string (((onext S k).1).str), .int .i64 (((onext S k).1).ref)]) ?_
        refine hp_ 8 [3, 3, 3, 3, 3] (.agg #[.int .i64 (((onext S k).2.1).kind), .int .i64 (((onext S k).2.1).p), .int .i64 (((onext S k).2.1).q), .string (((onext S k).2.1).str), .int .i64 (((onext S k).2.1).ref)]) ?_
        refine hp_ 9 [3, 3, 3, 3, 3] (.bool ((onext S k).2.2.1)) ?_
        refine hp_ 10 [3, 3, 3, 3, 3] (.int .i64 ((onext S k).2.2.2)) ?_
        refine h_stepS 13 ?_
        refine s_store 2 #[.int .i64 (((onext S k).1).kind), .int .i64 (((onext S k).1).p), .int .i64 (((onext S k).1).q), .string (((onext S k).1).str), .int .i64 (((onext S k).1).ref)] ?_
        refine s_nil (xs_held [3, 3, 3, 3, 3] ?_)
        refine h_stepS 14 ?_
        refine s_store 1 #[.int .i64 (((onext S k).2.1).kind), .int .i64 (((onext S k).2.1).p), .int .i64 (((onext S k).2.1).q), .string (((onext S k).2.1).str), .int .i64 (((onext S k).2.1).ref)] ?_
        refine s_nil (xs_held [3, 3, 3, 3, 3] ?_)
        refine hp_ 15 [3, 3, 3, 3, 3] (.bool ((onext S k).2.2.1)) ?_
        refine hp_ 16 [3, 3, 3, 3, 3] (.int .i64 ((onext S k).2.2.2)) ?_
        refine h_doneS ?_
        exact xcut (g25, g27) (fun _ h => h.re [2, 1, 1, 1, 0, 0, 0, 0] [])
      ·
       refine s_alloc (.agg #[.int .i64 0, .int .i64 0, .int .i64 0, .string ByteArray.empty, .int .i64 0]) #[.int .i64 0, .int .i64 0, .int .i64 0, .string ByteArray.empty, .int .i64 0] (fun g28 => ?_)
       refine s_nil (xs_held [1, 1, 2, 2, 2] ?_)
       refine h_stepS2 5 11 ?_ ?_
       ·
        refine s_call [3] (omnext_s (S := S) (by (try simp only [lnm]); omega) k) ?_
        rintro _ _ ⟨rfl, rfl⟩
        refine s_nil (xs_held [2, 2, 2, 2, 2] ?_)
        refine hp_ 6 [2, 2, 2, 2, 2] (.tuple #[.agg #[.int .i64 (((onext S k).1).kind), .int .i64 (((onext S k).1).p), .int .i64 (((onext S k).1).q), .string (((onext S k).1).str), .int .i64 (((onext S k).1).ref)], .agg #[.int .i64 (((onext S k).2.1).kind), .int .i64 (((onext S k).2.1).p), .int .i64 (((onext S k).2.1).q), .string (((onext S k).2.1).str), .int .i64 (((onext S k).2.1).ref)], .bool ((onext S k).2.2.1), .int .i64 ((onext S k).2.2.2)]) ?_
        refine hp_ 7 [2, 2, 2, 2, 2] (.agg #[.int .i64 (((onext S k).1).kind), .int .i64 (((onext S k).1).p), .int .i64 (((onext S k).1).q), .string (((onext S k).1).str), .int .i64 (((onext S k).1).ref)]) ?_
        refine hp_ 8 [2, 2, 2, 2, 2] (.agg #[.int .i64 (((onext S k).2.1).kind), .int .i64 (((onext S k).2.1).p), .int .i64 (((onext S k).2.1).q), .string (((onext S k).2.1).str), .int .i64 (((onext S k).2.1).ref)]) ?_
        refine hp_ 9 [2, 2, 2, 2, 2] (.bool ((onext S k).2.2.1)) ?_
        refine hp_ 10 [2, 2, 2, 2, 2] (.int .i64 ((onext S k).2.2.2)) ?_
        refine h_stepS 11 ?_
        refine s_alloc (.agg #[.int .i64 0, .int .i64 0, .int .i64 0, .string ByteArray.empty, .int .i64 0]) #[.int .i64 0, .int .i64 0, .int .i64 0, .string ByteArray.empty, .int .i64 0] (fun g29 => ?_)
        refine s_nil (xs_held [3, 3, 3, 3, 3] ?_)
        refine h_stepS 13 ?_
        refine s_store 0 #[.int .i64 (((onext S k).1).kind), .int .i64 (((onext S k).1).p), .int .i64 (((onext S k).1).q), .string (((onext S k).1).str), .int .i64 (((onext S k).1).ref)] ?_
        refine s_nil (xs_held [3, 3, 3, 3, 3] ?_)
        refine h_stepS 14 ?_
        refine s_store 2 #[.int .i64 (((onext S k).2.1).kind), .int .i64 (((onext S k).2.1).p), .int .i64 (((onext S k).2.1).q), .string (((onext S k).2.1).str), .int .i64 (((onext S k).2.1).ref)] ?_
        refine s_nil (xs_held [3, 3, 3, 3, 3] ?_)
        refine hp_ 15 [3, 3, 3, 3, 3] (.bool ((onext S k).2.2.1)) ?_
        refine hp_ 16 [3, 3, 3, 3, 3] (.int .i64 ((onext S k).2.2.2)) ?_
        refine h_doneS ?_
        exact xcut (g29, g28) (fun _ h => h.re [0, 1, 1, 1, 0, 0, 0, 0] [])
       ·
        refine s_alloc (.agg #[.int .i64 0, .int .i64 0, .int .i64 0, .string ByteArray.empty, .int .i64 0]) #[.int .i64 0, .int .i64 0, .int .i64 0, .string ByteArray.empty, .int .i64 0] (fun g30 => ?_)
        refine s_nil (xs_held [2, 2, 3, 3, 3] ?_)
        refine h_stepS 5 ?_
        refine s_call [4] (omnext_s (S := S) (by (try simp only [lnm]); omega) k) ?_
        rintro _ _ ⟨rfl, rfl⟩
        refine s_nil (xs_held [3, 3, 3, 3, 3] ?_)
        refine hp_ 6 [3, 3, 3, 3, 3] (.tuple #[.agg #[.int .i64 (((onext S k).1).kind), .int .i64 (((onext S k).1).p), .int .i64 (((onext S k).1).q), .string (((onext S k).1).str), .int .i64 (((onext S k).1).ref)], .agg #[.int .i64 (((onext S k).2.1).kind), .int .i64 (((onext S k).2.1).p), .int .i64 (((onext S k).2.1).q), .string (((onext S k).2.1).str), .int .i64 (((onext S k).2.1).ref)], .bool ((onext S k).2.2.1), .int .i64 ((onext S k).2.2.2)]) ?_
        refine hp_ 7 [3, 3, 3, 3, 3] (.agg #[.int .i64 (((onext S k).1).kind), .int .i64 (((onext S k).1).p), .int .i64 (((onext S k).1).q), .string (((onext S k).1).str), .int .i64 (((onext S k).1).ref)]) ?_
        refine hp_ 8 [3, 3, 3, 3, 3] (.agg #[.int .i64 (((onext S k).2.1).kind), .int .i64 (((onext S k).2.1).p), .int .i64 (((onext S k).2.1).q), .string (((onext S k).2.1).str), .int .i64 (((onext S k).2.1).ref)]) ?_
        refine hp_ 9 [3, 3, 3, 3, 3] (.bool ((onext S k).2.2.1)) ?_
        refine hp_ 10 [3, 3, 3, 3, 3] (.int .i64 ((onext S k).2.2.2)) ?_
        refine h_stepS 13 ?_
        refine s_store 1 #[.int .i64 (((onext S k).1).kind), .int .i64 (((onext S k).1).p), .int .i64 (((onext S k).1).q), .string (((onext S k).1).str), .int .i64 (((onext S k).1).ref)] ?_
        refine s_nil (xs_held [3, 3, 3, 3, 3] ?_)
        refine h_stepS 14 ?_
        refine s_store 2 #[.int .i64 (((onext S k).2.1).kind), .int .i64 (((onext S k).2.1).p), .int .i64 (((onext S k).2.1).q), .string (((onext S k).2.1).str), .int .i64 (((onext S k).2.1).ref)] ?_
        refine s_nil (xs_held [3, 3, 3, 3, 3] ?_)
        refine hp_ 15 [3, 3, 3, 3, 3] (.bool ((onext S k).2.2.1)) ?_
        refine hp_ 16 [3, 3, 3, 3, 3] (.int .i64 ((onext S k).2.2.2)) ?_
        refine h_doneS ?_
        exact xcut (g30, g28) (fun _ h => h.re [1, 1, 1, 1, 0, 0, 0, 0] [])
     ·
      obtain ⟨jb10, jb11⟩ := ix
      show SK _ _ _ _ _ [(0, .pointer (some ⟨b, 0, none⟩)), (4, .pointer (some ⟨g2, 0, none⟩)), (5, .pointer (some ⟨g3, 0, none⟩)), (8, .int .i64 (whole k)), (9, .bool true), (10, .pointer (some ⟨jb10, 0, none⟩)), (11, .pointer (some ⟨jb11, 0, none⟩)), (12, .bool ((onext S k).2.2.1)), (13, .int .i64 ((onext S k).2.2.2))] _ (blkA jb10 #[.int .i64 (((onext S k).1).kind), .int .i64 (((onext S k).1).p), .int .i64 (((onext S k).1).q), .string (((onext S k).1).str), .int .i64 (((onext S k).1).ref)] 26 :: blkA jb11 #[.int .i64 (((onext S k).2.1).kind), .int .i64 (((onext S k).2.1).p), .int .i64 (((onext S k).2.1).q), .string (((onext S k).2.1).str), .int .i64 (((onext S k).2.1).ref)] 26 :: blkA b #[lv16, .pointer (some ⟨r17, 0, none⟩)] 80 :: own VlT lv16 L :: omA r17 S :: blkA g3 #[.int .i64 0, .int .i64 0, .int .i64 0, .string ByteArray.empty, .int .i64 0] 26 :: blkA g2 #[.int .i64 0, .int .i64 0, .int .i64 0, .string ByteArray.empty, .int .i64 0] 26 :: blkA g1 #[.int .i64 k.kind, .int .i64 k.p, .int .i64 k.q, .string k.str, .int .i64 k.ref] 26 :: F)
      refine k_seq ?_
      refine k_block ?_
      refine k_sr ?_
      refine sp (.int .i64 ((onext S k).2.2.2)) ?_
      refine s_lt t_cmp ?_
      refine sp (.bool (decide ((onext S k).2.2.2 = 0))) ?_
      refine s_nt ?_
      refine k_cond (decide ((onext S k).2.2.2 = 0)) (fun c31 => ?_) (fun c31 => ?_)
      ·
       have p32 := of_decide_eq_true c31
       refine k_seq ?_
       refine k_held [blkA jb10 #[.int .i64 (((onext S k).1).kind), .int .i64 (((onext S k).1).p), .int .i64 (((onext S k).1).q), .string (((onext S k).1).str), .int .i64 (((onext S k).1).ref)] 26, blkA jb11 #[.int .i64 (((onext S k).2.1).kind), .int .i64 (((onext S k).2.1).p), .int .i64 (((onext S k).2.1).q), .string (((onext S k).2.1).str), .int .i64 (((onext S k).2.1).ref)] 26, blkA b #[lv16, pB r17 0] 80, own VlT lv16 L, blkA g1 #[.int .i64 k.kind, .int .i64 k.p, .int .i64 k.q, .string k.str, .int .i64 k.ref] 26] ?_
       refine h_l 0 rfl [0, 0, 0, 0, 3] (fun _ => (t_loadA 0 #[.int .i64 (((onext S k).1).kind), .int .i64 (((onext S k).1).p), .int .i64 (((onext S k).1).q), .string (((onext S k).1).str), .int .i64 (((onext S k).1).ref)])) ?_
       refine h_l 1 rfl [0, 0, 0, 0, 3] (fun _ => (t_loadA 1 #[.int .i64 (((onext S k).2.1).kind), .int .i64 (((onext S k).2.1).p), .int .i64 (((onext S k).2.1).q), .string (((onext S k).2.1).str), .int .i64 (((onext S k).2.1).ref)])) ?_
       refine hp_ 2 [0, 0, 0, 0, 3] (.bool ((onext S k).2.2.1)) ?_
       refine hp_ 3 [0, 0, 0, 0, 3] (.int .i64 ((onext S k).2.2.2)) ?_
       refine h_stepS 4 ?_
       refine s_store 6 #[.int .i64 (((onext S k).1).kind), .int .i64 (((onext S k).1).p), .int .i64 (((onext S k).1).q), .string (((onext S k).1).str), .int .i64 (((onext S k).1).ref)] ?_
       refine s_nil (xs_held [0, 0, 0, 0, 3] ?_)
       refine h_stepS 5 ?_
       refine s_store 5 #[.int .i64 (((onext S k).2.1).kind), .int .i64 (((onext S k).2.1).p), .int .i64 (((onext S k).2.1).q), .string (((onext S k).2.1).str), .int .i64 (((onext S k).2.1).ref)] ?_
       refine s_nil (xs_held [0, 0, 0, 0, 3] ?_)
       refine hp_ 6 [0, 0, 0, 0, 3] (.bool ((onext S k).2.2.1)) ?_
       refine hp_ 7 [0, 0, 0, 0, 3] (.int .i64 ((onext S k).2.2.2)) ?_
       refine h_doneS ?_
       refine xs_then ?_
       refine k_ret ?_
       refine xs_retBlock ?_
       refine xs_ret ?_
       refine xs_mem (fun _ h => tb_shut (h.re [2, 2, 2] [])) ?_
       have hz : k ≠ zVl := of_decide_eq_false c4
       have hr : ¬ (1 ≤ whole k ∧ whole k ≤ ((⟨L, S⟩ : Tb).list.length : Int)) := by show ¬ (_ ∧ _ ≤ (L.length : Int)); omega
       have hp : tnext ⟨L, S⟩ k = onext S k := tnext_rest hz hr (of_decide_eq_true c31)
       refine xs_fin [.agg #[.int .i64 (((onext S k).1).kind), .int .i64 (((onext S k).1).p), .int .i64 (((onext S k).1).q), .string (((onext S k).1).str), .int .i64 (((onext S k).1).ref)], .agg #[.int .i64 (((onext S k).2.1).kind), .int .i64 (((onext S k).2.1).p), .int .i64 (((onext S k).2.1).q), .string (((onext S k).2.1).str), .int .i64 (((onext S k).2.1).ref)], .bool ((onext S k).2.2.1), .int .i64 ((onext S k).2.2.2)] (tbA b L S :: F) (SI.agg 4 26 4 (SI.agg 5 26 3 (SI.tmp 6 (SI.tmp 7 SI.nil)))) (fun _ h => h.re [0] [1, 1, 1, 1, 1]) ⟨?_, rfl⟩
       rw [hp]; rfl
      ·
       have p33 := of_decide_eq_false c31
       refine k_sr ?_
       refine sp (.bool true) ?_
       refine sp (.bool true) ?_
       refine sp (.int .i64 (whole k)) ?_
       refine s_lt (Lt.to t_cmp (congrArg Value.bool (c14 : (decide ((1 : Int) ≤ (whole k))) = true))) ?_
       refine sp (.bool true) ?_
       refine sp (.bool true) ?_
       refine s_nt ?_
       refine k_true ?_
       refine k_sr ?_
       refine sp (pB b 0) ?_
       refine sp (pB b 0) ?_
       refine sp (pB b 1) ?_
       refine s_lt (t_load 2 (pB r17 0)) ?_
       refine s_lt (t_kern (.agg #[.int .i64 0, .int .i64 0, .int .i64 0, .string ByteArray.empty, .int .i64 0])) ?_
       refine s_call [4] (omnext_s (S := S) (by (try simp only [lnm]); omega) zVl) ?_
       rintro _ _ ⟨rfl, rfl⟩
       refine sp (.agg #[.int .i64 (((onext S zVl).1).kind), .int .i64 (((onext S zVl).1).p), .int .i64 (((onext S zVl).1).q), .string (((onext S zVl).1).str), .int .i64 (((onext S zVl).1).ref)]) ?_
       refine sp (.agg #[.int .i64 (((onext S zVl).2.1).kind), .int .i64 (((onext S zVl).2.1).p), .int .i64 (((onext S zVl).2.1).q), .string (((onext S zVl).2.1).str), .int .i64 (((onext S zVl).2.1).ref)]) ?_
       refine sp (.bool ((onext S zVl).2.2.1)) ?_
       refine sp (.int .i64 ((onext S zVl).2.2.2)) ?_
       refine s_store 6 #[.int .i64 (((onext S zVl).1).kind), .int .i64 (((onext S zVl).1).p), .int .i64 (((onext S zVl).1).q), .string (((onext S zVl).1).str), .int .i64 (((onext S zVl).1).ref)] ?_
       refine s_store 5 #[.int .i64 (((onext S zVl).2.1).kind), .int .i64 (((onext S zVl).2.1).p), .int .i64 (((onext S zVl).2.1).q), .string (((onext S zVl).2.1).str), .int .i64 (((onext S zVl).2.1).ref)] ?_
       refine sp (.bool ((onext S zVl).2.2.1)) ?_
       refine sp (.int .i64 ((onext S zVl).2.2.2)) ?_
       refine s_nt ?_
       refine k_ret ?_
       refine xs_retBlock ?_
       refine xs_ret ?_
       refine xs_mem (fun _ h => tb_shut (h.re [3, 3, 0] [])) ?_
       have hz : k ≠ zVl := of_decide_eq_false c4
       have hr : ¬ (1 ≤ whole k ∧ whole k ≤ ((⟨L, S⟩ : Tb).list.length : Int)) := by show ¬ (_ ∧ _ ≤ (L.length : Int)); omega
       have hp : tnext ⟨L, S⟩ k = onext S zVl := tnext_over hz hr (of_decide_eq_false c31) (by omega)
       refine xs_fin [.agg #[.int .i64 (((onext S zVl).1).kind), .int .i64 (((onext S zVl).1).p), .int .i64 (((onext S zVl).1).q), .string (((onext S zVl).1).str), .int .i64 (((onext S zVl).1).ref)], .agg #[.int .i64 (((onext S zVl).2.1).kind), .int .i64 (((onext S zVl).2.1).p), .int .i64 (((onext S zVl).2.1).q), .string (((onext S zVl).2.1).str), .int .i64 (((onext S zVl).2.1).ref)], .bool ((onext S zVl).2.2.1), .int .i64 ((onext S zVl).2.2.2)] (tbA b L S :: F) (SI.agg 4 26 4 (SI.agg 5 26 3 (SI.tmp 6 (SI.tmp 7 SI.nil)))) (fun _ h => h.re [0] [1, 1, 1, 1, 1]) ⟨?_, rfl⟩
       rw [hp]; rfl
   ·
    have p34 := of_decide_eq_false c14
    refine s_skip ?_
    refine s_skip ?_
    refine s_skip ?_
    refine s_skip ?_
    refine s_skip ?_
    refine s_skip ?_
    refine s_skip ?_
    refine sp (.bool false) ?_
    refine s_nt ?_
    refine k_false ?_
    refine k_st ?_
    refine k_mem2 (fun H h => tb_open (h.re [3] [])) (fun lv35 r36 hw => ?_)
    refine k_cut (ι := Nat × Nat) (fun _ => True) (fun (jb10, jb11) => [(0, pB b 0), (4, pB g2 0), (5, pB g3 0), (8, .int .i64 (whole k)), (9, .bool true), (10, pB jb10 0), (11, pB jb11 0), (12, .bool ((onext S k).2.2.1)), (13, .int .i64 ((onext S k).2.2.2))]) (fun (jb10, jb11) => blkA jb10 #[.int .i64 (((onext S k).1).kind), .int .i64 (((onext S k).1).p), .int .i64 (((onext S k).1).q), .string (((onext S k).1).str), .int .i64 (((onext S k).1).ref)] 26 :: blkA jb11 #[.int .i64 (((onext S k).2.1).kind), .int .i64 (((onext S k).2.1).p), .int .i64 (((onext S k).2.1).q), .string (((onext S k).2.1).str), .int .i64 (((onext S k).2.1).ref)] 26 :: blkA b #[lv35, pB r36 0] 80 :: own VlT lv35 L :: omA r36 S :: blkA g3 #[.int .i64 0, .int .i64 0, .int .i64 0, .string ByteArray.empty, .int .i64 0] 26 :: blkA g2 #[.int .i64 0, .int .i64 0, .int .i64 0, .string ByteArray.empty, .int .i64 0] 26 :: blkA g1 #[.int .i64 k.kind, .int .i64 k.p, .int .i64 k.q, .string k.str, .int .i64 k.ref] 26 :: F) ?_ (fun ix _ => ?_)
    ·
     refine k_held [blkA b #[lv35, pB r36 0] 80, own VlT lv35 L, blkA g3 #[.int .i64 0, .int .i64 0, .int .i64 0, .string ByteArray.empty, .int .i64 0] 26, blkA g2 #[.int .i64 0, .int .i64 0, .int .i64 0, .string ByteArray.empty, .int .i64 0] 26, blkA g1 #[.int .i64 k.kind, .int .i64 k.p, .int .i64 k.q, .string k.str, .int .i64 k.ref] 26] ?_
     refine hp_ 0 [0, 0, 1, 1, 1] (pB b 0) ?_
     refine hp_ 1 [0, 0, 1, 1, 1] (pB b 0) ?_
     refine hp_ 2 [0, 0, 1, 1, 1] (pB b 1) ?_
     refine h_l 3 rfl [0, 0, 1, 1, 1] (fun _ => (t_load 0 (pB r36 0))) ?_
     refine h_l 4 rfl [0, 0, 1, 1, 1] (fun _ => (t_loadA 4 #[.int .i64 k.kind, .int .i64 k.p, .int .i64 k.q, .string k.str, .int .i64 k.ref])) ?_
     refine h_stepS3 5 11 12 ?_ ?_ ?_
     ·
      refine s_call [2] (omnext_s (S := S) (by (try simp only [lnm]); omega) k) ?_
      rintro _ _ ⟨rfl, rfl⟩
      refine s_nil (xs_held [1, 1, 1, 1, 1] ?_)
      refine hp_ 6 [1, 1, 1, 1, 1] (.tuple #[.agg #[.int .i64 (((onext S k).1).kind), .int .i64 (((onext S k).1).p), .int .i64 (((onext S k).1).q), .string (((onext S k).1).str), .int .i64 (((onext S k).1).ref)], .agg #[.int .i64 (((onext S k).2.1).kind), .int .i64 (((onext S k).2.1).p), .int .i64 (((onext S k).2.1).q), .string (((onext S k).2.1).str), .int .i64 (((onext S k).2.1).ref)], .bool ((onext S k).2.2.1), .int .i64 ((onext S k).2.2.2)]) ?_
      refine hp_ 7 [1, 1, 1, 1, 1] (.agg #[.int .i64 (((onext S k).1).kind), .int .i64 (((onext S k).1).p), .int .i64 (((onext S k).1).q), .string (((onext S k).1).str), .int .i64 (((onext S k).1).ref)]) ?_
      refine hp_ 8 [1, 1, 1, 1, 1] (.agg #[.int .i64 (((onext S k).2.1).kind), .int .i64 (((onext S k).2.1).p), .int .i64 (((onext S k).2.1).q), .string (((onext S k).2.1).str), .int .i64 (((onext S k).2.1).ref)]) ?_
      refine hp_ 9 [1, 1, 1, 1, 1] (.bool ((onext S k).2.2.1)) ?_
      refine hp_ 10 [1, 1, 1, 1, 1] (.int .i64 ((onext S k).2.2.2)) ?_
      refine h_stepS2 11 12 ?_ ?_
      ·
       refine s_alloc (.agg #[.int .i64 0, .int .i64 0, .int .i64 0, .string ByteArray.empty, .int .i64 0]) #[.int .i64 0, .int .i64 0, .int .i64 0, .string ByteArray.empty, .int .i64 0] (fun g37 => ?_)
       refine s_nil (xs_held [2, 2, 2, 2, 2] ?_)
       refine h_stepS 12 ?_
       refine s_alloc (.agg #[.int .i64 0, .int .i64 0, .int .i64 0, .string ByteArray.empty, .int .i64 0]) #[.int .i64 0, .int .i64 0, .int .i64 0, .string ByteArray.empty, .int .i64 0] (fun g38 => ?_)
       refine s_nil (xs_held [3, 3, 3, 3, 3] ?_)
       refine h_stepS 13 ?_
       refine s_store 1 #[.int .i64 (((onext S k).1).kind), .int .i64 (((onext S k).1).p), .int .i64 (((onext S k).1).q), .string (((onext S k).1).str), .int .i64 (((onext S k).1).ref)] ?_
       refine s_nil (xs_held [3, 3, 3, 3, 3] ?_)
       refine h_stepS 14 ?_
       refine s_store 0 #[.int .i64 (((onext S k).2.1).kind), .int .i64 (((onext S k).2.1).p), .int .i64 (((onext S k).2.1).q), .string (((onext S k).2.1).str), .int .i64 (((onext S k).2.1).ref)] ?_
       refine s_nil (xs_held [3, 3, 3, 3, 3] ?_)
       refine hp_ 15 [3, 3, 3, 3, 3] (.bool ((onext S k).2.2.1)) ?_
       refine hp_ 16 [3, 3, 3, 3, 3] (.int .i64 ((onext S k).2.2.2)) ?_
       refine h_doneS ?_
       exact xcut (g37, g38) (fun _ h => h.re [1, 0, 1, 1, 0, 0, 0, 0] [])
      ·
       refine s_alloc (.agg #[.int .i64 0, .int .i64 0, .int .i64 0, .string ByteArray.empty, .int .i64 0]) #[.int .i64 0, .int .i64 0, .int .i64 0, .string ByteArray.empty, .int .i64 0] (fun g39 => ?_)
       refine s_nil (xs_held [2, 2, 2, 2, 2] ?_)
       refine h_stepS 11 ?_
       refine s_alloc (.agg #[.int .i64 0, .int .i64 0, .int .i64 0, .string ByteArray.empty, .int .i64 0]) #[.int .i64 0, .int .i64 0, .int .i64 0, .string ByteArray.empty, .int .i64 0] (fun g40 => ?_)
       refine s_nil (xs_held [3, 3, 3, 3, 3] ?_)
       refine h_stepS 13 ?_
       refine s_store 0 #[.int .i64 (((onext S k).1).kind), .int .i64 (((onext S k).1).p), .int .i64 (((onext S k).1).q), .string (((onext S k).1).str), .int .i64 (((onext S k).1).ref)] ?_
       refine s_nil (xs_held [3, 3, 3, 3, 3] ?_)
       refine h_stepS 14 ?_
       refine s_store 1 #[.int .i64 (((onext S k).2.1).kind), .int .i64 (((onext S k).2.1).p), .int .i64 (((onext S k).2.1).q), .string (((onext S k).2.1).str), .int .i64 (((onext S k).2.1).ref)] ?_
       refine s_nil (xs_held [3, 3, 3, 3, 3] ?_)
       refine hp_ 15 [3, 3, 3, 3, 3] (.bool ((onext S k).2.2.1)) ?_
       refine hp_ 16 [3, 3, 3, 3, 3] (.int .i64 ((onext S k).2.2.2)) ?_
       refine h_doneS ?_
       exact xcut (g40, g39) (fun _ h => h.re [0, 0, 1, 1, 0, 0, 0, 0] [])
     ·
      refine s_alloc (.agg #[.int .i64 0, .int .i64 0, .int .i64 0, .string ByteArray.empty, .int .i64 0]) #[.int .i64 0, .int .i64 0, .int .i64 0, .string ByteArray.empty, .int .i64 0] (fun g41 => ?_)
      refine s_nil (xs_held [1, 1, 2, 2, 2] ?_)
      refine h_stepS2 5 12 ?_ ?_
      ·
       refine s_call [3] (omnext_s (S := S) (by (try simp only [lnm]); omega) k) ?_
       rintro _ _ ⟨rfl, rfl⟩
       refine s_nil (xs_held [2, 2, 2, 2, 2] ?_)
       refine hp_ 6 [2, 2, 2, 2, 2] (.tuple #[.agg #[.int .i64 (((onext S k).1).kind), .int .i64 (((onext S k).1).p), .int .i64 (((onext S k).1).q), .string (((onext S k).1).str), .int .i64 (((onext S k).1).ref)], .agg #[.int .i64 (((onext S k).2.1).kind), .int .i64 (((onext S k).2.1).p), .int .i64 (((onext S k).2.1).q), .string (((onext S k).2.1).str), .int .i64 (((onext S k).2.1).ref)], .bool ((onext S k).2.2.1), .int .i64 ((onext S k).2.2.2)]) ?_
       refine hp_ 7 [2, 2, 2, 2, 2] (.agg #[.int .i64 (((onext S k).1).kind), .int .i64 (((onext S k).1).p), .int .i64 (((onext S k).1).q), .string (((onext S k).1).str), .int .i64 (((onext S k).1).ref)]) ?_
       refine hp_ 8 [2, 2, 2, 2, 2] (.agg #[.int .i64 (((onext S k).2.1).kind), .int .i64 (((onext S k).2.1).p), .int .i64 (((onext S k).2.1).q), .string (((onext S k).2.1).str), .int .i64 (((onext S k).2.1).ref)]) ?_
       refine hp_ 9 [2, 2, 2, 2, 2] (.bool ((onext S k).2.2.1)) ?_
       refine hp_ 10 [2, 2, 2, 2, 2] (.int .i64 ((onext S k).2.2.2)) ?_
       refine h_stepS 12 ?_
       refine s_alloc (.agg #[.int .i64 0, .int .i64 0, .int .i64 0, .string ByteArray.empty, .int .i64 0]) #[.int .i64 0, .int .i64 0, .int .i64 0, .string ByteArray.empty, .int .i64 0] (fun g42 => ?_)
       refine s_nil (xs_held [3, 3, 3, 3, 3] ?_)
       refine h_stepS 13 ?_
       refine s_store 2 #[.int .i64 (((onext S k).1).kind), .int .i64 (((onext S k).1).p), .int .i64 (((onext S k).1).q), .string (((onext S k).1).str), .int .i64 (((onext S k).1).ref)] ?_
       refine s_nil (xs_held [3, 3, 3, 3, 3] ?_)
       refine h_stepS 14 ?_
       refine s_store 0 #[.int .i64 (((onext S k).2.1).kind), .int .i64 (((onext S k).2.1).p), .int .i64 (((onext S k).2.1).q), .string (((onext S k).2.1).str), .int .i64 (((onext S k).2.1).ref)] ?_
       refine s_nil (xs_held [3, 3, 3, 3, 3] ?_)
       refine hp_ 15 [3, 3, 3, 3, 3] (.bool ((onext S k).2.2.1)) ?_
       refine hp_ 16 [3, 3, 3, 3, 3] (.int .i64 ((onext S k).2.2.2)) ?_
       refine h_doneS ?_
       exact xcut (g41, g42) (fun _ h => h.re [2, 0, 1, 1, 0, 0, 0, 0] [])
      ·
       refine s_alloc (.agg #[.int .i64 0, .int .i64 0, .int .i64 0, .string ByteArray.empty, .int .i64 0]) #[.int .i64 0, .int .i64 0, .int .i64 0, .string ByteArray.empty, .int .i64 0] (fun g43 => ?_)
       refine s_nil (xs_held [2, 2, 3, 3, 3] ?_)
       refine h_stepS 5 ?_
       refine s_call [4] (omnext_s (S := S) (by (try simp only [lnm]); omega) k) ?_
       rintro _ _ ⟨rfl, rfl⟩
       refine s_nil (xs_held [3, 3, 3, 3, 3] ?_)
       refine hp_ 6 [3, 3, 3, 3, 3] (.tuple #[.agg #[.int .i64 (((onext S k).1).kind), .int .i64 (((onext S k).1).p), .int .i64 (((onext S k).1).q), .string (((onext S k).1).str), .int .i64 (((onext S k).1).ref)], .agg #[.int .i64 (((onext S k).2.1).kind), .int .i64 (((onext S k).2.1).p), .int .i64 (((onext S k).2.1).q), .string (((onext S k).2.1).str), .int .i64 (((onext S k).2.1).ref)], .bool ((onext S k).2.2.1), .int .i64 ((onext S k).2.2.2)]) ?_
       refine hp_ 7 [3, 3, 3, 3, 3] (.agg #[.int .i64 (((onext S k).1).kind), .int .i64 (((onext S k).1).p), .int .i64 (((onext S k).1).q), .string (((onext S k).1).str), .int .i64 (((onext S k).1).ref)]) ?_
       refine hp_ 8 [3, 3, 3, 3, 3] (.agg #[.int .i64 (((onext S k).2.1).kind), .int .i64 (((onext S k).2.1).p), .int .i64 (((onext S k).2.1).q), .string (((onext S k).2.1).str), .int .i64 (((onext S k).2.1).ref)]) ?_
       refine hp_ 9 [3, 3, 3, 3, 3] (.bool ((onext S k).2.2.1)) ?_
       refine hp_ 10 [3, 3, 3, 3, 3] (.int .i64 ((onext S k).2.2.2)) ?_
       refine h_stepS 13 ?_
       refine s_store 2 #[.int .i64 (((onext S k).1).kind), .int .i64 (((onext S k).1).p), .int .i64 (((onext S k).1).q), .string (((onext S k).1).str), .int .i64 (((onext S k).1).ref)] ?_
       refine s_nil (xs_held [3, 3, 3, 3, 3] ?_)
       refine h_stepS 14 ?_
       refine s_store 1 #[.int .i64 (((onext S k).2.1).kind), .int .i64 (((onext S k).2.1).p), .int .i64 (((onext S k).2.1).q), .string (((onext S k).2.1).str), .int .i64 (((onext S k).2.1).ref)] ?_
       refine s_nil (xs_held [3, 3, 3, 3, 3] ?_)
       refine hp_ 15 [3, 3, 3, 3, 3] (.bool ((onext S k).2.2.1)) ?_
       refine hp_ 16 [3, 3, 3, 3, 3] (.int .i64 ((onext S k).2.2.2)) ?_
       refine h_doneS ?_
       exact xcut (g41, g43) (fun _ h => h.re [2, 1, 1, 1, 0, 0, 0, 0] [])
     ·
      refine s_alloc (.agg #[.int .i64 0, .int .i64 0, .int .i64 0, .string ByteArray.empty, .int .i64 0]) #[.int .i64 0, .int .i64 0, .int .i64 0, .string ByteArray.empty, .int .i64 0] (fun g44 => ?_)
      refine s_nil (xs_held [1, 1, 2, 2, 2] ?_)
      refine h_stepS2 5 11 ?_ ?_
      ·
       refine s_call [3] (omnext_s (S := S) (by (try simp only [lnm]); omega) k) ?_
       rintro _ _ ⟨rfl, rfl⟩
       refine s_nil (xs_held [2, 2, 2, 2, 2] ?_)
       refine hp_ 6 [2, 2, 2, 2, 2] (.tuple #[.agg #[.int .i64 (((onext S k).1).kind), .int .i64 (((onext S k).1).p), .int .i64 (((onext S k).1).q), .string (((onext S k).1).str), .int .i64 (((onext S k).1).ref)], .agg #[.int .i64 (((onext S k).2.1).kind), .int .i64 (((onext S k).2.1).p), .int .i64 (((onext S k).2.1).q), .string (((onext S k).2.1).str), .int .i64 (((onext S k).2.1).ref)], .bool ((onext S k).2.2.1), .int .i64 ((onext S k).2.2.2)]) ?_
       refine hp_ 7 [2, 2, 2, 2, 2] (.agg #[.int .i64 (((onext S k).1).kind), .int .i64 (((onext S k).1).p), .int .i64 (((onext S k).1).q), .string (((onext S k).1).str), .int .i64 (((onext S k).1).ref)]) ?_
       refine hp_ 8 [2, 2, 2, 2, 2] (.agg #[.int .i64 (((onext S k).2.1).kind), .int .i64 (((onext S k).2.1).p), .int .i64 (((onext S k).2.1).q), .string (((onext S k).2.1).str), .int .i64 (((onext S k).2.1).ref)]) ?_
       refine hp_ 9 [2, 2, 2, 2, 2] (.bool ((onext S k).2.2.1)) ?_
       refine hp_ 10 [2, 2, 2, 2, 2] (.int .i64 ((onext S k).2.2.2)) ?_
       refine h_stepS 11 ?_
       refine s_alloc (.agg #[.int .i64 0, .int .i64 0, .int .i64 0, .string ByteArray.empty, .int .i64 0]) #[.int .i64 0, .int .i64 0, .int .i64 0, .string ByteArray.empty, .int .i64 0] (fun g45 => ?_)
       refine s_nil (xs_held [3, 3, 3, 3, 3] ?_)
       refine h_stepS 13 ?_
       refine s_store 0 #[.int .i64 (((onext S k).1).kind), .int .i64 (((onext S k).1).p), .int .i64 (((onext S k).1).q), .string (((onext S k).1).str), .int .i64 (((onext S k).1).ref)] ?_
       refine s_nil (xs_held [3, 3, 3, 3, 3] ?_)
       refine h_stepS 14 ?_
       refine s_store 2 #[.int .i64 (((onext S k).2.1).kind), .int .i64 (((onext S k).2.1).p), .int .i64 (((onext S k).2.1).q), .string (((onext S k).2.1).str), .int .i64 (((onext S k).2.1).ref)] ?_
       refine s_nil (xs_held [3, 3, 3, 3, 3] ?_)
       refine hp_ 15 [3, 3, 3, 3, 3] (.bool ((onext S k).2.2.1)) ?_
       refine hp_ 16 [3, 3, 3, 3, 3] (.int .i64 ((onext S k).2.2.2)) ?_
       refine h_doneS ?_
       exact xcut (g45, g44) (fun _ h => h.re [0, 1, 1, 1, 0, 0, 0, 0] [])
      ·
       refine s_alloc (.agg #[.int .i64 0, .int .i64 0, .int .i64 0, .string ByteArray.empty, .int .i64 0]) #[.int .i64 0, .int .i64 0, .int .i64 0, .string ByteArray.empty, .int .i64 0] (fun g46 => ?_)
       refine s_nil (xs_held [2, 2, 3, 3, 3] ?_)
       refine h_stepS 5 ?_
       refine s_call [4] (omnext_s (S := S) (by (try simp only [lnm]); omega) k) ?_
       rintro _ _ ⟨rfl, rfl⟩
       refine s_nil (xs_held [3, 3, 3, 3, 3] ?_)
       refine hp_ 6 [3, 3, 3, 3, 3] (.tuple #[.agg #[.int .i64 (((onext S k).1).kind), .int .i64 (((onext S k).1).p), .int .i64 (((onext S k).1).q), .string (((onext S k).1).str), .int .i64 (((onext S k).1).ref)], .agg #[.int .i64 (((onext S k).2.1).kind), .int .i64 (((onext S k).2.1).p), .int .i64 (((onext S k).2.1).q), .string (((onext S k).2.1).str), .int .i64 (((onext S k).2.1).ref)], .bool ((onext S k).2.2.1), .int .i64 ((onext S k).2.2.2)]) ?_
       refine hp_ 7 [3, 3, 3, 3, 3] (.agg #[.int .i64 (((onext S k).1).kind), .int .i64 (((onext S k).1).p), .int .i64 (((onext S k).1).q), .string (((onext S k).1).str), .int .i64 (((onext S k).1).ref)]) ?_
       refine hp_ 8 [3, 3, 3, 3, 3] (.agg #[.int .i64 (((onext S k).2.1).kind), .int .i64 (((onext S k).2.1).p), .int .i64 (((onext S k).2.1).q), .string (((onext S k).2.1).str), .int .i64 (((onext S k).2.1).ref)]) ?_
       refine hp_ 9 [3, 3, 3, 3, 3] (.bool ((onext S k).2.2.1)) ?_
       refine hp_ 10 [3, 3, 3, 3, 3] (.int .i64 ((onext S k).2.2.2)) ?_
       refine h_stepS 13 ?_
       refine s_store 1 #[.int .i64 (((onext S k).1).kind), .int .i64 (((onext S k).1).p), .int .i64 (((onext S k).1).q), .string (((onext S k).1).str), .int .i64 (((onext S k).1).ref)] ?_
       refine s_nil (xs_held [3, 3, 3, 3, 3] ?_)
       refine h_stepS 14 ?_
       refine s_store 2 #[.int .i64 (((onext S k).2.1).kind), .int .i64 (((onext S k).2.1).p), .int .i64 (((onext S k).2.1).q), .string (((onext S k).2.1).str), .int .i64 (((onext S k).2.1).ref)] ?_
       refine s_nil (xs_held [3, 3, 3, 3, 3] ?_)
       refine hp_ 15 [3, 3, 3, 3, 3] (.bool ((onext S k).2.2.1)) ?_
       refine hp_ 16 [3, 3, 3, 3, 3] (.int .i64 ((onext S k).2.2.2)) ?_
       refine h_doneS ?_
       exact xcut (g46, g44) (fun _ h => h.re [1, 1, 1, 1, 0, 0, 0, 0] [])
    ·
     obtain ⟨jb10, jb11⟩ := ix
     show SK _ _ _ _ _ [(0, .pointer (some ⟨b, 0, none⟩)), (4, .pointer (some ⟨g2, 0, none⟩)), (5, .pointer (some ⟨g3, 0, none⟩)), (8, .int .i64 (whole k)), (9, .bool true), (10, .pointer (some ⟨jb10, 0, none⟩)), (11, .pointer (some ⟨jb11, 0, none⟩)), (12, .bool ((onext S k).2.2.1)), (13, .int .i64 ((onext S k).2.2.2))] _ (blkA jb10 #[.int .i64 (((onext S k).1).kind), .int .i64 (((onext S k).1).p), .int .i64 (((onext S k).1).q), .string (((onext S k).1).str), .int .i64 (((onext S k).1).ref)] 26 :: blkA jb11 #[.int .i64 (((onext S k).2.1).kind), .int .i64 (((onext S k).2.1).p), .int .i64 (((onext S k).2.1).q), .string (((onext S k).2.1).str), .int .i64 (((onext S k).2.1).ref)] 26 :: blkA b #[lv35, .pointer (some ⟨r36, 0, none⟩)] 80 :: own VlT lv35 L :: omA r36 S :: blkA g3 #[.int .i64 0, .int .i64 0, .int .i64 0, .string ByteArray.empty, .int .i64 0] 26 :: blkA g2 #[.int .i64 0, .int .i64 0, .int .i64 0, .string ByteArray.empty, .int .i64 0] 26 :: blkA g1 #[.int .i64 k.kind, .int .i64 k.p, .int .i64 k.q, .string k.str, .int .i64 k.ref] 26 :: F)
     refine k_seq ?_
     refine k_block ?_
     refine k_sr ?_
     refine sp (.int .i64 ((onext S k).2.2.2)) ?_
     refine s_lt t_cmp ?_
     refine sp (.bool (decide ((onext S k).2.2.2 = 0))) ?_
     refine s_nt ?_
     refine k_cond (decide ((onext S k).2.2.2 = 0)) (fun c47 => ?_) (fun c47 => ?_)
     ·
      have p48 := of_decide_eq_true c47
      refine k_seq ?_
      refine k_held [blkA jb10 #[.int .i64 (((onext S k).1).kind), .int .i64 (((onext S k).1).p), .int .i64 (((onext S k).1).q), .string (((onext S k).1).str), .int .i64 (((onext S k).1).ref)] 26, blkA jb11 #[.int .i64 (((onext S k).2.1).kind), .int .i64 (((onext S k).2.1).p), .int .i64 (((onext S k).2.1).q), .string (((onext S k).2.1).str), .int .i64 (((onext S k).2.1).ref)] 26, blkA b #[lv35, pB r36 0] 80, own VlT lv35 L, blkA g1 #[.int .i64 k.kind, .int .i64 k.p, .int .i64 k.q, .string k.str, .int .i64 k.ref] 26] ?_
      refine h_l 0 rfl [0, 0, 0, 0, 3] (fun _ => (t_loadA 0 #[.int .i64 (((onext S k).1).kind), .int .i64 (((onext S k).1).p), .int .i64 (((onext S k).1).q), .string (((onext S k).1).str), .int .i64 (((onext S k).1).ref)])) ?_
      refine h_l 1 rfl [0, 0, 0, 0, 3] (fun _ => (t_loadA 1 #[.int .i64 (((onext S k).2.1).kind), .int .i64 (((onext S k).2.1).p), .int .i64 (((onext S k).2.1).q), .string (((onext S k).2.1).str), .int .i64 (((onext S k).2.1).ref)])) ?_
      refine hp_ 2 [0, 0, 0, 0, 3] (.bool ((onext S k).2.2.1)) ?_
      refine hp_ 3 [0, 0, 0, 0, 3] (.int .i64 ((onext S k).2.2.2)) ?_
      refine h_stepS 4 ?_
      refine s_store 6 #[.int .i64 (((onext S k).1).kind), .int .i64 (((onext S k).1).p), .int .i64 (((onext S k).1).q), .string (((onext S k).1).str), .int .i64 (((onext S k).1).ref)] ?_
      refine s_nil (xs_held [0, 0, 0, 0, 3] ?_)
      refine h_stepS 5 ?_
      refine s_store 5 #[.int .i64 (((onext S k).2.1).kind), .int .i64 (((onext S k).2.1).p), .int .i64 (((onext S k).2.1).q), .string (((onext S k).2.1).str), .int .i64 (((onext S k).2.1).ref)] ?_
      refine s_nil (xs_held [0, 0, 0, 0, 3] ?_)
      refine hp_ 6 [0, 0, 0, 0, 3] (.bool ((onext S k).2.2.1)) ?_
      refine hp_ 7 [0, 0, 0, 0, 3] (.int .i64 ((onext S k).2.2.2)) ?_
      refine h_doneS ?_
      refine xs_then ?_
      refine k_ret ?_
      refine xs_retBlock ?_
      refine xs_ret ?_
      refine xs_mem (fun _ h => tb_shut (h.re [2, 2, 2] [])) ?_
      have hz : k ≠ zVl := of_decide_eq_false c4
      have hr : ¬ (1 ≤ whole k ∧ whole k ≤ ((⟨L, S⟩ : Tb).list.length : Int)) := by show ¬ (_ ∧ _ ≤ (L.length : Int)); omega
      have hp : tnext ⟨L, S⟩ k = onext S k := tnext_rest hz hr (of_decide_eq_true c47)
      refine xs_fin [.agg #[.int .i64 (((onext S k).1).kind), .int .i64 (((onext S k).1).p), .int .i64 (((onext S k).1).q), .string (((onext S k).1).str), .int .i64 (((onext S k).1).ref)], .agg #[.int .i64 (((onext S k).2.1).kind), .int .i64 (((onext S k).2.1).p), .int .i64 (((onext S k).2.1).q), .string (((onext S k).2.1).str), .int .i64 (((onext S k).2.1).ref)], .bool ((onext S k).2.2.1), .int .i64 ((onext S k).2.2.2)] (tbA b L S :: F) (SI.agg 4 26 4 (SI.agg 5 26 3 (SI.tmp 6 (SI.tmp 7 SI.nil)))) (fun _ h => h.re [0] [1, 1, 1, 1, 1]) ⟨?_, rfl⟩
      rw [hp]; rfl
     ·
      have p49 := of_decide_eq_false c47
      refine k_sr ?_
      refine sp (.bool true) ?_
      refine sp (.bool true) ?_
      refine sp (.int .i64 (whole k)) ?_
      refine s_lt (Lt.to t_cmp (congrArg Value.bool (c14 : (decide ((1 : Int) ≤ (whole k))) = false))) ?_
      refine sp (.bool false) ?_
      refine sp (.bool false) ?_
      refine s_nt ?_
      refine k_false ?_
      refine k_skip ?_
      refine xs_block ?_
      refine xs_then ?_
      refine k_sr ?_
      refine s_lt (t_kern (.agg #[.int .i64 0, .int .i64 0, .int .i64 0, .string ByteArray.empty, .int .i64 0])) ?_
      refine s_lt (t_kern (.agg #[.int .i64 0, .int .i64 0, .int .i64 0, .string ByteArray.empty, .int .i64 0])) ?_
      refine s_store 6 #[.int .i64 0, .int .i64 0, .int .i64 0, .string ByteArray.empty, .int .i64 0] ?_
      refine s_store 5 #[.int .i64 0, .int .i64 0, .int .i64 0, .string ByteArray.empty, .int .i64 0] ?_
      refine sp (.bool false) ?_
      refine sp (.int .i64 13) ?_
      refine s_nt ?_
      refine k_ret ?_
      refine xs_mem (fun _ h => tb_shut (h.re [2, 2, 2] [])) ?_
      have hz : k ≠ zVl := of_decide_eq_false c4
      have hr : ¬ (1 ≤ whole k ∧ whole k ≤ ((⟨L, S⟩ : Tb).list.length : Int)) := by show ¬ (_ ∧ _ ≤ (L.length : Int)); omega
      have hp : tnext ⟨L, S⟩ k = (zVl, zVl, false, 13) := tnext_bad hz hr (of_decide_eq_false c47) (by omega)
      refine xs_fin [.agg #[.int .i64 0, .int .i64 0, .int .i64 0, .string ByteArray.empty, .int .i64 0], .agg #[.int .i64 0, .int .i64 0, .int .i64 0, .string ByteArray.empty, .int .i64 0], .bool false, .int .i64 13] (tbA b L S :: F) (SI.agg 4 26 4 (SI.agg 5 26 3 (SI.tmp 6 (SI.tmp 7 SI.nil)))) (fun _ h => h.re [0] [1, 1, 1, 1, 1]) ⟨?_, rfl⟩
      rw [hp]; rfl
  ·
   rw [hi12] at e8; subst e8
   refine sp (.tuple #[.int .i64 k.p, .bool false]) ?_
   refine sp (.int .i64 k.p) ?_
   refine sp (.bool false) ?_
   refine sp (.int .i64 k.p) ?_
   refine sp (.bool false) ?_
   refine s_nt ?_
   refine k_seq ?_
   refine k_sr ?_
   refine sp (.bool false) ?_
   refine sp (.bool false) ?_
   refine s_skip ?_
   refine s_skip ?_
   refine sp (.bool false) ?_
   refine sp (.bool false) ?_
   refine s_skip ?_
   refine s_skip ?_
   refine s_skip ?_
   refine s_skip ?_
   refine s_skip ?_
   refine s_skip ?_
   refine s_skip ?_
   refine sp (.bool false) ?_
   refine s_nt ?_
   refine k_false ?_
   refine k_st ?_
   refine k_mem2 (fun H h => tb_open (h.re [3] [])) (fun lv50 r51 hw => ?_)
   refine k_cut (ι := Nat × Nat) (fun _ => True) (fun (jb10, jb11) => [(0, pB b 0), (4, pB g2 0), (5, pB g3 0), (8, .int .i64 k.p), (9, .bool false), (10, pB jb10 0), (11, pB jb11 0), (12, .bool ((onext S k).2.2.1)), (13, .int .i64 ((onext S k).2.2.2))]) (fun (jb10, jb11) => blkA jb10 #[.int .i64 (((onext S k).1).kind), .int .i64 (((onext S k).1).p), .int .i64 (((onext S k).1).q), .string (((onext S k).1).str), .int .i64 (((onext S k).1).ref)] 26 :: blkA jb11 #[.int .i64 (((onext S k).2.1).kind), .int .i64 (((onext S k).2.1).p), .int .i64 (((onext S k).2.1).q), .string (((onext S k).2.1).str), .int .i64 (((onext S k).2.1).ref)] 26 :: blkA b #[lv50, pB r51 0] 80 :: own VlT lv50 L :: omA r51 S :: blkA g3 #[.int .i64 0, .int .i64 0, .int .i64 0, .string ByteArray.empty, .int .i64 0] 26 :: blkA g2 #[.int .i64 0, .int .i64 0, .int .i64 0, .string ByteArray.empty, .int .i64 0] 26 :: blkA g1 #[.int .i64 k.kind, .int .i64 k.p, .int .i64 k.q, .string k.str, .int .i64 k.ref] 26 :: F) ?_ (fun ix _ => ?_)
   ·
    refine k_held [blkA b #[lv50, pB r51 0] 80, own VlT lv50 L, blkA g3 #[.int .i64 0, .int .i64 0, .int .i64 0, .string ByteArray.empty, .int .i64 0] 26, blkA g2 #[.int .i64 0, .int .i64 0, .int .i64 0, .string ByteArray.empty, .int .i64 0] 26, blkA g1 #[.int .i64 k.kind, .int .i64 k.p, .int .i64 k.q, .string k.str, .int .i64 k.ref] 26] ?_
    refine hp_ 0 [0, 0, 1, 1, 1] (pB b 0) ?_
    refine hp_ 1 [0, 0, 1, 1, 1] (pB b 0) ?_
    refine hp_ 2 [0, 0, 1, 1, 1] (pB b 1) ?_
    refine h_l 3 rfl [0, 0, 1, 1, 1] (fun _ => (t_load 0 (pB r51 0))) ?_
    refine h_l 4 rfl [0, 0, 1, 1, 1] (fun _ => (t_loadA 4 #[.int .i64 k.kind, .int .i64 k.p, .int .i64 k.q, .string k.str, .int .i64 k.ref])) ?_
    refine h_stepS3 5 11 12 ?_ ?_ ?_
    ·
     refine s_call [2] (omnext_s (S := S) (by (try simp only [lnm]); omega) k) ?_
     rintro _ _ ⟨rfl, rfl⟩
     refine s_nil (xs_held [1, 1, 1, 1, 1] ?_)
     refine hp_ 6 [1, 1, 1, 1, 1] (.tuple #[.agg #[.int .i64 (((onext S k).1).kind), .int .i64 (((onext S k).1).p), .int .i64 (((onext S k).1).q), .string (((onext S k).1).str), .int .i64 (((onext S k).1).ref)], .agg #[.int .i64 (((onext S k).2.1).kind), .int .i64 (((onext S k).2.1).p), .int .i64 (((onext S k).2.1).q), .string (((onext S k).2.1).str), .int .i64 (((onext S k).2.1).ref)], .bool ((onext S k).2.2.1), .int .i64 ((onext S k).2.2.2)]) ?_
     refine hp_ 7 [1, 1, 1, 1, 1] (.agg #[.int .i64 (((onext S k).1).kind), .int .i64 (((onext S k).1).p), .int .i64 (((onext S k).1).q), .string (((onext S k).1).str), .int .i64 (((onext S k).1).ref)]) ?_
     refine hp_ 8 [1, 1, 1, 1, 1] (.agg #[.int .i64 (((onext S k).2.1).kind), .int .i64 (((onext S k).2.1).p), .int .i64 (((onext S k).2.1).q), .string (((onext S k).2.1).str), .int .i64 (((onext S k).2.1).ref)]) ?_
     refine hp_ 9 [1, 1, 1, 1, 1] (.bool ((onext S k).2.2.1)) ?_
     refine hp_ 10 [1, 1, 1, 1, 1] (.int .i64 ((onext S k).2.2.2)) ?_
     refine h_stepS2 11 12 ?_ ?_
     ·
      refine s_alloc (.agg #[.int .i64 0, .int .i64 0, .int .i64 0, .string ByteArray.empty, .int .i64 0]) #[.int .i64 0, .int .i64 0, .int .i64 0, .string ByteArray.empty, .int .i64 0] (fun g52 => ?_)
      refine s_nil (xs_held [2, 2, 2, 2, 2] ?_)
      refine h_stepS 12 ?_
      refine s_alloc (.agg #[.int .i64 0, .int .i64 0, .int .i64 0, .string ByteArray.empty, .int .i64 0]) #[.int .i64 0, .int .i64 0, .int .i64 0, .string ByteArray.empty, .int .i64 0] (fun g53 => ?_)
      refine s_nil (xs_held [3, 3, 3, 3, 3] ?_)
      refine h_stepS 13 ?_
      refine s_store 1 #[.int .i64 (((onext S k).1).kind), .int .i64 (((onext S k).1).p), .int .i64 (((onext S k).1).q), .string (((onext S k).1).str), .int .i64 (((onext S k).1).ref)] ?_
      refine s_nil (xs_held [3, 3, 3, 3, 3] ?_)
      refine h_stepS 14 ?_
      refine s_store 0 #[.int .i64 (((onext S k).2.1).kind), .int .i64 (((onext S k).2.1).p), .int .i64 (((onext S k).2.1).q), .string (((onext S k).2.1).str), .int .i64 (((onext S k).2.1).ref)] ?_
      refine s_nil (xs_held [3, 3, 3, 3, 3] ?_)
      refine hp_ 15 [3, 3, 3, 3, 3] (.bool ((onext S k).2.2.1)) ?_
      refine hp_ 16 [3, 3, 3, 3, 3] (.int .i64 ((onext S k).2.2.2)) ?_
      refine h_doneS ?_
      exact xcut (g52, g53) (fun _ h => h.re [1, 0, 1, 1, 0, 0, 0, 0] [])
     ·
      refine s_alloc (.agg #[.int .i64 0, .int .i64 0, .int .i64 0, .string ByteArray.empty, .int .i64 0]) #[.int .i64 0, .int .i64 0, .int .i64 0, .string ByteArray.empty, .int .i64 0] (fun g54 => ?_)
      refine s_nil (xs_held [2, 2, 2, 2, 2] ?_)
      refine h_stepS 11 ?_
      refine s_alloc (.agg #[.int .i64 0, .int .i64 0, .int .i64 0, .string ByteArray.empty, .int .i64 0]) #[.int .i64 0, .int .i64 0, .int .i64 0, .string ByteArray.empty, .int .i64 0] (fun g55 => ?_)
      refine s_nil (xs_held [3, 3, 3, 3, 3] ?_)
      refine h_stepS 13 ?_
      refine s_store 0 #[.int .i64 (((onext S k).1).kind), .int .i64 (((onext S k).1).p), .int .i64 (((onext S k).1).q), .string (((onext S k).1).str), .int .i64 (((onext S k).1).ref)] ?_
      refine s_nil (xs_held [3, 3, 3, 3, 3] ?_)
      refine h_stepS 14 ?_
      refine s_store 1 #[.int .i64 (((onext S k).2.1).kind), .int .i64 (((onext S k).2.1).p), .int .i64 (((onext S k).2.1).q), .string (((onext S k).2.1).str), .int .i64 (((onext S k).2.1).ref)] ?_
      refine s_nil (xs_held [3, 3, 3, 3, 3] ?_)
      refine hp_ 15 [3, 3, 3, 3, 3] (.bool ((onext S k).2.2.1)) ?_
      refine hp_ 16 [3, 3, 3, 3, 3] (.int .i64 ((onext S k).2.2.2)) ?_
      refine h_doneS ?_
      exact xcut (g55, g54) (fun _ h => h.re [0, 0, 1, 1, 0, 0, 0, 0] [])
    ·
     refine s_alloc (.agg #[.int .i64 0, .int .i64 0, .int .i64 0, .string ByteArray.empty, .int .i64 0]) #[.int .i64 0, .int .i64 0, .int .i64 0, .string ByteArray.empty, .int .i64 0] (fun g56 => ?_)
     refine s_nil (xs_held [1, 1, 2, 2, 2] ?_)
     refine h_stepS2 5 12 ?_ ?_
     ·
      refine s_call [3] (omnext_s (S := S) (by (try simp only [lnm]); omega) k) ?_
      rintro _ _ ⟨rfl, rfl⟩
      refine s_nil (xs_held [2, 2, 2, 2, 2] ?_)
      refine hp_ 6 [2, 2, 2, 2, 2] (.tuple #[.agg #[.int .i64 (((onext S k).1).kind), .int .i64 (((onext S k).1).p), .int .i64 (((onext S k).1).q), .string (((onext S k).1).str), .int .i64 (((onext S k).1).ref)], .agg #[.int .i64 (((onext S k).2.1).kind), .int .i64 (((onext S k).2.1).p), .int .i64 (((onext S k).2.1).q), .string (((onext S k).2.1).str), .int .i64 (((onext S k).2.1).ref)], .bool ((onext S k).2.2.1), .int .i64 ((onext S k).2.2.2)]) ?_
      refine hp_ 7 [2, 2, 2, 2, 2] (.agg #[.int .i64 (((onext S k).1).kind), .int .i64 (((onext S k).1).p), .int .i64 (((onext S k).1).q), .string (((onext S k).1).str), .int .i64 (((onext S k).1).ref)]) ?_
      refine hp_ 8 [2, 2, 2, 2, 2] (.agg #[.int .i64 (((onext S k).2.1).kind), .int .i64 (((onext S k).2.1).p), .int .i64 (((onext S k).2.1).q), .string (((onext S k).2.1).str), .int .i64 (((onext S k).2.1).ref)]) ?_
      refine hp_ 9 [2, 2, 2, 2, 2] (.bool ((onext S k).2.2.1)) ?_
      refine hp_ 10 [2, 2, 2, 2, 2] (.int .i64 ((onext S k).2.2.2)) ?_
      refine h_stepS 12 ?_
      refine s_alloc (.agg #[.int .i64 0, .int .i64 0, .int .i64 0, .string ByteArray.empty, .int .i64 0]) #[.int .i64 0, .int .i64 0, .int .i64 0, .string ByteArray.empty, .int .i64 0] (fun g57 => ?_)
      refine s_nil (xs_held [3, 3, 3, 3, 3] ?_)
      refine h_stepS 13 ?_
      refine s_store 2 #[.int .i64 (((onext S k).1).kind), .int .i64 (((onext S k).1).p), .int .i64 (((onext S k).1).q), .string (((onext S k).1).str), .int .i64 (((onext S k).1).ref)] ?_
      refine s_nil (xs_held [3, 3, 3, 3, 3] ?_)
      refine h_stepS 14 ?_
      refine s_store 0 #[.int .i64 (((onext S k).2.1).kind), .int .i64 (((onext S k).2.1).p), .int .i64 (((onext S k).2.1).q), .string (((onext S k).2.1).str), .int .i64 (((onext S k).2.1).ref)] ?_
      refine s_nil (xs_held [3, 3, 3, 3, 3] ?_)
      refine hp_ 15 [3, 3, 3, 3, 3] (.bool ((onext S k).2.2.1)) ?_
      refine hp_ 16 [3, 3, 3, 3, 3] (.int .i64 ((onext S k).2.2.2)) ?_
      refine h_doneS ?_
      exact xcut (g56, g57) (fun _ h => h.re [2, 0, 1, 1, 0, 0, 0, 0] [])
     ·
      refine s_alloc (.agg #[.int .i64 0, .int .i64 0, .int .i64 0, .string ByteArray.empty, .int .i64 0]) #[.int .i64 0, .int .i64 0, .int .i64 0, .string ByteArray.empty, .int .i64 0] (fun g58 => ?_)
      refine s_nil (xs_held [2, 2, 3, 3, 3] ?_)
      refine h_stepS 5 ?_
      refine s_call [4] (omnext_s (S := S) (by (try simp only [lnm]); omega) k) ?_
      rintro _ _ ⟨rfl, rfl⟩
      refine s_nil (xs_held [3, 3, 3, 3, 3] ?_)
      refine hp_ 6 [3, 3, 3, 3, 3] (.tuple #[.agg #[.int .i64 (((onext S k).1).kind), .int .i64 (((onext S k).1).p), .int .i64 (((onext S k).1).q), .string (((onext S k).1).str), .int .i64 (((onext S k).1).ref)], .agg #[.int .i64 (((onext S k).2.1).kind), .int .i64 (((onext S k).2.1).p), .int .i64 (((onext S k).2.1).q), .string (((onext S k).2.1).str), .int .i64 (((onext S k).2.1).ref)], .bool ((onext S k).2.2.1), .int .i64 ((onext S k).2.2.2)]) ?_
      refine hp_ 7 [3, 3, 3, 3, 3] (.agg #[.int .i64 (((onext S k).1).kind), .int .i64 (((onext S k).1).p), .int .i64 (((onext S k).1).q), .string (((onext S k).1).str), .int .i64 (((onext S k).1).ref)]) ?_
      refine hp_ 8 [3, 3, 3, 3, 3] (.agg #[.int .i64 (((onext S k).2.1).kind), .int .i64 (((onext S k).2.1).p), .int .i64 (((onext S k).2.1).q), .string (((onext S k).2.1).str), .int .i64 (((onext S k).2.1).ref)]) ?_
      refine hp_ 9 [3, 3, 3, 3, 3] (.bool ((onext S k).2.2.1)) ?_
      refine hp_ 10 [3, 3, 3, 3, 3] (.int .i64 ((onext S k).2.2.2)) ?_
      refine h_stepS 13 ?_
      refine s_store 2 #[.int .i64 (((onext S k).1).kind), .int .i64 (((onext S k).1).p), .int .i64 (((onext S k).1).q), .string (((onext S k).1).str), .int .i64 (((onext S k).1).ref)] ?_
      refine s_nil (xs_held [3, 3, 3, 3, 3] ?_)
      refine h_stepS 14 ?_
      refine s_store 1 #[.int .i64 (((onext S k).2.1).kind), .int .i64 (((onext S k).2.1).p), .int .i64 (((onext S k).2.1).q), .string (((onext S k).2.1).str), .int .i64 (((onext S k).2.1).ref)] ?_
      refine s_nil (xs_held [3, 3, 3, 3, 3] ?_)
      refine hp_ 15 [3, 3, 3, 3, 3] (.bool ((onext S k).2.2.1)) ?_
      refine hp_ 16 [3, 3, 3, 3, 3] (.int .i64 ((onext S k).2.2.2)) ?_
      refine h_doneS ?_
      exact xcut (g56, g58) (fun _ h => h.re [2, 1, 1, 1, 0, 0, 0, 0] [])
    ·
     refine s_alloc (.agg #[.int .i64 0, .int .i64 0, .int .i64 0, .string ByteArray.empty, .int .i64 0]) #[.int .i64 0, .int .i64 0, .int .i64 0, .string ByteArray.empty, .int .i64 0] (fun g59 => ?_)
     refine s_nil (xs_held [1, 1, 2, 2, 2] ?_)
     refine h_stepS2 5 11 ?_ ?_
     ·
      refine s_call [3] (omnext_s (S := S) (by (try simp only [lnm]); omega) k) ?_
      rintro _ _ ⟨rfl, rfl⟩
      refine s_nil (xs_held [2, 2, 2, 2, 2] ?_)
      refine hp_ 6 [2, 2, 2, 2, 2] (.tuple #[.agg #[.int .i64 (((onext S k).1).kind), .int .i64 (((onext S k).1).p), .int .i64 (((onext S k).1).q), .string (((onext S k).1).str), .int .i64 (((onext S k).1).ref)], .agg #[.int .i64 (((onext S k).2.1).kind), .int .i64 (((onext S k).2.1).p), .int .i64 (((onext S k).2.1).q), .string (((onext S k).2.1).str), .int .i64 (((onext S k).2.1).ref)], .bool ((onext S k).2.2.1), .int .i64 ((onext S k).2.2.2)]) ?_
      refine hp_ 7 [2, 2, 2, 2, 2] (.agg #[.int .i64 (((onext S k).1).kind), .int .i64 (((onext S k).1).p), .int .i64 (((onext S k).1).q), .string (((onext S k).1).str), .int .i64 (((onext S k).1).ref)]) ?_
      refine hp_ 8 [2, 2, 2, 2, 2] (.agg #[.int .i64 (((onext S k).2.1).kind), .int .i64 (((onext S k).2.1).p), .int .i64 (((onext S k).2.1).q), .string (((onext S k).2.1).str), .int .i64 (((onext S k).2.1).ref)]) ?_
      refine hp_ 9 [2, 2, 2, 2, 2] (.bool ((onext S k).2.2.1)) ?_
      refine hp_ 10 [2, 2, 2, 2, 2] (.int .i64 ((onext S k).2.2.2)) ?_
      refine h_stepS 11 ?_
      refine s_alloc (.agg #[.int .i64 0, .int .i64 0, .int .i64 0, .string ByteArray.empty, .int .i64 0]) #[.int .i64 0, .int .i64 0, .int .i64 0, .string ByteArray.empty, .int .i64 0] (fun g60 => ?_)
      refine s_nil (xs_held [3, 3, 3, 3, 3] ?_)
      refine h_stepS 13 ?_
      refine s_store 0 #[.int .i64 (((onext S k).1).kind), .int .i64 (((onext S k).1).p), .int .i64 (((onext S k).1).q), .string (((onext S k).1).str), .int .i64 (((onext S k).1).ref)] ?_
      refine s_nil (xs_held [3, 3, 3, 3, 3] ?_)
      refine h_stepS 14 ?_
      refine s_store 2 #[.int .i64 (((onext S k).2.1).kind), .int .i64 (((onext S k).2.1).p), .int .i64 (((onext S k).2.1).q), .string (((onext S k).2.1).str), .int .i64 (((onext S k).2.1).ref)] ?_
      refine s_nil (xs_held [3, 3, 3, 3, 3] ?_)
      refine hp_ 15 [3, 3, 3, 3, 3] (.bool ((onext S k).2.2.1)) ?_
      refine hp_ 16 [3, 3, 3, 3, 3] (.int .i64 ((onext S k).2.2.2)) ?_
      refine h_doneS ?_
      exact xcut (g60, g59) (fun _ h => h.re [0, 1, 1, 1, 0, 0, 0, 0] [])
     ·
      refine s_alloc (.agg #[.int .i64 0, .int .i64 0, .int .i64 0, .string ByteArray.empty, .int .i64 0]) #[.int .i64 0, .int .i64 0, .int .i64 0, .string ByteArray.empty, .int .i64 0] (fun g61 => ?_)
      refine s_nil (xs_held [2, 2, 3, 3, 3] ?_)
      refine h_stepS 5 ?_
      refine s_call [4] (omnext_s (S := S) (by (try simp only [lnm]); omega) k) ?_
      rintro _ _ ⟨rfl, rfl⟩
      refine s_nil (xs_held [3, 3, 3, 3, 3] ?_)
      refine hp_ 6 [3, 3, 3, 3, 3] (.tuple #[.agg #[.int .i64 (((onext S k).1).kind), .int .i64 (((onext S k).1).p), .int .i64 (((onext S k).1).q), .string (((onext S k).1).str), .int .i64 (((onext S k).1).ref)], .agg #[.int .i64 (((onext S k).2.1).kind), .int .i64 (((onext S k).2.1).p), .int .i64 (((onext S k).2.1).q), .string (((onext S k).2.1).str), .int .i64 (((onext S k).2.1).ref)], .bool ((onext S k).2.2.1), .int .i64 ((onext S k).2.2.2)]) ?_
      refine hp_ 7 [3, 3, 3, 3, 3] (.agg #[.int .i64 (((onext S k).1).kind), .int .i64 (((onext S k).1).p), .int .i64 (((onext S k).1).q), .string (((onext S k).1).str), .int .i64 (((onext S k).1).ref)]) ?_
      refine hp_ 8 [3, 3, 3, 3, 3] (.agg #[.int .i64 (((onext S k).2.1).kind), .int .i64 (((onext S k).2.1).p), .int .i64 (((onext S k).2.1).q), .string (((onext S k).2.1).str), .int .i64 (((onext S k).2.1).ref)]) ?_
      refine hp_ 9 [3, 3, 3, 3, 3] (.bool ((onext S k).2.2.1)) ?_
      refine hp_ 10 [3, 3, 3, 3, 3] (.int .i64 ((onext S k).2.2.2)) ?_
      refine h_stepS 13 ?_
      refine s_store 1 #[.int .i64 (((onext S k).1).kind), .int .i64 (((onext S k).1).p), .int .i64 (((onext S k).1).q), .string (((onext S k).1).str), .int .i64 (((onext S k).1).ref)] ?_
      refine s_nil (xs_held [3, 3, 3, 3, 3] ?_)
      refine h_stepS 14 ?_
      refine s_store 2 #[.int .i64 (((onext S k).2.1).kind), .int .i64 (((onext S k).2.1).p), .int .i64 (((onext S k).2.1).q), .string (((onext S k).2.1).str), .int .i64 (((onext S k).2.1).ref)] ?_
      refine s_nil (xs_held [3, 3, 3, 3, 3] ?_)
      refine hp_ 15 [3, 3, 3, 3, 3] (.bool ((onext S k).2.2.1)) ?_
      refine hp_ 16 [3, 3, 3, 3, 3] (.int .i64 ((onext S k).2.2.2)) ?_
      refine h_doneS ?_
      exact xcut (g61, g59) (fun _ h => h.re [1, 1, 1, 1, 0, 0, 0, 0] [])
   ·
    obtain ⟨jb10, jb11⟩ := ix
    show SK _ _ _ _ _ [(0, .pointer (some ⟨b, 0, none⟩)), (4, .pointer (some ⟨g2, 0, none⟩)), (5, .pointer (some ⟨g3, 0, none⟩)), (8, .int .i64 k.p), (9, .bool false), (10, .pointer (some ⟨jb10, 0, none⟩)), (11, .pointer (some ⟨jb11, 0, none⟩)), (12, .bool ((onext S k).2.2.1)), (13, .int .i64 ((onext S k).2.2.2))] _ (blkA jb10 #[.int .i64 (((onext S k).1).kind), .int .i64 (((onext S k).1).p), .int .i64 (((onext S k).1).q), .string (((onext S k).1).str), .int .i64 (((onext S k).1).ref)] 26 :: blkA jb11 #[.int .i64 (((onext S k).2.1).kind), .int .i64 (((onext S k).2.1).p), .int .i64 (((onext S k).2.1).q), .string (((onext S k).2.1).str), .int .i64 (((onext S k).2.1).ref)] 26 :: blkA b #[lv50, .pointer (some ⟨r51, 0, none⟩)] 80 :: own VlT lv50 L :: omA r51 S :: blkA g3 #[.int .i64 0, .int .i64 0, .int .i64 0, .string ByteArray.empty, .int .i64 0] 26 :: blkA g2 #[.int .i64 0, .int .i64 0, .int .i64 0, .string ByteArray.empty, .int .i64 0] 26 :: blkA g1 #[.int .i64 k.kind, .int .i64 k.p, .int .i64 k.q, .string k.str, .int .i64 k.ref] 26 :: F)
    refine k_seq ?_
    refine k_block ?_
    refine k_sr ?_
    refine sp (.int .i64 ((onext S k).2.2.2)) ?_
    refine s_lt t_cmp ?_
    refine sp (.bool (decide ((onext S k).2.2.2 = 0))) ?_
    refine s_nt ?_
    refine k_cond (decide ((onext S k).2.2.2 = 0)) (fun c62 => ?_) (fun c62 => ?_)
    ·
     have p63 := of_decide_eq_true c62
     refine k_seq ?_
     refine k_held [blkA jb10 #[.int .i64 (((onext S k).1).kind), .int .i64 (((onext S k).1).p), .int .i64 (((onext S k).1).q), .string (((onext S k).1).str), .int .i64 (((onext S k).1).ref)] 26, blkA jb11 #[.int .i64 (((onext S k).2.1).kind), .int .i64 (((onext S k).2.1).p), .int .i64 (((onext S k).2.1).q), .string (((onext S k).2.1).str), .int .i64 (((onext S k).2.1).ref)] 26, blkA b #[lv50, pB r51 0] 80, own VlT lv50 L, blkA g1 #[.int .i64 k.kind, .int .i64 k.p, .int .i64 k.q, .string k.str, .int .i64 k.ref] 26] ?_
     refine h_l 0 rfl [0, 0, 0, 0, 3] (fun _ => (t_loadA 0 #[.int .i64 (((onext S k).1).kind), .int .i64 (((onext S k).1).p), .int .i64 (((onext S k).1).q), .string (((onext S k).1).str), .int .i64 (((onext S k).1).ref)])) ?_
     refine h_l 1 rfl [0, 0, 0, 0, 3] (fun _ => (t_loadA 1 #[.int .i64 (((onext S k).2.1).kind), .int .i64 (((onext S k).2.1).p), .int .i64 (((onext S k).2.1).q), .string (((onext S k).2.1).str), .int .i64 (((onext S k).2.1).ref)])) ?_
     refine hp_ 2 [0, 0, 0, 0, 3] (.bool ((onext S k).2.2.1)) ?_
     refine hp_ 3 [0, 0, 0, 0, 3] (.int .i64 ((onext S k).2.2.2)) ?_
     refine h_stepS 4 ?_
     refine s_store 6 #[.int .i64 (((onext S k).1).kind), .int .i64 (((onext S k).1).p), .int .i64 (((onext S k).1).q), .string (((onext S k).1).str), .int .i64 (((onext S k).1).ref)] ?_
     refine s_nil (xs_held [0, 0, 0, 0, 3] ?_)
     refine h_stepS 5 ?_
     refine s_store 5 #[.int .i64 (((onext S k).2.1).kind), .int .i64 (((onext S k).2.1).p), .int .i64 (((onext S k).2.1).q), .string (((onext S k).2.1).str), .int .i64 (((onext S k).2.1).ref)] ?_
     refine s_nil (xs_held [0, 0, 0, 0, 3] ?_)
     refine hp_ 6 [0, 0, 0, 0, 3] (.bool ((onext S k).2.2.1)) ?_
     refine hp_ 7 [0, 0, 0, 0, 3] (.int .i64 ((onext S k).2.2.2)) ?_
     refine h_doneS ?_
     refine xs_then ?_
     refine k_ret ?_
     refine xs_retBlock ?_
     refine xs_ret ?_
     refine xs_mem (fun _ h => tb_shut (h.re [2, 2, 2] [])) ?_
     have hz : k ≠ zVl := of_decide_eq_false c4
     have hr : ¬ (1 ≤ whole k ∧ whole k ≤ ((⟨L, S⟩ : Tb).list.length : Int)) := by show ¬ (_ ∧ _ ≤ (L.length : Int)); omega
     have hp : tnext ⟨L, S⟩ k = onext S k := tnext_rest hz hr (of_decide_eq_true c62)
     refine xs_fin [.agg #[.int .i64 (((onext S k).1).kind), .int .i64 (((onext S k).1).p), .int .i64 (((onext S k).1).q), .string (((onext S k).1).str), .int .i64 (((onext S k).1).ref)], .agg #[.int .i64 (((onext S k).2.1).kind), .int .i64 (((onext S k).2.1).p), .int .i64 (((onext S k).2.1).q), .string (((onext S k).2.1).str), .int .i64 (((onext S k).2.1).ref)], .bool ((onext S k).2.2.1), .int .i64 ((onext S k).2.2.2)] (tbA b L S :: F) (SI.agg 4 26 4 (SI.agg 5 26 3 (SI.tmp 6 (SI.tmp 7 SI.nil)))) (fun _ h => h.re [0] [1, 1, 1, 1, 1]) ⟨?_, rfl⟩
     rw [hp]; rfl
    ·
     have p64 := of_decide_eq_false c62
     refine k_sr ?_
     refine sp (.bool false) ?_
     refine sp (.bool false) ?_
     refine s_skip ?_
     refine s_skip ?_
     refine sp (.bool false) ?_
     refine sp (.bool false) ?_
     refine s_nt ?_
     refine k_false ?_
     refine k_skip ?_
     refine xs_block ?_
     refine xs_then ?_
     refine k_sr ?_
     refine s_lt (t_kern (.agg #[.int .i64 0, .int .i64 0, .int .i64 0, .string ByteArray.empty, .int .i64 0])) ?_
     refine s_lt (t_kern (.agg #[.int .i64 0, .int .i64 0, .int .i64 0, .string ByteArray.empty, .int .i64 0])) ?_
     refine s_store 6 #[.int .i64 0, .int .i64 0, .int .i64 0, .string ByteArray.empty, .int .i64 0] ?_
     refine s_store 5 #[.int .i64 0, .int .i64 0, .int .i64 0, .string ByteArray.empty, .int .i64 0] ?_
     refine sp (.bool false) ?_
     refine sp (.int .i64 13) ?_
     refine s_nt ?_
     refine k_ret ?_
     refine xs_mem (fun _ h => tb_shut (h.re [2, 2, 2] [])) ?_
     have hz : k ≠ zVl := of_decide_eq_false c4
     have hr : ¬ (1 ≤ whole k ∧ whole k ≤ ((⟨L, S⟩ : Tb).list.length : Int)) := by show ¬ (_ ∧ _ ≤ (L.length : Int)); omega
     have hp : tnext ⟨L, S⟩ k = (zVl, zVl, false, 13) := tnext_bad hz hr (of_decide_eq_false c62) (by omega)
     refine xs_fin [.agg #[.int .i64 0, .int .i64 0, .int .i64 0, .string ByteArray.empty, .int .i64 0], .agg #[.int .i64 0, .int .i64 0, .int .i64 0, .string ByteArray.empty, .int .i64 0], .bool false, .int .i64 13] (tbA b L S :: F) (SI.agg 4 26 4 (SI.agg 5 26 3 (SI.tmp 6 (SI.tmp 7 SI.nil)))) (fun _ h => h.re [0] [1, 1, 1, 1, 1]) ⟨?_, rfl⟩
     rw [hp]; rfl
theorem tbsize_s {Z : Zone} {F : List Asr} {b : Nat} {L : List Vl} {S : List Slt} (hl : L.length ≤ 100000) (hs : S.length ≤ 100000) : SF Try.prog 22 #[.pointer (some ⟨b, 0, none⟩)] Z (tbA b L S :: F) fun r Bs => r = .int .i64 (tabSize ⟨L, S⟩) ∧ Bs = tbA b L S :: F := by
 refine sf_enter Try.func22 19 [(0, pB b 0)] (fun w0 => ?_)
 refine k_sr ?_
 refine sp (.int .i64 0) ?_
 refine s_nt ?_
 refine k_seq ?_
 refine k_sr ?_
 refine sp (pB b 0) ?_
 refine sp (.bool false) ?_
 refine s_nt ?_
 refine k_false ?_
 refine k_st ?_
 refine k_seq ?_
 refine k_mem2 (fun H h => tb_open (h.re [0] [])) (fun lv1 r2 hw => ?_)
 refine k_held [blkA b #[lv1, pB r2 0] 80, own VlT lv1 L] ?_
 refine hp_ 0 [0, 0] (pB b 0) ?_
 refine hp_ 1 [0, 0] (pB b 0) ?_
 refine hp_ 2 [0, 0] (pB b 0) ?_
 refine h_l 3 rfl [0, 0] (fun _ => (t_load 0 lv1)) ?_
 refine h_l 4 rfl [0, 0] (fun _ => (t_len VlT_ok Try.underlying22 (.own 1))) ?_
 refine h_l 5 rfl [0, 0] (fun _ => (t_mul 2 (L.length : Int) (by (try simp only [lnm]); omega))) ?_
 refine h_l 6 rfl [0, 0] (fun _ => (t_add 4 (2 * (L.length : Int)) (by (try simp only [lnm]); omega))) ?_
 refine hp_ 7 [0, 0] (pB b 0) ?_
 refine hp_ 8 [0, 0] (pB b 0) ?_
 refine hp_ 9 [0, 0] (pB b 1) ?_
 refine h_l 10 rfl [0, 0] (fun _ => (t_load 0 (pB r2 0))) ?_
 refine h_stepS 11 ?_
 refine s_call [2] (omslots_s (S := S)) ?_
 rintro _ _ ⟨rfl, rfl⟩
 refine s_nil (xs_held [1, 1] ?_)
 refine h_l 12 rfl [1, 1] (fun _ => (t_mul 4 (S.length : Int) (by (try simp only [lnm]); omega))) ?_
 refine h_l 13 rfl [1, 1] (fun _ => (t_add (4 + (2 * (L.length : Int))) (4 * (S.length : Int)) (by (try simp only [lnm]); omega))) ?_
 refine hp_ 14 [1, 1] (.int .i64 ((4 + (2 * (L.length : Int))) + (4 * (S.length : Int)))) ?_
 refine h_doneS ?_
 refine xs_then ?_
 refine k_ret ?_
 refine xs_mem (fun _ h => tb_shut (h.re [1, 1, 0] [])) ?_
 refine xs_fin [.int .i64 ((4 + (2 * (L.length : Int))) + (4 * (S.length : Int)))] (tbA b L S :: F) (SI.tmp 2 SI.nil) (fun _ h => h.re [0] []) ⟨?_, rfl⟩
 rfl
end Go.Proofs.Ytmilekfknhglkaa
end
section
set_option linter.unusedSimpArgs false
set_option linter.unusedVariables false
namespace Go.Proofs.Ytmilekfknhglkaa
section
variable {st st' : Hst} {v k t m : Vl} {o : Hob}
theorem htab_of (hg : st.get v.ref = some o) (hk : v.kind = 4) (h4 : o.kind = 4) : htab st v = some o.tab := htab_is (hfind_is hg (by rw [hk, h4])) h4
theorem count_le (st : Hst) : st.count ≤ st.objs.length := List.countP_le_length
theorem hmake_ok (hc : st.count < 65536) : hmakeE st = 0 ∧ (∀ kd, hmakeV st kd = refV kd ((st.objs.length : Int) + 1)) ∧ (hmake st o).objs.length = st.objs.length + 1 ∧ ∀ id, (hmake st o).get id = if id = (st.objs.length : Int) + 1 then some o else st.get id := by
  unfold hmakeE hmake
  rw [if_neg (by omega), if_neg (by omega)]
  refine ⟨rfl, fun kd => ?_, by simp, fun id => get_snoc st o _ id⟩
  unfold hmakeV; rw [if_neg (by omega)]
theorem hset_okG {x : Vl} (hg : st.get t.ref = some o) (h4 : o.kind = 4) (ht : t.kind = 4) (hk : okKey k = true) (he : elemE x = 0) : hsetE st t k x = 0 ∧ (hset st t k x).objs.length = st.objs.length ∧ ∀ id, (hset st t k x).get id = if id = t.ref then some { o with tab := tset o.tab k x } else st.get id := by
  have hT := htab_of hg ht h4
  unfold hsetE hset Hst.setTab
  rw [hT, hg]
  simp only [hk, he]
  refine ⟨by simp, by simp [Hst.touch, Hst.put], fun id => ?_⟩
  simp only [ne_eq, not_true_eq_false, if_false, Bool.true_eq_false]
  rw [get_touch, get_put hg]
theorem noTb_inv : TInv noTb := TInv.nil
theorem noTb_tw : TW noTb := TW.nil
end
end Go.Proofs.Ytmilekfknhglkaa
end
section
set_option linter.unusedSimpArgs false
set_option linter.unusedVariables false
namespace Go.Proofs.Ytmilekfknhglkaa
/-- An object is changed. -/
def Hst.upd (st : Hst) (id : Int) (f : Hob → Hob) : Hst := match st.get id with
  | some o => st.put id (f o)
  | none => st
def hlenV (st : Hst) (t : Vl) : Int := match htab st t with
  | some T => (T.list.length : Int)
  | none => 0
def hnext (st : Hst) (t k : Vl) : Vl × Vl × Bool × Int := match htab st t with
  | some T => tnext T k
  | none => (zVl, zVl, false, 8)
def hinsE (st : Hst) (t : Vl) (p : Int) (v : Vl) : Int := match htab st t with
  | none => 8
  | some T => if elemE v ≠ 0 then elemE v else tinsE T p v
def hins (st : Hst) (t : Vl) (p : Int) (v : Vl) : Hst := match htab st t with
  | none => st
  | some T => if elemE v ≠ 0 then st else if tinsE T p v ≠ 0 then st else (st.setTab t.ref (tins T p v)).touch t.ref
def hremE (st : Hst) (t : Vl) (p : Int) : Int := match htab st t with
  | none => 8
  | some T => tremE T p
def hremV (st : Hst) (t : Vl) (p : Int) : Vl := match htab st t with
  | none => zVl
  | some T => tremV T p
def hrem (st : Hst) (t : Vl) (p : Int) : Hst := match htab st t with
  | none => st
  | some T => if tremE T p ≠ 0 then st else (st.setTab t.ref (trem T p)).touch t.ref
def hslotE (st : Hst) (v : Vl) (i : Int) : Int := match hfind st v with
  | some o => if o.kind = 8 then (if i < 1 ∨ 16 < i then 6 else 0) else 8
  | none => 8
def hslotV (st : Hst) (v : Vl) (i : Int) : Vl := match hfind st v with
  | some o => if hslotE st v i = 0 then (o.vals[(i - 1).toNat]?).getD zVl else zVl
  | none => zVl
def hsetSlotE (st : Hst) (v : Vl) (i : Int) (x : Vl) : Int := if hslotE st v i ≠ 0 then hslotE st v i else elemE x
def hsetSlot (st : Hst) (v : Vl) (i : Int) (x : Vl) : Hst := if hsetSlotE st v i x ≠ 0 then st else (st.upd v.ref fun o => { o with vals := o.vals.set (i - 1).toNat x }).touch v.ref
def refsE : List Vl → Int
  | [] => 0
  | x :: r => if elemE x ≠ 0 then elemE x else refsE r
def hisFT (st : Hst) (v : Vl) : Bool := match hfind st v with
  | some o => decide (o.kind = 5) || decide (o.kind = 7)
  | none => false
def hsetRefsE (st : Hst) (v : Vl) (l : List Vl) : Int := if hisFT st v = true then refsE l else 8
def hsetRefs (st : Hst) (v : Vl) (l : List Vl) : Hst := if hsetRefsE st v l ≠ 0 then st else (st.upd v.ref fun o => { o with vals := l }).touch v.ref
def htagV (st : Hst) (v : Vl) : Int × Bool := match hfind st v with
  | some o => if o.kind = 5 ∨ o.kind = 7 then (o.tag, true) else (0, false)
  | none => (0, false)
def hnameV (st : Hst) (v : Vl) : ByteArray × Bool := match hfind st v with
  | some o => if o.kind = 8 then (o.name, true) else (ByteArray.empty, false)
  | none => (ByteArray.empty, false)
def halive (st : Hst) (id : Int) : Bool := (st.get id).isSome
def hdropE (st : Hst) (id : Int) : Int := if halive st id = true then 0 else 19
def hdrop (st : Hst) (id : Int) : Hst := if halive st id = true then { st with objs := st.objs.set (id.toNat - 1) none } else st
/-- The identities of the objects, in order. -/
def hids (st : Hst) : List Int := ((List.range st.objs.length).map fun i : Nat => (i : Int) + 1).filter fun id => halive st id
def htchd (st : Hst) : List Int := (hids st).filter fun id => (st.tch[id.toNat - 1]?).getD false
def huntch (st : Hst) : Hst := { st with tch := st.tch.map fun _ => false }
/-- The identity of a value, 0 if it is no object. -/
def idn (v : Vl) : Int := if isRef v.kind = true then v.ref else 0
def refsOf (o : Hob) : List Int := ((o.mt :: o.vals).map idn).filter fun i => decide (i ≠ 0)
def obSize (o : Hob) : Int := if o.kind = 4 then 8 + tabSize o.tab else if o.kind = 5 then 8 + (o.vals.length : Int) else if o.kind = 7 then 16 + (o.vals.length : Int) else 12
def hsize (st : Hst) : Int := ((hids st).map fun id => obSize (st.ob id)).sum
/-! ### What an object is, further -/
structure ObW (o : Hob) : Prop where
  tw : TW o.tab
  vals : ∀ v ∈ o.vals, validB v = true
  mt : isRef o.mt.kind = true → 1 ≤ o.mt.ref
  data : o.kind = 8 → o.vals.length = 16
def HW (st : Hst) : Prop := ∀ o, some o ∈ st.objs → ObW o
theorem HW.nil : HW hp0 := fun _ h => by cases h
section
variable {st : Hst} {v t k x : Vl} {id p i : Int} {o o' : Hob} {n : Nat} {l : List Vl}
theorem HW.put (h : HW st) (ho : ObW o') : HW (st.put id o') := fun x hx => by
  rcases mem_put hx with hx | rfl
  · exact h x hx
  · exact ho
theorem HW.touch (h : HW st) (id : Int) : HW (st.touch id) := h
theorem HW.of (h : HW st) (hg : st.get id = some o) : ObW o := h o (get_mem hg).1
theorem HW.make (h : HW st) (ho : ObW o) : HW (hmake st o) := by
  unfold hmake
  split
  · exact h
  · intro x hx
    rcases List.mem_append.1 hx with hx | hx
    · exact h x hx
    · rw [List.mem_singleton] at hx; injection hx with hx; rw [hx]; exact ho
theorem newO_w (kind tag : Int) (name : ByteArray) {vals : List Vl} (hv : ∀ v ∈ vals, validB v = true) (h8 : kind = 8 → vals.length = 16) : ObW (newO kind tag name vals) := ⟨TW.nil, hv, fun h => (by cases h), h8⟩
theorem data_w (name : ByteArray) : ObW (newO 8 0 name (List.replicate 16 zVl)) := newO_w _ _ _ (fun v hv => by rw [(List.mem_replicate.1 hv).2]; decide) fun _ => by simp
theorem HW.set (hi : HInv st) (h : HW st) (t k v : Vl) : HW (hset st t k v) := by
  rcases hset_cases st t k v with ⟨_, e, _⟩ | ⟨_, _, _, e, _⟩ | ⟨_, _, _, _, e, _⟩ | ⟨T, o, h1, h2, h3, hv, h4, h5, h6, h7, e, _⟩
  · rw [e]; exact h
  · rw [e]; exact h
  · rw [e]; exact h
  · rw [e]
    have ho := h.of h4
    have hob := hi.obs o (get_mem h4).1
    refine HW.touch (HW.put h (o' := { o with tab := tset T k v }) ⟨?_, ho.vals, ho.mt, ho.data⟩) _
    rw [← h7]; exact tset_tw hob.tab ho.tw k v
/-! ### Inserting and removing -/
/-! ### Values of objects -/
theorem upd_some {f : Hob → Hob} (hg : st.get id = some o) : st.upd id f = st.put id (f o) := by unfold Hst.upd; rw [hg]
theorem vals_inv (h : HInv st) (hg : st.get id = some o) (l : List Vl) : HInv ((st.put id { o with vals := l }).touch id) := by
  have ho := h.obs o (get_mem hg).1
  exact touch_inv (put_inv h (o := { o with vals := l }) ⟨ho.kind, ho.tab, ho.mt⟩) _
theorem vals_sm (h : HSm n st) (hg : st.get id = some o) (hl : l.length ≤ n + 1 + 20) : HSm (n + 1) ((st.put id { o with vals := l }).touch id) := by
  have hm := h.mono (Nat.le_succ n)
  refine ⟨by show (st.objs.set _ _).length ≤ _; rw [List.length_set]; exact hm.len, fun x hx => ?_⟩
  rcases mem_put hx with hx | rfl
  · exact hm.obs x hx
  · have ho := hm.obs o (get_mem hg).1
    exact ⟨ho.1, ho.2.1, hl⟩
theorem vals_w (h : HW st) (hg : st.get id = some o) (hv : ∀ v ∈ l, validB v = true) (h8 : o.kind = 8 → l.length = 16) : HW ((st.put id { o with vals := l }).touch id) := by
  have ho := h.of hg
  exact HW.touch (HW.put h (o' := { o with vals := l }) ⟨ho.tw, hv, ho.mt, h8⟩) _
theorem elemE_valid (h : elemE x = 0) : validB x = true := by
  unfold elemE at h
  split at h
  · cases h
  split at h
  · cases h
  · rename_i hv; simpa using hv
theorem slot_cases (st : Hst) (v : Vl) (i : Int) : (hslotE st v i ≠ 0 ∧ hslotV st v i = zVl) ∨ ∃ o, hfind st v = some o ∧ st.get v.ref = some o ∧ o.kind = 8 ∧ v.kind = 8 ∧ 1 ≤ i ∧ i ≤ 16 ∧ hslotE st v i = 0 ∧ hslotV st v i = (o.vals[(i - 1).toNat]?).getD zVl := by
  unfold hslotV
  cases hf : hfind st v with
  | none => exact .inl ⟨by unfold hslotE; rw [hf]; exact (by decide : (8 : Int) ≠ 0), rfl⟩
  | some o =>
    obtain ⟨h1, h2⟩ := hfind_some hf
    simp only
    by_cases he : hslotE st v i = 0
    · rw [if_pos he]
      have he' := he
      unfold hslotE at he'
      rw [hf] at he'
      simp only at he'
      split at he'
      · rename_i h8
        split at he'
        · cases he'
        · exact .inr ⟨o, rfl, h1, h8, by omega, by omega, by omega, he, rfl⟩
      · cases he'
    · rw [if_neg he]; exact .inl ⟨he, rfl⟩
theorem setSlot_cases (st : Hst) (v : Vl) (i : Int) (x : Vl) : (hsetSlot st v i x = st ∧ hsetSlotE st v i x ≠ 0) ∨ ∃ o, hfind st v = some o ∧ st.get v.ref = some o ∧ o.kind = 8 ∧ v.kind = 8 ∧ 1 ≤ i ∧ i ≤ 16 ∧ hslotE st v i = 0 ∧ elemE x = 0 ∧ hsetSlot st v i x = (st.put v.ref { o with vals := o.vals.set (i - 1).toNat x }).touch v.ref ∧ hsetSlotE st v i x = 0 := by
  unfold hsetSlot
  by_cases h : hsetSlotE st v i x = 0
  · rw [if_neg (fun hc => hc h)]
    have h' := h
    unfold hsetSlotE at h'
    rcases slot_cases st v i with ⟨h1, _⟩ | ⟨o, h1, h2, h3, h4, h5, h6, h7, _⟩
    · rw [if_pos h1] at h'; exact absurd h' h1
    · rw [if_neg (fun hc => hc h7)] at h'
      exact .inr ⟨o, h1, h2, h3, h4, h5, h6, h7, h', by rw [upd_some h2], h⟩
  · rw [if_pos h]; exact .inl ⟨rfl, h⟩
theorem setSlot_inv (h : HInv st) (v : Vl) (i : Int) (x : Vl) : HInv (hsetSlot st v i x) := by
  rcases setSlot_cases st v i x with ⟨e, _⟩ | ⟨o, _, hg, _, _, _, _, _, _, e, _⟩
  · rw [e]; exact h
  · rw [e]; exact vals_inv h hg _
theorem setSlot_sm (h : HSm n st) (v : Vl) (i : Int) (x : Vl) : HSm (n + 1) (hsetSlot st v i x) := by
  rcases setSlot_cases st v i x with ⟨e, _⟩ | ⟨o, _, hg, _, _, _, _, _, _, e, _⟩
  · rw [e]; exact h.mono (by omega)
  · rw [e]; exact vals_sm h hg (by rw [List.length_set]; have := (h.obs o (get_mem hg).1).2.2; omega)
theorem setSlot_w (h : HW st) (v : Vl) (i : Int) (x : Vl) : HW (hsetSlot st v i x) := by
  rcases setSlot_cases st v i x with ⟨e, _⟩ | ⟨o, _, hg, _, _, _, _, _, he, e, _⟩
  · rw [e]; exact h
  · rw [e]
    have ho := h.of hg
    refine vals_w h hg (fun y hy => ?_) fun h8 => by rw [List.length_set]; exact ho.data h8
    rcases List.mem_or_eq_of_mem_set hy with hy | rfl
    · exact ho.vals y hy
    · exact elemE_valid he
theorem setMeta_w (h : HW st) (v m : Vl) : HW (hsetMeta st v m) := by
  rcases hsetMeta_cases st v m with ⟨e, _⟩ | ⟨o, h1, _, h2, e, _, hb⟩
  · rw [e]; exact h
  · rw [e]
    have ho := h.of h1
    refine HW.touch (HW.put h (o' := { o with mt := m }) ⟨ho.tw, ho.vals, fun hr => ?_, ho.data⟩) _
    have hm : m = zVl ∨ (htab st m).isSome = true := by
      unfold hmetaOk at hb
      cases hf : hfind st v with
      | none => rw [hf] at hb; cases hb
      | some x =>
        rw [hf] at hb
        simp only [Bool.and_eq_true, Bool.or_eq_true, decide_eq_true_eq] at hb
        exact hb.2
    rcases hm with rfl | hm
    · cases hr
    · cases hT : htab st m with
      | none => rw [hT] at hm; cases hm
      | some T =>
        obtain ⟨x, _, hx, _⟩ := htab_some hT
        exact (get_mem hx).2.1
/-! ### Dropping -/
theorem drop_cases (st : Hst) (id : Int) : (hdrop st id = st ∧ hdropE st id = 19 ∧ st.get id = none) ∨ ∃ o, st.get id = some o ∧ hdropE st id = 0 ∧ hdrop st id = { st with objs := st.objs.set (id.toNat - 1) none } := by
  unfold hdrop hdropE halive
  cases hg : st.get id with
  | none => exact .inl ⟨rfl, rfl, rfl⟩
  | some o => exact .inr ⟨o, rfl, rfl, rfl⟩
theorem get_drop (st : Hst) (id id' : Int) : (hdrop st id).get id' = if id' = id then none else st.get id' := by
  rcases drop_cases st id with ⟨e, _, hn⟩ | ⟨o, hg, _, e⟩
  · rw [e]
    by_cases h : id' = id
    · rw [if_pos h, h, hn]
    · rw [if_neg h]
  · obtain ⟨_, h1, h2, h3⟩ := get_mem hg
    rw [e]; unfold Hst.get
    by_cases h : id' = id
    · subst h
      rw [if_pos h1, if_pos rfl, List.getElem?_set_self (by omega)]; rfl
    · rw [if_neg h]
      by_cases hp : 1 ≤ id'
      · rw [if_pos hp, if_pos hp, List.getElem?_set_ne (by omega)]
      · rw [if_neg hp, if_neg hp]
theorem drop_len : (hdrop st id).objs.length = st.objs.length ∧ (hdrop st id).tch = st.tch := by
  rcases drop_cases st id with ⟨e, _⟩ | ⟨_, _, _, e⟩
  · rw [e]; exact ⟨rfl, rfl⟩
  · rw [e]; exact ⟨by simp, rfl⟩
theorem untch_inv (h : HInv st) : HInv (huntch st) := ⟨h.obs, by show (st.tch.map _).length = _; rw [List.length_map]; exact h.tch⟩
theorem untch_sm (h : HSm n st) : HSm n (huntch st) := ⟨h.len, h.obs⟩
theorem untch_w (h : HW st) : HW (huntch st) := h
end
/-! ### Answers, by cases -/
section
variable {st : Hst} {v x : Vl} {i : Int} {o : Hob} {l : List Vl}
theorem setSlot_err (h : hslotE st v i ≠ 0) : hsetSlot st v i x = st ∧ hsetSlotE st v i x = hslotE st v i := by
  have e : hsetSlotE st v i x = hslotE st v i := by unfold hsetSlotE; rw [if_pos h]
  exact ⟨by unfold hsetSlot; rw [e, if_pos h], e⟩
theorem setSlot_elem (h : hslotE st v i = 0) (he : elemE x ≠ 0) : hsetSlot st v i x = st ∧ hsetSlotE st v i x = elemE x := by
  have e : hsetSlotE st v i x = elemE x := by unfold hsetSlotE; rw [if_neg (fun hc => hc h)]
  exact ⟨by unfold hsetSlot; rw [e, if_pos he], e⟩
theorem setSlot_ok (hg : st.get v.ref = some o) (h : hslotE st v i = 0) (he : elemE x = 0) : hsetSlot st v i x = (st.put v.ref { o with vals := o.vals.set (i - 1).toNat x }).touch v.ref ∧ hsetSlotE st v i x = 0 := by
  have e : hsetSlotE st v i x = 0 := by unfold hsetSlotE; rw [if_neg (fun hc => hc h)]; exact he
  exact ⟨by unfold hsetSlot; rw [e, if_neg (fun hc => hc rfl), upd_some hg], e⟩
end
end Go.Proofs.Ytmilekfknhglkaa
end
section
set_option linter.unusedSimpArgs false
set_option linter.unusedVariables false
namespace Go.S
open Go.Hp Go.J Go.RowKit
open Go.Mem (Ty KTy blk aggDesc)
section
variable {P : Program}
def srt (L : List Int) : List Int := L.mergeSort fun x y => decide (x ≤ y)
theorem srt_len (L : List Int) : (srt L).length = L.length := List.length_mergeSort _
theorem get_putCells (L : List Int) (arr : Array Value) (h : L.length ≤ arr.size) : (Sort.putCells (Value.int .i64) 0 L.toArray arr).toList.take L.length = L.map fun n => Value.int .i64 n := by
  apply List.ext_getElem?
  intro k
  by_cases hk : k < L.length
  · rw [List.getElem?_take, if_pos hk, Array.getElem?_toList]
    unfold Sort.putCells
    rw [Array.getElem?_mapIdx, Array.getElem?_eq_getElem (by omega)]
    simp [hk]
  · rw [List.getElem?_eq_none (by simp; omega), List.getElem?_eq_none (by simp; omega)]
theorem sf_sort {f : FuncId} {e : TypeId} {Z : Zone} {F : List Asr} {v : Value} {L : List Int} (hl : L.length < 4611686018427387904)
    (hs : ∀ (b off cap : Nat) (zs : List Int) (w : World), Sort.Holds (Value.int .i64) w b off zs.toArray → b < w.heap.size → zs.length < 4611686018427387904 → Calls P f #[.slice (some ⟨b, off, none⟩) zs.length cap] w fun e w' => e = .returned (.tuple #[]) ∧ ∃ n os, w' = Sort.grow (Sort.putRow (Value.int .i64) (Sort.ahead w n) b off (zs.mergeSort fun x y => decide (x ≤ y)).toArray) os)
    (h0 : ∀ (p : Option Addr) (cap : Nat) (w : World), Calls P f #[.slice p 0 cap] w fun e w' => e = .returned (.tuple #[]) ∧ w' = w) :
    SF P f #[v] Z (own (iT e) v L :: F) fun r Bs => r = .tuple #[] ∧ Bs = own (iT e) v (srt L) :: F :=
  sf_of (A := own (iT e) v L) (A' := own (iT e) v (srt L)) fun H S ⟨ow, hS⟩ => by
    rcases ow with ⟨rfl, rfl⟩ | ⟨g, cap, arr, rfl, h1, h2, h3, h4, h5⟩
    · intro w hw
      refine (h0 none 0 w).mono fun e' w' ⟨he, hw'⟩ => ⟨_, he, ?_, rfl, S, ⟨?_, hS⟩, ?_, fun k hk => .inl hk⟩
      · subst hw'; exact At.self _
      · exact .inl ⟨rfl, by simp [srt]⟩
      · subst hw'; rw [hw]; exact Chg.refl _ _
    · intro w hw
      have h4' : L.length ≤ arr.size := by have : (iT e).size = 1 := rfl; rw [this] at h4; omega
      have h5' : arr.toList.take L.length = L.map fun n => Value.int .i64 n := by have := h5; rw [flat_int, show (iT e).size = 1 from rfl, Nat.mul_one] at this; exact this
      have hH : Sort.Holds (Value.int .i64) w g 0 L.toArray := fun j hj => by
        have hj' : j < L.length := by simpa using hj
        have hg : w.heap[g]? = some (.cells arr e (0, 0)) := by rw [hw]; exact h1
        constructor
        · have := cell_of_row w g (0 + j) arr e (0, 0) hg
          rw [this]
          have h6 := congrArg (·[j]?) h5'
          simp only [List.getElem?_take, if_pos hj', List.getElem?_map] at h6
          rw [Array.getElem?_toList] at h6
          rw [Nat.zero_add, h6]
          simp [hj']
        · unfold World.frozen?
          simp [hg]
      refine (hs g 0 cap L w hH (by rw [hw]; exact lt_of_some h1) hl).mono fun e' w' ⟨he, n, os, hw'⟩ => ⟨_, he, ?_, rfl, S, ⟨?_, hS⟩, ?_, fun k hk => .inl hk⟩
      · subst hw'; exact ⟨rfl, rfl, rfl, rfl⟩
      · have hg : w'.heap[g]? = some (.cells (Sort.putCells (Value.int .i64) 0 (srt L).toArray arr) e (0, 0)) := by
          subst hw'
          have hg : w.heap[g]? = some (.cells arr e (0, 0)) := by rw [hw]; exact h1
          show (((w.heap.modify g (Sort.onCells (Sort.putCells (Value.int .i64) 0 (srt L).toArray))) ++ os)[g]?) = _
          rw [Array.getElem?_append_left (by rw [Array.size_modify]; exact lt_of_some hg), Array.getElem?_modify, if_pos rfl, hg]
          rfl
        refine .inr ⟨g, cap, _, by rw [srt_len], hg, by rw [srt_len]; exact h2, h3, ?_, ?_⟩
        · have : (Sort.putCells (Value.int .i64) 0 (srt L).toArray arr).size = arr.size := by simp [Sort.putCells]
          rw [this]; exact h4
        · rw [show (iT e).size = 1 from rfl, Nat.mul_one, flat_int]; exact get_putCells (srt L) arr (by rw [srt_len]; exact h4')
      · subst hw'
        rw [← hw]
        refine ⟨?_, fun k hk hn => ?_⟩
        · show w.heap.size ≤ ((w.heap.modify g _) ++ os).size
          simp
        · show (((w.heap.modify g (Sort.onCells (Sort.putCells (Value.int .i64) 0 (srt L).toArray))) ++ os)[k]?) = _
          rw [Array.getElem?_append_left (by rw [Array.size_modify]; exact hk), Array.getElem?_modify, if_neg]
          intro e1
          exact hn ((hS k).2 (by rw [← e1]; rfl))
end
end Go.S
end
section
set_option linter.unusedSimpArgs false
set_option linter.unusedVariables false
namespace Go.Proofs.Ytmilekfknhglkaa
open Go.S Go.J Go.Hp
open Go.Mem (aget aset adel apos aget_aset aget_adel)
/-- The place of the host object that has a user value. -/
def datV (ps : List (Int × (Nat × Nat))) (st : Hst) (v : Vl) (i : Int) : Value := if hslotE st v i = 0 then fndV ps st v else .pointer none
theorem dat_cases {ps : List (Int × (Nat × Nat))} {st : Hst} (h : HA ps st) (v : Vl) (i : Int) : (hslotE st v i ≠ 0 ∧ datV ps st v i = .pointer none) ∨ ∃ o q, hfind st v = some o ∧ st.get v.ref = some o ∧ o.kind = 8 ∧ v.kind = 8 ∧ aget ps v.ref = some q ∧ 1 ≤ i ∧ i ≤ 16 ∧ hslotE st v i = 0 ∧ datV ps st v i = ptrV q.1 := by
  unfold datV
  rcases slot_cases st v i with ⟨h1, _⟩ | ⟨o, h1, h2, h3, h4, h5, h6, h7, _⟩
  · exact .inl ⟨h1, if_neg h1⟩
  · rcases get_cases h v.ref with ⟨h8, _⟩ | ⟨o', q, h8, h9⟩
    · rw [h2] at h8; cases h8
    · exact .inr ⟨o, q, h1, h2, h3, h4, h9, h5, h6, h7, by rw [if_pos h7]; unfold fndV; rw [h1, h9]⟩
section
variable {ps : List (Int × (Nat × Nat))} {st : Hst} {id : Int} {o : Hob} {tm : List (Int × Bool)}
theorem countP_unset {α : Type} {p : α → Bool} : ∀ (l : List α) {i : Nat} {x y : α}, l[i]? = some x → p x = true → p y = false → (l.set i y).countP p + 1 = l.countP p
  | [], _, _, _, h, _, _ => by cases h
  | a :: r, 0, x, y, h, e, f => by
    simp only [List.getElem?_cons_zero, Option.some.injEq] at h
    subst h; simp [List.countP_cons, e, f]
  | a :: r, i + 1, x, y, h, e, f => by
    simp only [List.getElem?_cons_succ] at h
    have := countP_unset r h e f
    simp only [List.set_cons_succ, List.countP_cons]; omega
theorem count_drop (hg : st.get id = some o) : (hdrop st id).count + 1 = st.count := by
  obtain ⟨_, h1, h2, h3⟩ := get_mem hg
  rcases drop_cases st id with ⟨_, _, hn⟩ | ⟨_, _, _, e⟩
  · rw [hg] at hn; cases hn
  · rw [e]; exact countP_unset st.objs h3 rfl rfl
theorem aget_some_mem {κ β : Type} [DecidableEq κ] {m : List (κ × β)} {k : κ} {u : β} (h : aget m k = some u) : ∃ i, apos m k = some i := by
  cases hp : apos m k with
  | none => rw [Go.Mem.apos_none hp] at h; cases h
  | some i => exact ⟨i, rfl⟩
theorem adel_len {κ β : Type} [DecidableEq κ] {m : List (κ × β)} {k : κ} {u : β} (h : aget m k = some u) : (adel m k).length + 1 = m.length := by
  obtain ⟨i, hp⟩ := aget_some_mem h
  rw [Go.Mem.adel_pos hp]
  have := (Go.Mem.apos_lt hp).1
  rw [List.length_eraseIdx_of_lt this]; omega
theorem HA.drop (h : HA ps st) (hnd : (ps.map Prod.fst).Nodup) {q : Nat × Nat} (hq : aget ps id = some q) (hg : st.get id = some o) : HA (adel ps id) (hdrop st id) := by
  refine ⟨fun id' => ?_, ?_⟩
  · rw [aget_adel hnd, get_drop]
    by_cases e : id' = id
    · subst e; simp
    · rw [if_neg e, if_neg e]; exact h.has id'
  · have h1 := adel_len hq
    have h2 := count_drop hg
    have := h.len; omega
theorem TA.drop (h : TA tm st) (id : Int) : TA tm (hdrop st id) := fun id' x hx => by
  rw [get_drop] at hx
  by_cases e : id' = id
  · rw [if_pos e] at hx; cases hx
  · rw [if_neg e] at hx
    rw [drop_len.2]; exact h id' x hx
theorem TA.untch (st : Hst) : TA [] (huntch st) := fun id x hx => by
  show (aget ([] : List (Int × Bool)) id).isSome = ((st.tch.map fun _ => false)[id.toNat - 1]?).getD false
  rw [List.getElem?_map]
  cases (st.tch[id.toNat - 1]?) <;> rfl
/-! ### Identities -/
theorem halive_iff : halive st id = true ↔ ∃ o, st.get id = some o := by
  unfold halive; rw [Option.isSome_iff_exists]
theorem mem_hids : id ∈ hids st ↔ halive st id = true := by
  unfold hids
  rw [List.mem_filter, List.mem_map]
  constructor
  · exact fun h => h.2
  · intro h
    obtain ⟨o, ho⟩ := halive_iff.1 h
    obtain ⟨_, h1, h2, _⟩ := get_mem ho
    exact ⟨⟨id.toNat - 1, List.mem_range.2 (by omega), by omega⟩, h⟩
theorem hids_asc (st : Hst) : (hids st).Pairwise (· < ·) := by
  unfold hids
  refine List.Pairwise.filter _ (List.Pairwise.map _ (fun a b hab => ?_) List.pairwise_lt_range)
  show (a : Int) + 1 < (b : Int) + 1
  omega
theorem srt_perm' {A B : List Int} (h : A.Perm B) : srt A = srt B := by
  unfold srt
  refine List.Perm.eq_of_pairwise (le := fun x y : Int => decide (x ≤ y)) ?_ (List.pairwise_mergeSort (by simp; omega) (by simp; omega) A) (List.pairwise_mergeSort (by simp; omega) (by simp; omega) B) ((List.mergeSort_perm A _).trans (h.trans (List.mergeSort_perm B _).symm))
  intro a b _ _ h1 h2
  simp at h1 h2; omega
theorem srt_asc' {A : List Int} (h : A.Pairwise (· < ·)) : srt A = A := List.mergeSort_of_pairwise (h.imp fun h => by simp; omega)
theorem perm_of_mem {A B : List Int} (ha : A.Nodup) (hb : B.Nodup) (h : ∀ x, x ∈ A ↔ x ∈ B) : A.Perm B := (List.perm_ext_iff_of_nodup ha hb).2 h
theorem asc_nodup {A : List Int} (h : A.Pairwise (· < ·)) : A.Nodup := h.imp fun h => by omega
theorem mem_keys (h : HA ps st) : id ∈ ps.map Prod.fst ↔ halive st id = true := by
  have h1 := Go.Mem.aget_none_iff ps id
  unfold halive
  rw [← h.has id]
  cases hq : aget ps id with
  | none => simp [h1.1 hq]
  | some q =>
    simp only [Option.isSome_some, iff_true]
    apply Decidable.byContradiction
    intro hc
    rw [h1.2 hc] at hq; cases hq
theorem keys_perm (h : HA ps st) (hnd : (ps.map Prod.fst).Nodup) : (ps.map Prod.fst).Perm (hids st) := perm_of_mem hnd (asc_nodup (hids_asc st)) fun x => (mem_keys h).trans mem_hids.symm
theorem sum_perm {A B : List Int} (h : A.Perm B) : A.sum = B.sum := by
  induction h with
  | nil => rfl
  | cons x _ ih => simp only [List.sum_cons, ih]
  | swap x y l => simp only [List.sum_cons]; omega
  | trans _ _ ih1 ih2 => exact ih1.trans ih2
theorem size_keys (h : HA ps st) (hnd : (ps.map Prod.fst).Nodup) : (ps.map fun p => obSize (st.ob p.1)).sum = hsize st := by
  have := (keys_perm h hnd).map fun id => obSize (st.ob id)
  rw [List.map_map] at this
  exact sum_perm this
theorem tch_keys (h : TA tm st) (hnd : (tm.map Prod.fst).Nodup) : ((tm.map Prod.fst).filter fun id => halive st id).Perm (htchd st) := by
  refine perm_of_mem (hnd.filter _) ((asc_nodup (hids_asc st)).filter _) fun x => ?_
  unfold htchd
  rw [List.mem_filter, List.mem_filter, mem_hids]
  constructor
  · rintro ⟨h1, h2⟩
    obtain ⟨o, ho⟩ := halive_iff.1 h2
    refine ⟨h2, ?_⟩
    rw [← h x o ho]
    have := Go.Mem.aget_none_iff tm x
    cases hq : aget tm x with
    | none => exact absurd h1 (this.1 hq)
    | some u => rfl
  · rintro ⟨h1, h2⟩
    obtain ⟨o, ho⟩ := halive_iff.1 h1
    rw [← h x o ho] at h2
    refine ⟨?_, h1⟩
    apply Decidable.byContradiction
    intro hc
    rw [(Go.Mem.aget_none_iff tm x).2 hc] at h2; cases h2
theorem tch_srt (h : TA tm st) (hnd : (tm.map Prod.fst).Nodup) : srt ((tm.map Prod.fst).filter fun id => halive st id) = htchd st := by
  rw [srt_perm' (tch_keys h hnd)]; exact srt_asc' ((hids_asc st).filter _)
end
end Go.Proofs.Ytmilekfknhglkaa
end
section
set_option linter.unusedSimpArgs false
set_option linter.unusedVariables false
set_option maxRecDepth 100000
set_option maxHeartbeats 2000000
namespace Go.Proofs.Ytmilekfknhglkaa
open Go.Hp Go.J Go.S
open Go.Mem (Ty KTy blk elemAt pre suf blk_pre blk_suf aget aset strK aggDesc)
open Go.Mem (adel apos aget_aset aget_adel)
section
variable {Z : Zone} {F : List Asr} {H : Heap} {b : Nat} {st : Hst} {ps : List (Int × (Nat × Nat))} {id : Int} {q : Nat × Nat} {o : Hob}
theorem hlenV_none {t : Vl} (h : htab st t = none) : hlenV st t = 0 := by unfold hlenV; rw [h]
theorem hlenV_some {t : Vl} {T : Tb} (h : htab st t = some T) : hlenV st t = (T.list.length : Int) := by unfold hlenV; rw [h]
theorem hnext_none {t k : Vl} (h : htab st t = none) : hnext st t k = (zVl, zVl, false, 8) := by unfold hnext; rw [h]
theorem hnext_some {t k : Vl} {T : Tb} (h : htab st t = some T) : hnext st t k = tnext T k := by unfold hnext; rw [h]
end
theorem hlen_s {Z : Zone} {F : List Asr} {b : Nat} {st : Hst} {n : Nat} (hsm : HSm n st) (hn : n ≤ 300) (t : Vl) : SF Try.prog 15 #[.pointer (some ⟨b, 0, none⟩), t.v] Z (hpA b st :: F) fun r Bs => r = .tuple #[.int .i64 (hlenV st t), .int .i64 (hgetE st t)] ∧ Bs = hpA b st :: F := by
 refine sf_enter Try.func15 16 [(0, pB b 0), (1, .agg #[.int .i64 t.kind, .int .i64 t.p, .int .i64 t.q, .string t.str, .int .i64 t.ref])] (fun w0 => ?_)
 refine k_sr ?_
 refine s_box #[.int .i64 t.kind, .int .i64 t.p, .int .i64 t.q, .string t.str, .int .i64 t.ref] (fun g1 => ?_)
 refine sp (.int .i64 0) ?_
 refine sp (.int .i64 0) ?_
 refine s_nr ?_
 refine sp (pB b 0) ?_
 refine s_lt (t_loadA 0 #[.int .i64 t.kind, .int .i64 t.p, .int .i64 t.q, .string t.str, .int .i64 t.ref]) ?_
 refine s_memX (fun H h => hpA_open (h.re [1] [])) (fun ps2 _ => ?_)
 refine s_fact (fun H h => hp_facts (h.re [0] [])) (fun hf3 => ?_)
 obtain ⟨hi4, ha5⟩ := hf3
 refine s_call [0] (htab_s (st := st) (ps := ps2) t) ?_
 rintro u6 _ ⟨e7, rfl⟩
 rcases tb_cases ha5 t with ⟨ht8, hv9⟩ | ⟨o10, q11, ht12, ho13, hk14, hk15, hq16, hv17⟩
 ·
  rw [hv9] at e7; subst e7
  refine sp (.pointer none) ?_
  refine s_nt ?_
  refine k_seq ?_
  refine k_sr ?_
  refine sp (.pointer none) ?_
  refine sp (.bool true) ?_
  refine s_nt ?_
  refine k_true ?_
  refine k_sr ?_
  refine sp (pB b 0) ?_
  refine s_vcall (fun _ h => hmiss_s (F := [])) ?_
  rintro _ rfl
  refine sp (.int .i64 0) ?_
  refine sp (.int .i64 8) ?_
  refine s_nt ?_
  refine k_ret ?_
  refine xs_ret ?_
  refine xs_mem (fun _ h => hpA_shut (h.re [0] [])) ?_
  refine xs_fin [.int .i64 0, .int .i64 8] (hpA b st :: F) (SI.tmp 4 (SI.tmp 5 SI.nil)) (fun _ h => h.re [0] [1]) ⟨?_, ?_⟩
  · rw [hlenV_none ht8, hgetE_none ht8]; try rfl
  · rfl
 ·
  rw [hv17] at e7; subst e7
  refine sp (pB q11.2 0) ?_
  refine s_nt ?_
  refine k_seq ?_
  refine k_sr ?_
  refine sp (pB q11.2 0) ?_
  refine sp (.bool false) ?_
  refine s_nt ?_
  refine k_false ?_
  refine k_st ?_
  refine k_sr ?_
  refine sp (pB q11.2 0) ?_
  refine s_mem (fun _ h => tab_out hq16 ho13 hk14 (h.re [0] [])) ?_
  obtain ⟨hl18, hl182, _⟩ := hsm.obs o10 (get_mem ho13).1
  have hl183 : n * (n + 1) ≤ 300 * 301 := Nat.mul_le_mul (by omega) (by omega)
  refine s_call [0] (tblen_s (L := o10.tab.list) (S := o10.tab.rest)) ?_
  rintro _ _ ⟨rfl, rfl⟩
  refine sp (.int .i64 (o10.tab.list.length : Int)) ?_
  refine sp (.int .i64 0) ?_
  refine s_nt ?_
  refine k_ret ?_
  refine xs_mem (fun _ h => tab_back hq16 ho13 hk14 (h.re [0, 0] [])) ?_
  refine xs_mem (fun _ h => hpA_shut (h.re [0] [])) ?_
  refine xs_fin [.int .i64 (o10.tab.list.length : Int), .int .i64 0] (hpA b st :: F) (SI.tmp 4 (SI.tmp 5 SI.nil)) (fun _ h => h.re [0] [1]) ⟨?_, ?_⟩
  · rw [hlenV_some ht12, hgetE_some ht12]; try rfl
  · rfl
theorem hnext_s {Z : Zone} {F : List Asr} {b : Nat} {st : Hst} {n : Nat} (hsm : HSm n st) (hn : n ≤ 300) (t k : Vl) : SF Try.prog 16 #[.pointer (some ⟨b, 0, none⟩), t.v, k.v] Z (hpA b st :: F) fun r Bs => r = nextV (hnext st t k) ∧ Bs = hpA b st :: F := by
 refine sf_enter Try.func16 27 [(0, pB b 0), (1, .agg #[.int .i64 t.kind, .int .i64 t.p, .int .i64 t.q, .string t.str, .int .i64 t.ref]), (2, .agg #[.int .i64 k.kind, .int .i64 k.p, .int .i64 k.q, .string k.str, .int .i64 k.ref])] (fun w0 => ?_)
 refine k_sr ?_
 refine s_box #[.int .i64 t.kind, .int .i64 t.p, .int .i64 t.q, .string t.str, .int .i64 t.ref] (fun g1 => ?_)
 refine s_box #[.int .i64 k.kind, .int .i64 k.p, .int .i64 k.q, .string k.str, .int .i64 k.ref] (fun g2 => ?_)
 refine s_alloc (.agg #[.int .i64 0, .int .i64 0, .int .i64 0, .string ByteArray.empty, .int .i64 0]) #[.int .i64 0, .int .i64 0, .int .i64 0, .string ByteArray.empty, .int .i64 0] (fun g3 => ?_)
 refine s_alloc (.agg #[.int .i64 0, .int .i64 0, .int .i64 0, .string ByteArray.empty, .int .i64 0]) #[.int .i64 0, .int .i64 0, .int .i64 0, .string ByteArray.empty, .int .i64 0] (fun g4 => ?_)
 refine sp (.bool false) ?_
 refine sp (.int .i64 0) ?_
 refine s_nr ?_
 refine sp (pB b 0) ?_
 refine s_lt (t_loadA 3 #[.int .i64 t.kind, .int .i64 t.p, .int .i64 t.q, .string t.str, .int .i64 t.ref]) ?_
 refine s_memX (fun H h => hpA_open (h.re [4] [])) (fun ps5 _ => ?_)
 refine s_fact (fun H h => hp_facts (h.re [0] [])) (fun hf6 => ?_)
 obtain ⟨hi7, ha8⟩ := hf6
 refine s_call [0] (htab_s (st := st) (ps := ps5) t) ?_
 rintro u9 _ ⟨e10, rfl⟩
 rcases tb_cases ha8 t with ⟨ht11, hv12⟩ | ⟨o13, q14, ht15, ho16, hk17, hk18, hq19, hv20⟩
 ·
  rw [hv12] at e10; subst e10
  refine sp (.pointer none) ?_
  refine s_nt ?_
  refine k_seq ?_
  refine k_sr ?_
  refine sp (.pointer none) ?_
  refine sp (.bool true) ?_
  refine s_nt ?_
  refine k_true ?_
  refine k_sr ?_
  refine s_lt (t_kern (.agg #[.int .i64 0, .int .i64 0, .int .i64 0, .string ByteArray.empty, .int .i64 0])) ?_
  refine s_lt (t_kern (.agg #[.int .i64 0, .int .i64 0, .int .i64 0, .string ByteArray.empty, .int .i64 0])) ?_
  refine sp (pB b 0) ?_
  refine s_vcall (fun _ h => hmiss_s (F := [])) ?_
  rintro _ rfl
  refine s_store 2 #[.int .i64 0, .int .i64 0, .int .i64 0, .string ByteArray.empty, .int .i64 0] ?_
  refine s_store 1 #[.int .i64 0, .int .i64 0, .int .i64 0, .string ByteArray.empty, .int .i64 0] ?_
  refine sp (.bool false) ?_
  refine sp (.int .i64 8) ?_
  refine s_nt ?_
  refine k_ret ?_
  refine xs_ret ?_
  refine xs_mem (fun _ h => hpA_shut (h.re [0] [])) ?_
  refine xs_fin [.agg #[.int .i64 0, .int .i64 0, .int .i64 0, .string ByteArray.empty, .int .i64 0], .agg #[.int .i64 0, .int .i64 0, .int .i64 0, .string ByteArray.empty, .int .i64 0], .bool false, .int .i64 8] (hpA b st :: F) (SI.agg 6 26 2 (SI.agg 7 26 1 (SI.tmp 8 (SI.tmp 9 SI.nil)))) (fun _ h => h.re [0] [1, 1, 1, 1]) ⟨?_, ?_⟩
  · rw [hnext_none ht11]; rfl
  · rfl
 ·
  rw [hv20] at e10; subst e10
  refine sp (pB q14.2 0) ?_
  refine s_nt ?_
  refine k_seq ?_
  refine k_sr ?_
  refine sp (pB q14.2 0) ?_
  refine sp (.bool false) ?_
  refine s_nt ?_
  refine k_false ?_
  refine k_st ?_
  refine k_sr ?_
  refine sp (pB q14.2 0) ?_
  refine s_lt (t_loadA 3 #[.int .i64 k.kind, .int .i64 k.p, .int .i64 k.q, .string k.str, .int .i64 k.ref]) ?_
  refine s_mem (fun _ h => tab_out hq19 ho16 hk17 (h.re [0] [])) ?_
  obtain ⟨hl21, hl212, _⟩ := hsm.obs o13 (get_mem ho16).1
  have hl213 : n * (n + 1) ≤ 300 * 301 := Nat.mul_le_mul (by omega) (by omega)
  refine s_call [0] (tbnext_s (L := o13.tab.list) (S := o13.tab.rest) (by (try simp only [lnm]); omega) (by (try simp only [lnm]); omega) k) ?_
  rintro _ _ ⟨rfl, rfl⟩
  refine sp (.agg #[.int .i64 (((tnext ⟨o13.tab.list, o13.tab.rest⟩ k).1).kind), .int .i64 (((tnext ⟨o13.tab.list, o13.tab.rest⟩ k).1).p), .int .i64 (((tnext ⟨o13.tab.list, o13.tab.rest⟩ k).1).q), .string (((tnext ⟨o13.tab.list, o13.tab.rest⟩ k).1).str), .int .i64 (((tnext ⟨o13.tab.list, o13.tab.rest⟩ k).1).ref)]) ?_
  refine sp (.agg #[.int .i64 (((tnext ⟨o13.tab.list, o13.tab.rest⟩ k).2.1).kind), .int .i64 (((tnext ⟨o13.tab.list, o13.tab.rest⟩ k).2.1).p), .int .i64 (((tnext ⟨o13.tab.list, o13.tab.rest⟩ k).2.1).q), .string (((tnext ⟨o13.tab.list, o13.tab.rest⟩ k).2.1).str), .int .i64 (((tnext ⟨o13.tab.list, o13.tab.rest⟩ k).2.1).ref)]) ?_
  refine sp (.bool ((tnext ⟨o13.tab.list, o13.tab.rest⟩ k).2.2.1)) ?_
  refine sp (.int .i64 ((tnext ⟨o13.tab.list, o13.tab.rest⟩ k).2.2.2)) ?_
  refine s_store 3 #[.int .i64 (((tnext ⟨o13.tab.list, o13.tab.rest⟩ k).1).kind), .int .i64 (((tnext ⟨o13.tab.list, o13.tab.rest⟩ k).1).p), .int .i64 (((tnext ⟨o13.tab.list, o13.tab.rest⟩ k).1).q), .string (((tnext ⟨o13.tab.list, o13.tab.rest⟩ k).1).str), .int .i64 (((tnext ⟨o13.tab.list, o13.tab.rest⟩ k).1).ref)] ?_
  refine s_store 2 #[.int .i64 (((tnext ⟨o13.tab.list, o13.tab.rest⟩ k).2.1).kind), .int .i64 (((tnext ⟨o13.tab.list, o13.tab.rest⟩ k).2.1).p), .int .i64 (((tnext ⟨o13.tab.list, o13.tab.rest⟩ k).2.1).q), .string (((tnext ⟨o13.tab.list, o13.tab.rest⟩ k).2.1).str), .int .i64 (((tnext ⟨o13.tab.list, o13.tab.rest⟩ k).2.1).ref)] ?_
  refine sp (.bool ((tnext ⟨o13.tab.list, o13.tab.rest⟩ k).2.2.1)) ?_
  refine sp (.int .i64 ((tnext ⟨o13.tab.list, o13.tab.rest⟩ k).2.2.2)) ?_
  refine s_nt ?_
  refine k_ret ?_
  refine xs_mem (fun _ h => tab_back hq19 ho16 hk17 (h.re [0, 0] [])) ?_
  refine xs_mem (fun _ h => hpA_shut (h.re [0] [])) ?_
  refine xs_fin [.agg #[.int .i64 (((tnext ⟨o13.tab.list, o13.tab.rest⟩ k).1).kind), .int .i64 (((tnext ⟨o13.tab.list, o13.tab.rest⟩ k).1).p), .int .i64 (((tnext ⟨o13.tab.list, o13.tab.rest⟩ k).1).q), .string (((tnext ⟨o13.tab.list, o13.tab.rest⟩ k).1).str), .int .i64 (((tnext ⟨o13.tab.list, o13.tab.rest⟩ k).1).ref)], .agg #[.int .i64 (((tnext ⟨o13.tab.list, o13.tab.rest⟩ k).2.1).kind), .int .i64 (((tnext ⟨o13.tab.list, o13.tab.rest⟩ k).2.1).p), .int .i64 (((tnext ⟨o13.tab.list, o13.tab.rest⟩ k).2.1).q), .string (((tnext ⟨o13.tab.list, o13.tab.rest⟩ k).2.1).str), .int .i64 (((tnext ⟨o13.tab.list, o13.tab.rest⟩ k).2.1).ref)], .bool ((tnext ⟨o13.tab.list, o13.tab.rest⟩ k).2.2.1), .int .i64 ((tnext ⟨o13.tab.list, o13.tab.rest⟩ k).2.2.2)] (hpA b st :: F) (SI.agg 6 26 2 (SI.agg 7 26 1 (SI.tmp 8 (SI.tmp 9 SI.nil)))) (fun _ h => h.re [0] [1, 1, 1, 1]) ⟨?_, ?_⟩
  · rw [hnext_some ht15]; rfl
  · rfl
theorem hdata_find {Z : Zone} {F : List Asr} {b : Nat} {st : Hst} {ps : List (Int × (Nat × Nat))} (v : Vl) (x : Int) : SF Try.prog 56 #[.pointer (some ⟨b, 0, none⟩), v.v, .int .i64 x] Z (hpP b st ps :: F) fun r Bs => r = .tuple #[datV ps st v x, .int .i64 (hslotE st v x)] ∧ Bs = hpP b st ps :: F := by
 refine sf_enter Try.func56 32 [(0, pB b 0), (1, .agg #[.int .i64 v.kind, .int .i64 v.p, .int .i64 v.q, .string v.str, .int .i64 v.ref]), (2, .int .i64 x)] (fun w0 => ?_)
 refine k_fact (fun H h => hp_facts (h.re [0] [])) (fun hf1 => ?_)
 obtain ⟨hi2, ha3⟩ := hf1
 refine k_sr ?_
 refine s_box #[.int .i64 v.kind, .int .i64 v.p, .int .i64 v.q, .string v.str, .int .i64 v.ref] (fun g4 => ?_)
 refine sp (.pointer none) ?_
 refine sp (.int .i64 0) ?_
 refine s_nr ?_
 refine sp (pB b 0) ?_
 refine s_lt (t_loadA 0 #[.int .i64 v.kind, .int .i64 v.p, .int .i64 v.q, .string v.str, .int .i64 v.ref]) ?_
 refine s_call [1] (hfind_s (st := st) (ps := ps) v) ?_
 rintro u5 _ ⟨e6, rfl⟩
 rcases fnd_cases ha3 v with ⟨hf7, ht8, hv9, hv10⟩ | ⟨o11, q12, hf13, ho14, hk15, hq16, hv17, hv18⟩
 ·
  rw [hv9] at e6; subst e6
  refine sp (.pointer none) ?_
  refine s_nt ?_
  refine k_seq ?_
  refine k_block ?_
  refine k_sr ?_
  refine sp (.pointer none) ?_
  refine sp (.bool true) ?_
  refine sp (.bool true) ?_
  refine s_skip ?_
  refine s_skip ?_
  refine s_skip ?_
  refine s_skip ?_
  refine s_skip ?_
  refine sp (.bool true) ?_
  refine sp (.bool true) ?_
  refine s_nt ?_
  refine k_true ?_
  refine k_sr ?_
  refine sp (pB b 0) ?_
  refine s_vcall (fun _ h => hmiss_s (F := [])) ?_
  rintro _ rfl
  refine sp (.pointer none) ?_
  refine sp (.int .i64 8) ?_
  refine s_nt ?_
  refine k_ret ?_
  refine xs_retBlock ?_
  refine xs_ret ?_
  have he : hslotE st v x = 8 := by unfold hslotE; rw [hf7]
  refine xs_fin [.pointer none, .int .i64 8] (hpP b st ps :: F) (SI.tmp 6 (SI.tmp 7 SI.nil)) (fun _ h => h.re [0] [1]) ⟨?_, rfl⟩
  rw [he]; unfold datV; rw [if_neg (by rw [he]; decide)]; rfl
 ·
  rw [hv17] at e6; subst e6
  refine sp (pB q12.1 0) ?_
  refine s_nt ?_
  refine k_seq ?_
  refine k_block ?_
  refine k_sr ?_
  refine sp (pB q12.1 0) ?_
  refine sp (.bool false) ?_
  refine sp (.bool false) ?_
  refine sp (pB q12.1 0) ?_
  refine sp (pB q12.1 0) ?_
  refine sp (pB q12.1 0) ?_
  refine s_mem3 (fun H h => hp_open (h.re [0] [])) (fun mb19 tb20 tm21 hw => ?_)
  obtain ⟨hi22, ha23, ht24⟩ := hw
  refine s_memX (fun H h => all_focus hq16 ho14 (h.re [3] [])) (fun v25 _ => ?_)
  refine s_lt (t_load 0 (.int .i64 o11.kind)) ?_
  refine s_lt t_cmp ?_
  refine sp (.bool (decide (o11.kind ≠ 8))) ?_
  refine sp (.bool (decide (o11.kind ≠ 8))) ?_
  refine s_nt ?_
  refine k_cond (decide (o11.kind ≠ 8)) (fun c26 => ?_) (fun c26 => ?_)
  ·
   have p27 := of_decide_eq_true c26
   refine k_sr ?_
   refine sp (pB b 0) ?_
   refine s_vcall (fun _ h => hmiss_s (F := [])) ?_
   rintro _ rfl
   refine sp (.pointer none) ?_
   refine sp (.int .i64 8) ?_
   refine s_nt ?_
   refine k_ret ?_
   refine xs_retBlock ?_
   refine xs_ret ?_
   refine xs_fact (fun H h => (h.mp (i := 5) rfl).nodup) (fun hnd28 => ?_)
   refine xs_mem (fun _ h => (put_same ho14) ▸ all_unfocus (o' := o11) hnd28 hq16 ho14 (ob_shut (o := o11) (h.re [0, 0, 0, 0] []))) ?_
   refine xs_mem (Bs := allP ps st :: blkA b #[.map (some mb19), .int .i64 (st.objs.length : Int), .map (some tb20)] 76 :: mpA iK oV mb19 ps :: mpA iK bV tb20 tm21 :: blkA g4 #[.int .i64 v.kind, .int .i64 v.p, .int .i64 v.q, .string v.str, .int .i64 v.ref] 26 :: F) (fun _ h => h) ?_
   refine xs_mem (fun _ h => hp_shut (st := st) (n := (st.objs.length : Int)) ⟨⟨hi22, ha23, ht24⟩, rfl⟩ (h.re [1, 1, 1, 0] [])) ?_
   have he : hslotE st v x = 8 := by unfold hslotE; rw [hf13]; simp_all <;> omega
   refine xs_fin [.pointer none, .int .i64 8] (hpP b st ps :: F) (SI.tmp 6 (SI.tmp 7 SI.nil)) (fun _ h => h.re [0] [1]) ⟨?_, rfl⟩
   rw [he]; unfold datV; rw [if_neg (by rw [he]; decide)]; rfl
  ·
   have p29 := Decidable.not_not.1 (of_decide_eq_false c26)
   refine k_sr ?_
   refine sp (.int .i64 x) ?_
   refine s_lt t_cmp ?_
   refine sp (.bool (decide (x < 1))) ?_
   refine s_fork 27 (decide (x < 1)) (fun c30 => ?_) (fun c30 => ?_)
   ·
    have p31 := of_decide_eq_true c30
    refine s_skip ?_
    refine s_skip ?_
    refine sp (.bool true) ?_
    refine sp (.bool true) ?_
    refine s_nt ?_
    refine k_true ?_
    refine k_sr ?_
    refine sp (.pointer none) ?_
    refine sp (.int .i64 6) ?_
    refine s_nt ?_
    refine k_ret ?_
    refine xs_retBlock ?_
    refine xs_ret ?_
    refine xs_fact (fun H h => (h.mp (i := 5) rfl).nodup) (fun hnd32 => ?_)
    refine xs_mem (fun _ h => (put_same ho14) ▸ all_unfocus (o' := o11) hnd32 hq16 ho14 (ob_shut (o := o11) (h.re [0, 0, 0, 0] []))) ?_
    refine xs_mem (Bs := allP ps st :: blkA b #[.map (some mb19), .int .i64 (st.objs.length : Int), .map (some tb20)] 76 :: mpA iK oV mb19 ps :: mpA iK bV tb20 tm21 :: blkA g4 #[.int .i64 v.kind, .int .i64 v.p, .int .i64 v.q, .string v.str, .int .i64 v.ref] 26 :: F) (fun _ h => h) ?_
    refine xs_mem (fun _ h => hp_shut (st := st) (n := (st.objs.length : Int)) ⟨⟨hi22, ha23, ht24⟩, rfl⟩ (h.re [1, 1, 1, 0] [])) ?_
    have he : hslotE st v x = 6 := by unfold hslotE; rw [hf13]; simp_all <;> omega
    refine xs_fin [.pointer none, .int .i64 6] (hpP b st ps :: F) (SI.tmp 6 (SI.tmp 7 SI.nil)) (fun _ h => h.re [0] [1]) ⟨?_, rfl⟩
    rw [he]; unfold datV; rw [if_neg (by rw [he]; decide)]; rfl
   ·
    have p33 := of_decide_eq_false c30
    refine sp (.int .i64 x) ?_
    refine s_lt t_cmp ?_
    refine sp (.bool (decide ((16 : Int) < x))) ?_
    refine sp (.bool (decide ((16 : Int) < x))) ?_
    refine s_nt ?_
    refine k_cond (decide ((16 : Int) < x)) (fun c34 => ?_) (fun c34 => ?_)
    ·
     have p35 := of_decide_eq_true c34
     refine k_sr ?_
     refine sp (.pointer none) ?_
     refine sp (.int .i64 6) ?_
     refine s_nt ?_
     refine k_ret ?_
     refine xs_retBlock ?_
     refine xs_ret ?_
     refine xs_fact (fun H h => (h.mp (i := 5) rfl).nodup) (fun hnd36 => ?_)
     refine xs_mem (fun _ h => (put_same ho14) ▸ all_unfocus (o' := o11) hnd36 hq16 ho14 (ob_shut (o := o11) (h.re [0, 0, 0, 0] []))) ?_
     refine xs_mem (Bs := allP ps st :: blkA b #[.map (some mb19), .int .i64 (st.objs.length : Int), .map (some tb20)] 76 :: mpA iK oV mb19 ps :: mpA iK bV tb20 tm21 :: blkA g4 #[.int .i64 v.kind, .int .i64 v.p, .int .i64 v.q, .string v.str, .int .i64 v.ref] 26 :: F) (fun _ h => h) ?_
     refine xs_mem (fun _ h => hp_shut (st := st) (n := (st.objs.length : Int)) ⟨⟨hi22, ha23, ht24⟩, rfl⟩ (h.re [1, 1, 1, 0] [])) ?_
     have he : hslotE st v x = 6 := by unfold hslotE; rw [hf13]; simp_all <;> omega
     refine xs_fin [.pointer none, .int .i64 6] (hpP b st ps :: F) (SI.tmp 6 (SI.tmp 7 SI.nil)) (fun _ h => h.re [0] [1]) ⟨?_, rfl⟩
     rw [he]; unfold datV; rw [if_neg (by rw [he]; decide)]; rfl
    ·
     have p37 := of_decide_eq_false c34
     refine k_skip ?_
     refine xs_block ?_
     refine xs_then ?_
     refine k_sr ?_
     refine sp (pB q12.1 0) ?_
     refine sp (pB q12.1 0) ?_
     refine sp (.int .i64 0) ?_
     refine s_nt ?_
     refine k_ret ?_
     refine xs_fact (fun H h => (h.mp (i := 5) rfl).nodup) (fun hnd38 => ?_)
     refine xs_mem (fun _ h => (put_same ho14) ▸ all_unfocus (o' := o11) hnd38 hq16 ho14 (ob_shut (o := o11) (h.re [0, 0, 0, 0] []))) ?_
     refine xs_mem (Bs := allP ps st :: blkA b #[.map (some mb19), .int .i64 (st.objs.length : Int), .map (some tb20)] 76 :: mpA iK oV mb19 ps :: mpA iK bV tb20 tm21 :: blkA g4 #[.int .i64 v.kind, .int .i64 v.p, .int .i64 v.q, .string v.str, .int .i64 v.ref] 26 :: F) (fun _ h => h) ?_
     refine xs_mem (fun _ h => hp_shut (st := st) (n := (st.objs.length : Int)) ⟨⟨hi22, ha23, ht24⟩, rfl⟩ (h.re [1, 1, 1, 0] [])) ?_
     have he : hslotE st v x = 0 := by unfold hslotE; rw [hf13]; simp_all <;> omega
     refine xs_fin [pB q12.1 0, .int .i64 0] (hpP b st ps :: F) (SI.tmp 6 (SI.tmp 7 SI.nil)) (fun _ h => h.re [0] [1]) ⟨?_, rfl⟩
     rw [he]; unfold datV; rw [if_pos he]; unfold fndV; rw [hf13, hq16]; rfl
theorem hsetslot_s {Z : Zone} {F : List Asr} {b : Nat} {st : Hst} (hw : HW st) (v : Vl) (x : Int) (y : Vl) : SF Try.prog 25 #[.pointer (some ⟨b, 0, none⟩), v.v, .int .i64 x, y.v] Z (hpA b st :: F) fun r Bs => r = .int .i64 (hsetSlotE st v x y) ∧ Bs = hpA b (hsetSlot st v x y) :: F := by
 refine sf_enter Try.func25 38 [(0, pB b 0), (1, .agg #[.int .i64 v.kind, .int .i64 v.p, .int .i64 v.q, .string v.str, .int .i64 v.ref]), (2, .int .i64 x), (3, .agg #[.int .i64 y.kind, .int .i64 y.p, .int .i64 y.q, .string y.str, .int .i64 y.ref])] (fun w0 => ?_)
 refine k_sr ?_
 refine s_box #[.int .i64 v.kind, .int .i64 v.p, .int .i64 v.q, .string v.str, .int .i64 v.ref] (fun g1 => ?_)
 refine s_box #[.int .i64 y.kind, .int .i64 y.p, .int .i64 y.q, .string y.str, .int .i64 y.ref] (fun g2 => ?_)
 refine sp (.int .i64 0) ?_
 refine s_nr ?_
 refine sp (pB b 0) ?_
 refine s_lt (t_loadA 1 #[.int .i64 v.kind, .int .i64 v.p, .int .i64 v.q, .string v.str, .int .i64 v.ref]) ?_
 refine sp (.int .i64 x) ?_
 refine s_memX (fun H h => hpA_open (h.re [2] [])) (fun ps3 _ => ?_)
 refine s_fact (fun H h => hp_facts (h.re [0] [])) (fun hf4 => ?_)
 obtain ⟨hi5, ha6⟩ := hf4
 refine s_call [0] (hdata_find (st := st) (ps := ps3) v x) ?_
 rintro u7 _ ⟨e8, rfl⟩
 rcases dat_cases ha6 v x with ⟨he9, hv10⟩ | ⟨o11, q12, hf13, ho14, hk15, hk16, hq17, hx18, hx19, he20, hv21⟩
 ·
  rw [hv10] at e8; subst e8
  refine sp (.tuple #[.pointer none, .int .i64 (hslotE st v x)]) ?_
  refine sp (.pointer none) ?_
  refine sp (.int .i64 (hslotE st v x)) ?_
  refine sp (.pointer none) ?_
  refine sp (.int .i64 (hslotE st v x)) ?_
  refine s_nt ?_
  refine k_seq ?_
  refine k_sr ?_
  refine sp (.int .i64 (hslotE st v x)) ?_
  refine s_lt (Lt.to t_cmp (congrArg Value.bool ((decide_eq_true he9) : (decide ((hslotE st v x) ≠ 0)) = true))) ?_
  refine s_nt ?_
  refine k_true ?_
  refine k_sr ?_
  refine sp (.int .i64 (hslotE st v x)) ?_
  refine sp (.int .i64 (hslotE st v x)) ?_
  refine s_nt ?_
  refine k_ret ?_
  refine xs_ret ?_
  have hp := setSlot_err (x := y) he9
  refine xs_mem (fun _ h => hpA_shut (h.re [0] [])) ?_
  refine xs_fin [.int .i64 (hslotE st v x)] (hpA b st :: F) (SI.tmp 8 SI.nil) (fun _ h => h.re [0] [1, 1]) ⟨?_, ?_⟩
  · rw [hp.2]; try rfl
  · rw [hp.1]; try rfl
 ·
  rw [hv21, he20] at e8; subst e8
  have hvl := (hw.of ho14).data hk15
  refine sp (.tuple #[pB q12.1 0, .int .i64 0]) ?_
  refine sp (pB q12.1 0) ?_
  refine sp (.int .i64 0) ?_
  refine sp (pB q12.1 0) ?_
  refine sp (.int .i64 0) ?_
  refine s_nt ?_
  refine k_seq ?_
  refine k_sr ?_
  refine sp (.int .i64 0) ?_
  refine s_lt (t_cmp (c := false)) ?_
  refine s_nt ?_
  refine k_false ?_
  refine k_st ?_
  refine k_seq ?_
  refine k_sr ?_
  refine s_lt (t_loadA 1 #[.int .i64 y.kind, .int .i64 y.p, .int .i64 y.q, .string y.str, .int .i64 y.ref]) ?_
  refine s_vcall (fun _ h => helem_s y) ?_
  rintro _ rfl
  refine sp (.int .i64 (elemE y)) ?_
  refine s_nr ?_
  refine sp (.int .i64 (elemE y)) ?_
  refine s_lt t_cmp ?_
  refine s_nt ?_
  refine k_cond (decide ((elemE y) ≠ 0)) (fun c22 => ?_) (fun c22 => ?_)
  ·
   have p23 := of_decide_eq_true c22
   refine k_sr ?_
   refine sp (.int .i64 (elemE y)) ?_
   refine sp (.int .i64 (elemE y)) ?_
   refine s_nt ?_
   refine k_ret ?_
   refine xs_ret ?_
   have hp := setSlot_elem he20 (of_decide_eq_true c22)
   refine xs_mem (fun _ h => hpA_shut (h.re [0] [])) ?_
   refine xs_fin [.int .i64 (elemE y)] (hpA b st :: F) (SI.tmp 8 SI.nil) (fun _ h => h.re [0] [1, 1]) ⟨?_, ?_⟩
   · rw [hp.2]; try rfl
   · rw [hp.1]; try rfl
  ·
   have p24 := Decidable.not_not.1 (of_decide_eq_false c22)
   refine k_st ?_
   refine k_seq ?_
   refine k_draw ?_
   refine sp (pB q12.1 0) ?_
   refine sp (pB q12.1 0) ?_
   refine sp (pB q12.1 9) ?_
   refine s_mem3 (fun H h => hp_open (h.re [0] [])) (fun mb25 tb26 tm27 hw => ?_)
   obtain ⟨hi28, ha29, ht30⟩ := hw
   refine s_memX (fun H h => all_focus hq17 ho14 (h.re [3] [])) (fun v31 _ => ?_)
   refine s_lt (t_load 0 v31) ?_
   refine sp (.int .i64 x) ?_
   refine s_lt (t_sub x 1 (by (try simp only [lnm]); omega)) ?_
   refine s_lt (t_loadA 7 #[.int .i64 y.kind, .int .i64 y.p, .int .i64 y.q, .string y.str, .int .i64 y.ref]) ?_
   refine s_lt (t_index VlT_ok Try.underlying22 (.own 1) (x - 1) (((x - 1)).toNat) (by omega) (by (try simp only [lnm]); omega) (by omega)) ?_
   obtain ⟨y32, hy33⟩ : ∃ y, o11.vals[((x - 1)).toNat]? = some y := ⟨_, List.getElem?_eq_getElem (by (try simp only [lnm]); omega)⟩
   refine s_storeE 1 0 y VlT_ok hy33 ?_
   refine s_nil ?_
   refine x_dynS (fun _ h => by kernel_rfl) ?_
   refine xs_then ?_
   refine k_sr ?_
   refine sp (pB b 0) ?_
   refine s_lt (t_loadA 8 #[.int .i64 v.kind, .int .i64 v.p, .int .i64 v.q, .string v.str, .int .i64 v.ref]) ?_
   refine s_fact (fun H h => (h.mp (i := 5) rfl).nodup) (fun hnd34 => ?_)
   refine s_mem (fun _ h => all_unfocus (o' := { o11 with vals := (o11.vals.set (((x - 1)).toNat) y) }) hnd34 hq17 ho14 (ob_shut (o := { o11 with vals := (o11.vals.set (((x - 1)).toNat) y) }) (h.re [0, 0, 0, 0] []))) ?_
   refine s_mem (Bs := allP ps3 (st.put v.ref { o11 with vals := (o11.vals.set (((x - 1)).toNat) y) }) :: blkA b #[.map (some mb25), .int .i64 (st.objs.length : Int), .map (some tb26)] 76 :: mpA iK oV mb25 ps3 :: mpA iK bV tb26 tm27 :: blkA g2 #[.int .i64 y.kind, .int .i64 y.p, .int .i64 y.q, .string y.str, .int .i64 y.ref] 26 :: blkA g1 #[.int .i64 v.kind, .int .i64 v.p, .int .i64 v.q, .string v.str, .int .i64 v.ref] 26 :: F) (fun _ h => h) ?_
   have hob35 := hi28.obs o11 (get_mem ho14).1
   refine s_mem (fun _ h => hp_shut (st := (st.put v.ref { o11 with vals := (o11.vals.set (((x - 1)).toNat) y) })) (n := (st.objs.length : Int)) ⟨⟨put_inv hi28 ⟨hob35.kind, hob35.tab, hob35.mt⟩, ha29.put ho14, ht30.put ho14⟩, by rw [put_len]⟩ (h.re [1, 1, 1, 0] [])) ?_
   refine s_call [0] (htouch_s (st := (st.put v.ref { o11 with vals := (o11.vals.set (((x - 1)).toNat) y) })) (ps := ps3) v (show Hst.get _ _ = some { o11 with vals := (o11.vals.set (((x - 1)).toNat) y) } from by rw [get_put ho14, if_pos rfl]) 0) ?_
   rw [if_pos (rfl)]
   rintro _ _ ⟨rfl, rfl⟩
   refine sp (.int .i64 0) ?_
   refine s_nt ?_
   refine k_ret ?_
   have hp := setSlot_ok ho14 he20 (Decidable.not_not.1 (of_decide_eq_false c22))
   refine xs_mem (fun _ h => hpA_shut (h.re [0] [])) ?_
   refine xs_fin [.int .i64 0] (hpA b ((st.put v.ref { o11 with vals := (o11.vals.set (((x - 1)).toNat) y) }).touch v.ref) :: F) (SI.tmp 8 SI.nil) (fun _ h => h.re [0] [1, 1]) ⟨?_, ?_⟩
   · rw [hp.2]; try rfl
   · rw [hp.1]; try rfl
theorem halive_s {Z : Zone} {F : List Asr} {b : Nat} {st : Hst}  (id : Int) : SF Try.prog 31 #[.pointer (some ⟨b, 0, none⟩), .int .i64 id] Z (hpA b st :: F) fun r Bs => r = .bool (halive st id) ∧ Bs = hpA b st :: F := by
 refine sf_enter Try.func31 16 [(0, pB b 0), (1, .int .i64 id)] (fun w0 => ?_)
 refine k_memX (fun H h => hpA_open (h.re [0] [])) (fun ps1 _ => ?_)
 refine k_fact (fun H h => hp_facts (h.re [0] [])) (fun hf2 => ?_)
 obtain ⟨hi3, ha4⟩ := hf2
 refine k_mem3 (fun H h => hp_open (h.re [0] [])) (fun mb5 tb6 tm7 hw => ?_)
 obtain ⟨hi8, ha9, ht10⟩ := hw
 refine k_sr ?_
 refine sp (.bool false) ?_
 refine s_nr ?_
 refine sp (pB b 0) ?_
 refine sp (.bool true) ?_
 refine sp (.bool true) ?_
 refine sp (pB b 0) ?_
 refine sp (pB b 0) ?_
 refine sp (pB b 0) ?_
 refine s_lt (t_load 0 (.map (some mb5))) ?_
 refine sp (.int .i64 id) ?_
 rcases get_cases ha9 id with ⟨hg11, hq12⟩ | ⟨o13, q14, ho15, hq16⟩
 ·
  refine s_lt (Lt.to (v' := .pointer none) (t_lookup 1 intOk Try.underlying73 (.pointer none) id) (by rw [hq12]; rfl)) ?_
  refine sp (.bool false) ?_
  refine sp (.bool false) ?_
  refine sp (.bool false) ?_
  refine s_nt ?_
  refine k_ret ?_
  refine xs_mem (fun _ h => hp_shut (st := st) (n := (st.objs.length : Int)) ⟨⟨hi8, ha9, ht10⟩, rfl⟩ (h.re [0, 0, 0, 0] [])) ?_
  refine xs_mem (fun _ h => hpA_shut (h.re [0] [])) ?_
  refine xs_fin [.bool false] (hpA b st :: F) (SI.tmp 4 SI.nil) (fun _ h => h.re [0] []) ⟨?_, ?_⟩
  · unfold halive; rw [hg11]; rfl
  · rfl
 ·
  refine s_lt (Lt.to (v' := ptrV q14.1) (t_lookup 1 intOk Try.underlying73 (.pointer none) id) (by rw [hq16]; rfl)) ?_
  refine sp (.bool true) ?_
  refine sp (.bool true) ?_
  refine sp (.bool true) ?_
  refine s_nt ?_
  refine k_ret ?_
  refine xs_mem (fun _ h => hp_shut (st := st) (n := (st.objs.length : Int)) ⟨⟨hi8, ha9, ht10⟩, rfl⟩ (h.re [0, 0, 0, 0] [])) ?_
  refine xs_mem (fun _ h => hpA_shut (h.re [0] [])) ?_
  refine xs_fin [.bool true] (hpA b st :: F) (SI.tmp 4 SI.nil) (fun _ h => h.re [0] []) ⟨?_, ?_⟩
  · unfold halive; rw [ho15]; rfl
  · rfl
theorem hcount_s {Z : Zone} {F : List Asr} {b : Nat} {st : Hst}   : SF Try.prog 36 #[.pointer (some ⟨b, 0, none⟩)] Z (hpA b st :: F) fun r Bs => r = .int .i64 (st.count : Int) ∧ Bs = hpA b st :: F := by
 refine sf_enter Try.func36 10 [(0, pB b 0)] (fun w0 => ?_)
 refine k_memX (fun H h => hpA_open (h.re [0] [])) (fun ps1 _ => ?_)
 refine k_fact (fun H h => hp_facts (h.re [0] [])) (fun hf2 => ?_)
 obtain ⟨hi3, ha4⟩ := hf2
 refine k_mem3 (fun H h => hp_open (h.re [0] [])) (fun mb5 tb6 tm7 hw => ?_)
 obtain ⟨hi8, ha9, ht10⟩ := hw
 refine k_sr ?_
 refine sp (.int .i64 0) ?_
 refine s_nt ?_
 refine k_seq ?_
 refine k_sr ?_
 refine sp (pB b 0) ?_
 refine sp (.bool false) ?_
 refine s_nt ?_
 refine k_false ?_
 refine k_st ?_
 refine k_sr ?_
 refine sp (pB b 0) ?_
 refine sp (pB b 0) ?_
 refine sp (pB b 0) ?_
 refine s_lt (t_load 0 (.map (some mb5))) ?_
 refine s_lt (t_lenM 1 Try.underlying73) ?_
 refine sp (.int .i64 (ps1.length : Int)) ?_
 refine s_nt ?_
 refine k_ret ?_
 refine xs_mem (fun _ h => hp_shut (st := st) (n := (st.objs.length : Int)) ⟨⟨hi8, ha9, ht10⟩, rfl⟩ (h.re [0, 0, 0, 0] [])) ?_
 refine xs_mem (fun _ h => hpA_shut (h.re [0] [])) ?_
 refine xs_fin [.int .i64 (ps1.length : Int)] (hpA b st :: F) (SI.tmp 2 SI.nil) (fun _ h => h.re [0] []) ⟨?_, ?_⟩
 · rw [← ha9.len]; rfl
 · rfl
end Go.Proofs.Ytmilekfknhglkaa
end
section
set_option linter.unusedSimpArgs false
set_option linter.unusedVariables false
namespace Go.Proofs.Ytmilekfknhglkaa
def listE : List Vl → Nat → List (Vl × Vl)
  | [], _ => []
  | v :: r, i => if v.kind ≠ 0 then (ofI ((i : Int) + 1), v) :: listE r (i + 1) else listE r (i + 1)
def liveE (S : List Slt) : List (Vl × Vl) := (live S).map fun s => (s.key, s.val)
/-- The entries of a table, in order. -/
def tents (T : Tb) : List (Vl × Vl) := listE T.list 0 ++ liveE T.rest
def hdE : List (Vl × Vl) → Vl × Vl × Bool × Int
  | [] => (zVl, zVl, false, 0)
  | p :: _ => (p.1, p.2, true, 0)
theorem hd_some {l : List (Vl × Vl)} (h : (hdE l).2.2.1 = true) : ∃ p tl, l = p :: tl := by
  cases l with
  | nil => cases h
  | cons p tl => exact ⟨p, tl, rfl⟩
theorem hd_none {l : List (Vl × Vl)} (h : (hdE l).2.2.1 = false) : l = [] := by
  cases l with
  | nil => rfl
  | cons p tl => cases h
theorem hd_err (l : List (Vl × Vl)) : (hdE l).2.2.2 = 0 := by cases l <;> rfl
theorem onext_zero (S : List Slt) : onext S zVl = hdE (liveE S) := by
  rw [onext_nil0]
  unfold liveE
  cases live S <;> rfl
where onext_nil0 : onext S zVl = ((slotV (live S).head?).1, (slotV (live S).head?).2.1, (slotV (live S).head?).2.2, 0) := by unfold onext; rw [if_pos rfl]
theorem seek_listE : ∀ (L : List Vl) (i : Nat), match seek L i with
    | none => listE L i = []
    | some p => ∃ tl, listE L i = (ofI ((p.1 : Int) + 1), p.2) :: tl
  | [], i => rfl
  | v :: r, i => by
    rw [seek]
    by_cases h : v.kind ≠ 0
    · rw [if_pos h]; exact ⟨_, by rw [listE, if_pos h]⟩
    · rw [if_neg h]
      have := seek_listE r (i + 1)
      rw [listE, if_neg h]; exact this
theorem after_hd (T : Tb) (n : Nat) : tafter T n = hdE (listE (T.list.drop n) n ++ liveE T.rest) := by
  have h := seek_listE (T.list.drop n) n
  unfold tafter
  cases hs : seek (T.list.drop n) n with
  | none => rw [hs] at h; simp only at h; rw [h]; exact onext_zero _
  | some p => rw [hs] at h; obtain ⟨tl, h⟩ := h; rw [h]; rfl
theorem next_first (T : Tb) : tnext T zVl = hdE (tents T) := by rw [tnext_nil, after_hd]; rfl
theorem listE_split {R : List (Vl × Vl)} : ∀ (L : List Vl) (i : Nat) (pre : List (Vl × Vl)) (p : Vl × Vl) (tl : List (Vl × Vl)), listE L i ++ R = pre ++ p :: tl →
    (∃ j : Nat, i ≤ j ∧ j < i + L.length ∧ p.1 = ofI ((j : Int) + 1) ∧ tl = listE (L.drop (j + 1 - i)) (j + 1) ++ R) ∨ ∃ pre', R = pre' ++ p :: tl
  | [], i, pre, p, tl, h => .inr ⟨pre, h⟩
  | y :: r, i, pre, p, tl, h => by
    rw [listE] at h
    have go : ∀ pre', listE r (i + 1) ++ R = pre' ++ p :: tl → (∃ j : Nat, i ≤ j ∧ j < i + (y :: r).length ∧ p.1 = ofI ((j : Int) + 1) ∧ tl = listE ((y :: r).drop (j + 1 - i)) (j + 1) ++ R) ∨ ∃ pre', R = pre' ++ p :: tl := fun pre' h' => by
      rcases listE_split r (i + 1) pre' p tl h' with ⟨j, h1, h2, h3, h4⟩ | h4
      · refine .inl ⟨j, by omega, by simp only [List.length_cons]; omega, h3, ?_⟩
        rw [h4, show j + 1 - i = (j + 1 - (i + 1)) + 1 by omega, List.drop_succ_cons]
      · exact .inr h4
    split at h
    · cases pre with
      | nil =>
        simp only [List.cons_append, List.nil_append, List.cons.injEq] at h
        refine .inl ⟨i, Nat.le_refl _, by simp, by rw [← h.1], ?_⟩
        rw [← h.2, show i + 1 - i = 1 by omega]; rfl
      | cons q pre' =>
        simp only [List.cons_append, List.cons.injEq] at h
        exact go pre' h.2
    · exact go pre h
theorem next_step {T : Tb} (h : TInv T) (hw : TW T) (hl : T.list.length ≤ 2147483646) {pre : List (Vl × Vl)} {p : Vl × Vl} {tl : List (Vl × Vl)} (he : tents T = pre ++ p :: tl) : tnext T p.1 = hdE tl := by
  rcases listE_split T.list 0 pre p tl he with ⟨j, _, h2, h3, h4⟩ | ⟨pre', h4⟩
  · obtain ⟨w1, w2, w3⟩ := whole_ofI (n := (j : Int) + 1) (by omega) (by omega)
    rw [h3, tnext_in w3 (by omega) (by omega), w1, show ((j : Int) + 1).toNat = j + 1 by omega, after_hd, h4]; rfl
  · unfold liveE at h4
    obtain ⟨A, B, hlv, hA, hB⟩ := List.map_eq_append_iff.1 h4
    obtain ⟨s, B', hB1, hp, hB2⟩ := List.map_eq_cons_iff.1 hB
    subst hB1
    subst hp
    unfold live at hlv
    obtain ⟨l1, l2, hS, hl1, hl2⟩ := List.filter_eq_append_iff.1 hlv
    obtain ⟨m1, m2, hS2, hm1, hs, hm2⟩ := List.filter_eq_cons_iff.1 hl2
    have hat : T.rest[(l1 ++ m1).length]? = some s := by rw [hS, hS2, ← List.append_assoc, List.getElem?_append_right (Nat.le_refl _)]; simp
    have hg : s.gone = false := by simpa using hs
    have hm := List.mem_of_getElem? hat
    have hk := h.rest.keys s hm
    have hz : s.key ≠ zVl := fun e => hk.2 (by rw [e]; rfl)
    have hout := hw s (live_mem.2 ⟨hm, hg⟩)
    have hr : ¬ (1 ≤ whole s.key ∧ whole s.key ≤ (T.list.length : Int)) := fun hc => by rw [inB_iff.2 hc] at hout; cases hout
    have hlast := h.rest.last hat hg
    have hon : onext T.rest s.key = hdE tl := by
      unfold onext
      rw [if_neg hz, hlast]
      simp only
      have hd : T.rest.drop ((l1 ++ m1).length + 1) = m2 := by
        rw [hS, hS2, ← List.append_assoc, List.drop_append]
        simp
      rw [hd, ← hB2]
      show _ = hdE (List.map _ B')
      have : live m2 = B' := hm2
      rw [this]
      cases B' <;> rfl
    show tnext T s.key = _
    rw [tnext_rest hz hr (by rw [hon]; exact hd_err _), hon]
theorem listE_len : ∀ (L : List Vl) (i : Nat), (listE L i).length ≤ L.length
  | [], _ => Nat.le_refl _
  | v :: r, i => by
    have := listE_len r (i + 1)
    rw [listE]
    split <;> simp only [List.length_cons] <;> omega
theorem tents_len (T : Tb) : (tents T).length ≤ T.list.length + T.rest.length := by
  unfold tents liveE
  rw [List.length_append, List.length_map]
  have h1 := listE_len T.list 0
  have h2 := cnt_le T.rest
  unfold cnt at h2; omega
/-! ### What an object shows -/
theorem idn_valid {v : Vl} (h : validB v = true) (hr : isRef v.kind = true) : idn v = v.ref ∧ 1 ≤ v.ref := by
  unfold idn
  rw [if_pos hr]
  refine ⟨rfl, ?_⟩
  unfold isRef at hr
  simp only [Bool.or_eq_true, decide_eq_true_eq] at hr
  unfold validB at h
  have h4 : v.kind = 4 ∨ v.kind = 5 ∨ v.kind = 7 ∨ v.kind = 8 := hr
  rw [if_neg (by omega), if_neg (by omega), if_neg (by omega), if_neg (by omega), if_neg (by omega), if_pos h4, Bool.and_eq_true, decide_eq_true_eq, decide_eq_true_eq] at h
  exact h.2
def refsL (l : List Vl) (i : Nat) : List Int := ((l.take i).map idn).filter fun n => decide (n ≠ 0)
theorem refsL_step {l : List Vl} {i : Nat} {y : Vl} (h : l[i]? = some y) : refsL l (i + 1) = if idn y ≠ 0 then refsL l i ++ [idn y] else refsL l i := by
  unfold refsL
  rw [List.take_add_one, h]
  simp only [Option.toList_some, List.map_append, List.map_cons, List.map_nil, List.filter_append]
  by_cases hy : idn y ≠ 0
  · rw [if_pos hy, List.filter_cons_of_pos (by simpa using hy)]; rfl
  · rw [if_neg hy, List.filter_cons_of_neg (by simpa using hy)]; simp
theorem refsL_end {l : List Vl} {i : Nat} (h : l.length ≤ i) : refsL l i = (l.map idn).filter fun n => decide (n ≠ 0) := by unfold refsL; rw [List.take_of_length_le h]
theorem refsL_len (l : List Vl) (i : Nat) : (refsL l i).length ≤ i := by
  unfold refsL
  refine Nat.le_trans (List.length_filter_le _ _) ?_
  rw [List.length_map, List.length_take]; omega
def hweak (o : Hob) (weak : Int) : Int := if o.kind = 4 ∧ 0 ≤ weak ∧ weak ≤ 3 then weak else 0
end Go.Proofs.Ytmilekfknhglkaa
end
section
set_option linter.unusedSimpArgs false
set_option linter.unusedVariables false
namespace Go.S
open Go.Hp Go.J Go.RowKit Go.Maps
open Go.Mem (Ty KTy blk intK)
open Go.WideElems (Fit rd rg rd_mk rg_of)
open Go.WideShapes (sorted_perm)
section
variable {P : Program}
end
end Go.S
end
section
set_option linter.unusedVariables false
namespace Go.Proofs
open Go.Shelf
def Try.sortA_ren : Go.Shelf.Ren := ⟨fun | 5 => 71 | 8 => 83 | 7 => 82 | 19 => 95 | 20 => 96 | 10 => 86 | 11 => 87 | 12 => 88 | 13 => 89 | 14 => 90 | 15 => 91 | 16 => 92 | 17 => 93 | 18 => 94 | 30 => 97 | 31 => 98 | 32 => 99 | 33 => 100 | 34 => 101 | 35 => 102 | 40 => 103 | n => n, fun | 23 => 54 | 25 => 3 | 3 => 3 | 32 => 121 | 22 => 54 | 0 => 0 | 44 => 132 | 46 => 134 | 4 => 4 | 36 => 125 | 35 => 124 | 41 => 89 | 5 => 5 | 9 => 9 | 53 => 135 | 57 => 139 | 63 => 141 | 64 => 142 | n => n, fun | n => n⟩
theorem Try.sortA : Go.Proofs.SlLaysM.n5 Try.prog Try.sortA_ren := {
  mixed := by kernel_rfl
  f5 := ⟨Try.f71.name, by decide, Try.func71.trans (congrArg some (by kernel_rfl))⟩
  f7 := ⟨Try.f82.name, by decide, Try.func82.trans (congrArg some (by kernel_rfl))⟩
  f8 := Try.func83.trans (congrArg some (by kernel_rfl))
  f10 := ⟨Try.f86.name, by decide, Try.func86.trans (congrArg some (by kernel_rfl))⟩
  f11 := ⟨Try.f87.name, by decide, Try.func87.trans (congrArg some (by kernel_rfl))⟩
  f12 := ⟨Try.f88.name, by decide, Try.func88.trans (congrArg some (by kernel_rfl))⟩
  f13 := ⟨Try.f89.name, by decide, Try.func89.trans (congrArg some (by kernel_rfl))⟩
  f14 := ⟨Try.f90.name, by decide, Try.func90.trans (congrArg some (by kernel_rfl))⟩
  f15 := ⟨Try.f91.name, by decide, Try.func91.trans (congrArg some (by kernel_rfl))⟩
  f16 := ⟨Try.f92.name, by decide, Try.func92.trans (congrArg some (by kernel_rfl))⟩
  f17 := ⟨Try.f93.name, by decide, Try.func93.trans (congrArg some (by kernel_rfl))⟩
  f18 := ⟨Try.f94.name, by decide, Try.func94.trans (congrArg some (by kernel_rfl))⟩
  f19 := Try.func95.trans (congrArg some (by kernel_rfl))
  f20 := Try.func96.trans (congrArg some (by kernel_rfl))
  f30 := ⟨Try.f97.name, by decide, Try.func97.trans (congrArg some (by kernel_rfl))⟩
  f31 := Try.func98.trans (congrArg some (by kernel_rfl))
  f32 := Try.func99.trans (congrArg some (by kernel_rfl))
  f33 := ⟨Try.f100.name, by decide, Try.func100.trans (congrArg some (by kernel_rfl))⟩
  f34 := ⟨Try.f101.name, by decide, Try.func101.trans (congrArg some (by kernel_rfl))⟩
  f35 := ⟨Try.f102.name, by decide, Try.func102.trans (congrArg some (by kernel_rfl))⟩
  f40 := ⟨Try.f103.name, by decide, Try.func103.trans (congrArg some (by kernel_rfl))⟩
  t0 := Try.underlying0
  a0 := Try.isAgg0
  z0 := Try.sizeOf0
  v0 := Try.zeroValue0
  t3 := Try.underlying3
  a3 := Try.isAgg3
  z3 := Try.sizeOf3
  v3 := Try.zeroValue3
  t4 := Try.underlying4
  a4 := Try.isAgg4
  z4 := Try.sizeOf4
  v4 := Try.zeroValue4
  t5 := Try.underlying5
  a5 := Try.isAgg5
  z5 := Try.sizeOf5
  v5 := Try.zeroValue5
  t9 := Try.underlying9
  a9 := Try.isAgg9
  z9 := Try.sizeOf9
  v9 := Try.zeroValue9
  t22 := Try.underlying54
  a22 := Try.isAgg54
  z22 := Try.sizeOf54
  v22 := Try.zeroValue54
  t23 := Try.underlying54
  a23 := Try.isAgg54
  z23 := Try.sizeOf54
  v23 := Try.zeroValue54
  t25 := Try.underlying3
  a25 := Try.isAgg3
  z25 := Try.sizeOf3
  v25 := Try.zeroValue3
  t32 := Try.underlying121
  a32 := Try.isAgg121
  z32 := Try.sizeOf121
  v32 := Try.zeroValue121
  t35 := Try.underlying124
  a35 := Try.isAgg124
  z35 := Try.sizeOf124
  v35 := Try.zeroValue124
  t36 := Try.underlying125
  a36 := Try.isAgg125
  z36 := Try.sizeOf125
  v36 := Try.zeroValue125
  t41 := Try.underlying89
  a41 := Try.isAgg89
  z41 := Try.sizeOf89
  v41 := Try.zeroValue89
  t44 := Try.underlying132
  a44 := Try.isAgg132
  z44 := Try.sizeOf132
  v44 := Try.zeroValue132
  t46 := Try.underlying134
  a46 := Try.isAgg134
  z46 := Try.sizeOf134
  v46 := Try.zeroValue134
  t53 := Try.underlying135
  a53 := Try.isAgg135
  z53 := Try.sizeOf135
  v53 := Try.zeroValue135
  t57 := Try.underlying139
  a57 := Try.isAgg139
  z57 := Try.sizeOf139
  v57 := Try.zeroValue139
  t63 := Try.underlying141
  a63 := Try.isAgg141
  z63 := Try.sizeOf141
  v63 := Try.zeroValue141
  t64 := Try.underlying142
  a64 := Try.isAgg142
  z64 := Try.sizeOf142
  v64 := Try.zeroValue142 }
namespace Ytmilekfknhglkaa
open Go.Hp Go.J Go.S Go.RowKit Go.Maps Go.Sort
open Go.Mem (aget aset adel)
theorem sort_s {Z : Zone} {F : List Asr} {v : Value} {L : List Int} (hl : L.length < 4611686018427387904) : SF Try.prog 71 #[v] Z (own iTy v L :: F) fun r Bs => r = .tuple #[] ∧ Bs = own iTy v (srt L) :: F :=
  sf_sort hl (fun b off cap zs w h1 h2 h3 => AnyM.slices_Sort_int Try.sortA b off cap zs w h1 h2 h3) (fun p cap w => AnyM.slices_Sort_int_none Try.sortA p cap w)
end Ytmilekfknhglkaa
end Go.Proofs
end
section
set_option linter.unusedSimpArgs false
set_option linter.unusedVariables false
set_option maxRecDepth 100000
set_option maxHeartbeats 2000000
namespace Go.Proofs.Ytmilekfknhglkaa
open Go.Hp Go.J Go.S
open Go.Mem (Ty KTy blk elemAt pre suf blk_pre blk_suf aget aset strK aggDesc)
open Go.Mem (adel apos aget_aset aget_adel)
structure Ent where
  key : Int
  val : Int
  deriving DecidableEq
abbrev Ent.v (x : Ent) : Value := .agg #[.int .i64 x.key, .int .i64 x.val]
def EntT : Ty Ent := ⟨62, 2, 16, true, Ent.v, ⟨0, 0⟩⟩
theorem EntT_ok : EntT.Ok Try.prog := ok_of EntT _ Try.t62 (by decide) (fun _ => rfl) (fun x u hu => by simp [Ty.enc, EntT, Value.cells] at hu; rcases hu with rfl | rfl <;> rfl) (fun _ => rfl) Try.underlying62 rfl (fun h => by cases h) (by kernel_rfl) (by kernel_rfl) (by kernel_rfl) (by kernel_rfl)
theorem eqEntT (x y : Ent) (w : World) : (binOp .eql 62 x.v y.v).run Try.prog w = .ok (.bool (decide (x = y))) w ∧ (binOp .neq 62 x.v y.v).run Try.prog w = .ok (.bool (!decide (x = y))) w := by
  have h := J.run_eqS (P := Try.prog) (t := 62) [0, 0] (by kernel_rfl) (by kernel_rfl) #[.int .i64 x.key, .int .i64 x.val] #[.int .i64 y.key, .int .i64 y.val] rfl rfl w
  have e : J.cellsEq [.int .i64 x.key, .int .i64 x.val] [.int .i64 y.key, .int .i64 y.val] = decide (x = y) := by
    cases x; cases y; rw [Bool.eq_iff_iff]; simp [J.cellsEq, J.cellEq]
  rw [e] at h
  exact h
def entL (l : List (Vl × Vl)) : List Ent := (l.map fun p => (⟨idn p.1, idn p.2⟩ : Ent)).filter fun e => decide (e ≠ ⟨0, 0⟩)
def entsOf (T : Tb) : List Ent := entL (tents T)
theorem entL_step (l : List (Vl × Vl)) (p : Vl × Vl) : entL (l ++ [p]) = if (⟨idn p.1, idn p.2⟩ : Ent) ≠ ⟨0, 0⟩ then entL l ++ [⟨idn p.1, idn p.2⟩] else entL l := by
  unfold entL
  rw [List.map_append, List.filter_append, List.map_cons, List.map_nil]
  by_cases h : (⟨idn p.1, idn p.2⟩ : Ent) ≠ ⟨0, 0⟩
  · rw [if_pos h]; congr 1; simp only [List.filter_cons, List.filter_nil]; rw [if_pos (decide_eq_true h)]
  · rw [if_neg h]; simp only [List.filter_cons, List.filter_nil]; rw [if_neg (fun hc => h (of_decide_eq_true hc)), List.append_nil]
theorem entL_len (l : List (Vl × Vl)) : (entL l).length ≤ l.length := by
  unfold entL
  refine Nat.le_trans (List.length_filter_le _ _) ?_
  rw [List.length_map]; exact Nat.le_refl _
def hrefs (st : Hst) (id : Int) : List Int := match st.get id with
  | some o => refsOf o
  | none => []
def hents (st : Hst) (id : Int) : List Ent := match st.get id with
  | some o => if o.kind = 4 then entsOf o.tab else []
  | none => []
def hoId (st : Hst) (id : Int) : Int := if halive st id = true then id else 0
def hoSz (st : Hst) (id : Int) : Int := match st.get id with
  | some o => obSize o
  | none => 0
def hoWk (st : Hst) (id weak : Int) : Int := match st.get id with
  | some o => hweak o weak
  | none => 0
theorem obj_none {st : Hst} {id : Int} (h : st.get id = none) (weak : Int) : halive st id = false ∧ hoId st id = 0 ∧ hoSz st id = 0 ∧ hoWk st id weak = 0 ∧ hrefs st id = [] ∧ hents st id = [] := by
  have h1 : halive st id = false := by unfold halive; rw [h]; rfl
  refine ⟨h1, ?_, ?_, ?_, ?_, ?_⟩
  · unfold hoId; rw [h1]; rfl
  all_goals first | (unfold hoSz; rw [h]) | (unfold hoWk; rw [h]) | (unfold hrefs; rw [h]) | (unfold hents; rw [h])
theorem obj_some {st : Hst} {id : Int} {o : Hob} (h : st.get id = some o) (weak : Int) : halive st id = true ∧ hoId st id = id ∧ hoSz st id = obSize o ∧ hoWk st id weak = hweak o weak ∧ hrefs st id = refsOf o ∧ hents st id = if o.kind = 4 then entsOf o.tab else [] := by
  have h1 : halive st id = true := by unfold halive; rw [h]; rfl
  refine ⟨h1, ?_, ?_, ?_, ?_, ?_⟩
  · unfold hoId; rw [h1]; rfl
  all_goals first | (unfold hoSz; rw [h]) | (unfold hoWk; rw [h]) | (unfold hrefs; rw [h]) | (unfold hents; rw [h])
section
variable {Z : Zone} {F : List Asr} {H : Heap} {b : Nat} {st : Hst} {ps : List (Int × (Nat × Nat))} {id : Int} {q : Nat × Nat} {o : Hob}
theorem all_take (hq : aget ps id = some q) (ho : st.get id = some o) (h : Holds Z (allP ps st :: F) H) : Holds Z (obP q o :: holeP ps st id :: F) H := by
  obtain ⟨v, _, h⟩ := all_focus hq ho h
  exact ob_shut h
theorem all_back (hnd : (ps.map Prod.fst).Nodup) (hq : aget ps id = some q) (ho : st.get id = some o) (h : Holds Z (obP q o :: holeP ps st id :: F) H) : Holds Z (allP ps st :: F) H := by
  have := all_unfocus hnd hq ho h
  rwa [put_same ho] at this
theorem aget_mem {m : List (Int × (Nat × Nat))} {k : Int} {u : Nat × Nat} (hn : (m.map Prod.fst).Nodup) (h : (k, u) ∈ m) : aget m k = some u := by
  induction m with
  | nil => cases h
  | cons a r ih =>
    rw [List.map_cons, List.nodup_cons] at hn
    unfold aget
    rcases List.mem_cons.1 h with rfl | h
    · simp
    · have hne : a.1 ≠ k := fun e => hn.1 (List.mem_map.2 ⟨_, h, e.symm⟩)
      have := ih hn.2 h
      simp [hne, this]
theorem nodup_sub : ∀ (A B : List Int), A.Nodup → (∀ x ∈ A, x ∈ B) → A.length ≤ B.length
  | [], B, _, _ => Nat.zero_le _
  | a :: r, B, hn, h => by
    rw [List.nodup_cons] at hn
    have ha := h a (by simp)
    have h1 := nodup_sub r (B.erase a) hn.2 fun x hx => (List.mem_erase_of_ne (fun e => hn.1 (by rw [← e]; exact hx))).2 (h x (List.mem_cons_of_mem _ hx))
    rw [List.length_erase_of_mem ha] at h1
    have := List.length_pos_of_mem ha
    simp only [List.length_cons]; omega
theorem fl_len {dn : List (Int × Bool)} (hn : (dn.map Prod.fst).Nodup) : ((dn.map Prod.fst).filter fun id => (aget ps id).isSome).length ≤ ps.length := by
  have e0 : (ps.map Prod.fst).length = ps.length := by simp
  rw [← e0]
  refine nodup_sub _ _ (hn.filter _) fun x hx => ?_
  have h1 := (List.mem_filter.1 hx).2
  apply Decidable.byContradiction
  intro hc
  rw [(Go.Mem.aget_none_iff ps x).2 hc] at h1; cases h1
theorem nodup_snoc {dn : List (Int × Bool)} {k : Int} {u : Bool} (hn : (dn.map Prod.fst).Nodup) (hk : k ∉ dn.map Prod.fst) : ((dn ++ [(k, u)]).map Prod.fst).Nodup := by
  rw [List.map_append, List.nodup_append]
  refine ⟨hn, by simp, fun a ha b hb => ?_⟩
  simp at hb
  subst hb
  exact fun e => hk (e ▸ ha)
end
theorem ident_s {Z : Zone} (v : Vl) : SF Try.prog 57 #[v.v] Z [] fun r Bs => r = .int .i64 (idn v) ∧ Bs = [] := by
 refine sf_enter Try.func57 12 [(0, .agg #[.int .i64 v.kind, .int .i64 v.p, .int .i64 v.q, .string v.str, .int .i64 v.ref])] (fun w0 => ?_)
 refine k_sr ?_
 refine s_box #[.int .i64 v.kind, .int .i64 v.p, .int .i64 v.q, .string v.str, .int .i64 v.ref] (fun g1 => ?_)
 refine sp (.int .i64 0) ?_
 refine s_nt ?_
 refine k_seq ?_
 refine k_sr ?_
 refine sp (pB g1 0) ?_
 refine s_lt (t_load 0 (.int .i64 v.kind)) ?_
 refine s_nt ?_
 refine k_block ?_
 refine k_seq ?_
 refine k_sr ?_
 refine s_lt t_cmp ?_
 refine sp (.bool (decide (v.kind = 4))) ?_
 refine s_nt ?_
 refine k_cond (decide (v.kind = 4)) (fun c2 => ?_) (fun c2 => ?_)
 ·
  have p3 := of_decide_eq_true c2
  refine k_st ?_
  refine k_true (hv := congrArg Value.bool c2) ?_
  refine k_sr ?_
  refine sp (pB g1 4) ?_
  refine s_lt (t_load 0 (.int .i64 v.ref)) ?_
  refine sp (.int .i64 v.ref) ?_
  refine s_nt ?_
  refine k_ret ?_
  refine xs_retBlock ?_
  refine xs_ret ?_
  have hp : idn v = v.ref := by unfold idn isRef; rw [if_pos (by simp only [Bool.or_eq_true, decide_eq_true_eq]; omega)]
  exact xs_fin [.int .i64 v.ref] [] (SI.tmp 2 SI.nil) (fun _ h => h.re [] [0]) ⟨by rw [hp]; rfl, rfl⟩
 ·
  have p4 := of_decide_eq_false c2
  refine k_sr ?_
  refine s_lt t_cmp ?_
  refine sp (.bool (decide (v.kind = 5))) ?_
  refine s_nt ?_
  refine k_cond (decide (v.kind = 5)) (fun c5 => ?_) (fun c5 => ?_)
  ·
   have p6 := of_decide_eq_true c5
   refine k_st ?_
   refine k_true (hv := congrArg Value.bool c5) ?_
   refine k_sr ?_
   refine sp (pB g1 4) ?_
   refine s_lt (t_load 0 (.int .i64 v.ref)) ?_
   refine sp (.int .i64 v.ref) ?_
   refine s_nt ?_
   refine k_ret ?_
   refine xs_retBlock ?_
   refine xs_ret ?_
   have hp : idn v = v.ref := by unfold idn isRef; rw [if_pos (by simp only [Bool.or_eq_true, decide_eq_true_eq]; omega)]
   exact xs_fin [.int .i64 v.ref] [] (SI.tmp 2 SI.nil) (fun _ h => h.re [] [0]) ⟨by rw [hp]; rfl, rfl⟩
  ·
   have p7 := of_decide_eq_false c5
   refine k_sr ?_
   refine s_lt t_cmp ?_
   refine sp (.bool (decide (v.kind = 7))) ?_
   refine s_nt ?_
   refine k_cond (decide (v.kind = 7)) (fun c8 => ?_) (fun c8 => ?_)
   ·
    have p9 := of_decide_eq_true c8
    refine k_st ?_
    refine k_true (hv := congrArg Value.bool c8) ?_
    refine k_sr ?_
    refine sp (pB g1 4) ?_
    refine s_lt (t_load 0 (.int .i64 v.ref)) ?_
    refine sp (.int .i64 v.ref) ?_
    refine s_nt ?_
    refine k_ret ?_
    refine xs_retBlock ?_
    refine xs_ret ?_
    have hp : idn v = v.ref := by unfold idn isRef; rw [if_pos (by simp only [Bool.or_eq_true, decide_eq_true_eq]; omega)]
    exact xs_fin [.int .i64 v.ref] [] (SI.tmp 2 SI.nil) (fun _ h => h.re [] [0]) ⟨by rw [hp]; rfl, rfl⟩
   ·
    have p10 := of_decide_eq_false c8
    refine k_reg ?_
    refine s_lt t_cmp ?_
    refine sp (.bool (decide (v.kind = 8))) ?_
    refine s_nt ?_
    refine k_cond (decide (v.kind = 8)) (fun c11 => ?_) (fun c11 => ?_)
    ·
     have p12 := of_decide_eq_true c11
     refine k_sr ?_
     refine sp (pB g1 4) ?_
     refine s_lt (t_load 0 (.int .i64 v.ref)) ?_
     refine sp (.int .i64 v.ref) ?_
     refine s_nt ?_
     refine k_ret ?_
     refine xs_retBlock ?_
     refine xs_ret ?_
     have hp : idn v = v.ref := by unfold idn isRef; rw [if_pos (by simp only [Bool.or_eq_true, decide_eq_true_eq]; omega)]
     exact xs_fin [.int .i64 v.ref] [] (SI.tmp 2 SI.nil) (fun _ h => h.re [] [0]) ⟨by rw [hp]; rfl, rfl⟩
    ·
     have p13 := of_decide_eq_false c11
     refine k_skip ?_
     refine xs_block ?_
     refine xs_then ?_
     refine k_sr ?_
     refine sp (.int .i64 0) ?_
     refine s_nt ?_
     refine k_ret ?_
     have hp : idn v = 0 := by unfold idn isRef; rw [if_neg (by simp only [Bool.or_eq_true, decide_eq_true_eq]; omega)]
     exact xs_fin [.int .i64 0] [] (SI.tmp 2 SI.nil) (fun _ h => h.re [] [0]) ⟨by rw [hp]; rfl, rfl⟩
theorem entries_s {Z : Zone} {F : List Asr} {b : Nat} {L : List Vl} {S : List Slt} (hti : TInv ⟨L, S⟩) (htw : TW ⟨L, S⟩) (hl : L.length ≤ 100000) (hs : S.length ≤ 100000) : SF Try.prog 58 #[.pointer (some ⟨b, 0, none⟩)] Z (tbA b L S :: F) fun r Bs => Bs = own EntT r (entsOf ⟨L, S⟩) :: tbA b L S :: F := by
 refine sf_enter Try.func58 43 [(0, pB b 0)] (fun w0 => ?_)
 have htl := tents_len ⟨L, S⟩
 refine k_sr ?_
 refine sp (.slice none 0 0) ?_
 refine s_nr ?_
 refine sp (.slice none 0 0) ?_
 refine s_nr ?_
 refine sp (pB b 0) ?_
 refine s_lt (t_kern (.agg #[.int .i64 0, .int .i64 0, .int .i64 0, .string ByteArray.empty, .int .i64 0])) ?_
 refine s_call [0] (tbnext_s (L := L) (S := S) (by (try simp only [lnm]); omega) (by (try simp only [lnm]); omega) zVl) ?_
 rintro _ _ ⟨rfl, rfl⟩
 refine sp (.tuple #[.agg #[.int .i64 (((tnext ⟨L, S⟩ zVl).1).kind), .int .i64 (((tnext ⟨L, S⟩ zVl).1).p), .int .i64 (((tnext ⟨L, S⟩ zVl).1).q), .string (((tnext ⟨L, S⟩ zVl).1).str), .int .i64 (((tnext ⟨L, S⟩ zVl).1).ref)], .agg #[.int .i64 (((tnext ⟨L, S⟩ zVl).2.1).kind), .int .i64 (((tnext ⟨L, S⟩ zVl).2.1).p), .int .i64 (((tnext ⟨L, S⟩ zVl).2.1).q), .string (((tnext ⟨L, S⟩ zVl).2.1).str), .int .i64 (((tnext ⟨L, S⟩ zVl).2.1).ref)], .bool ((tnext ⟨L, S⟩ zVl).2.2.1), .int .i64 ((tnext ⟨L, S⟩ zVl).2.2.2)]) ?_
 refine sp (.agg #[.int .i64 (((tnext ⟨L, S⟩ zVl).1).kind), .int .i64 (((tnext ⟨L, S⟩ zVl).1).p), .int .i64 (((tnext ⟨L, S⟩ zVl).1).q), .string (((tnext ⟨L, S⟩ zVl).1).str), .int .i64 (((tnext ⟨L, S⟩ zVl).1).ref)]) ?_
 refine sp (.agg #[.int .i64 (((tnext ⟨L, S⟩ zVl).2.1).kind), .int .i64 (((tnext ⟨L, S⟩ zVl).2.1).p), .int .i64 (((tnext ⟨L, S⟩ zVl).2.1).q), .string (((tnext ⟨L, S⟩ zVl).2.1).str), .int .i64 (((tnext ⟨L, S⟩ zVl).2.1).ref)]) ?_
 refine sp (.bool ((tnext ⟨L, S⟩ zVl).2.2.1)) ?_
 refine sp (.int .i64 ((tnext ⟨L, S⟩ zVl).2.2.2)) ?_
 refine s_alloc (.agg #[.int .i64 0, .int .i64 0, .int .i64 0, .string ByteArray.empty, .int .i64 0]) #[.int .i64 0, .int .i64 0, .int .i64 0, .string ByteArray.empty, .int .i64 0] (fun g1 => ?_)
 refine s_alloc (.agg #[.int .i64 0, .int .i64 0, .int .i64 0, .string ByteArray.empty, .int .i64 0]) #[.int .i64 0, .int .i64 0, .int .i64 0, .string ByteArray.empty, .int .i64 0] (fun g2 => ?_)
 refine s_store 1 #[.int .i64 (((tnext ⟨L, S⟩ zVl).1).kind), .int .i64 (((tnext ⟨L, S⟩ zVl).1).p), .int .i64 (((tnext ⟨L, S⟩ zVl).1).q), .string (((tnext ⟨L, S⟩ zVl).1).str), .int .i64 (((tnext ⟨L, S⟩ zVl).1).ref)] ?_
 refine s_store 0 #[.int .i64 (((tnext ⟨L, S⟩ zVl).2.1).kind), .int .i64 (((tnext ⟨L, S⟩ zVl).2.1).p), .int .i64 (((tnext ⟨L, S⟩ zVl).2.1).q), .string (((tnext ⟨L, S⟩ zVl).2.1).str), .int .i64 (((tnext ⟨L, S⟩ zVl).2.1).ref)] ?_
 refine sp (.bool ((tnext ⟨L, S⟩ zVl).2.2.1)) ?_
 refine sp (.int .i64 ((tnext ⟨L, S⟩ zVl).2.2.2)) ?_
 refine s_nt ?_
 refine k_seq ?_
 refine k_block ?_
 rw [next_first]
 refine k_mem (fun _ h => Holds.nilS (T := EntT) h) ?_
 refine k_mem (Bs := own EntT (.slice none 0 0) (entL []) :: blkA g2 #[.int .i64 (((hdE (tents ⟨L, S⟩)).2.1).kind), .int .i64 (((hdE (tents ⟨L, S⟩)).2.1).p), .int .i64 (((hdE (tents ⟨L, S⟩)).2.1).q), .string (((hdE (tents ⟨L, S⟩)).2.1).str), .int .i64 (((hdE (tents ⟨L, S⟩)).2.1).ref)] 26 :: blkA g1 #[.int .i64 (((hdE (tents ⟨L, S⟩)).1).kind), .int .i64 (((hdE (tents ⟨L, S⟩)).1).p), .int .i64 (((hdE (tents ⟨L, S⟩)).1).q), .string (((hdE (tents ⟨L, S⟩)).1).str), .int .i64 (((hdE (tents ⟨L, S⟩)).1).ref)] 26 :: tbA b L S :: F) (fun _ h => h) ?_
 refine k_loop (ι := Value × List (Vl × Vl) × List (Vl × Vl)) (fun (lx, dn, rem) => tents ⟨L, S⟩ = dn ++ rem) (fun (lx, dn, rem) => [(0, pB b 0), (3, lx), (4, pB g1 0), (5, pB g2 0), (6, .bool ((hdE rem).2.2.1)), (7, .int .i64 ((hdE rem).2.2.2))]) (fun (lx, dn, rem) => own EntT lx (entL dn) :: blkA g2 #[.int .i64 (((hdE rem).2.1).kind), .int .i64 (((hdE rem).2.1).p), .int .i64 (((hdE rem).2.1).q), .string (((hdE rem).2.1).str), .int .i64 (((hdE rem).2.1).ref)] 26 :: blkA g1 #[.int .i64 (((hdE rem).1).kind), .int .i64 (((hdE rem).1).p), .int .i64 (((hdE rem).1).q), .string (((hdE rem).1).str), .int .i64 (((hdE rem).1).ref)] 26 :: tbA b L S :: F) (fun (lx, dn, rem) => rem.length) ((.slice none 0 0), [], tents ⟨L, S⟩) rfl (sub_of rfl ⟨⟨rfl, rfl⟩, ⟨⟨rfl, rfl⟩, ⟨⟨rfl, rfl⟩, ⟨⟨rfl, rfl⟩, ⟨⟨rfl, rfl⟩, ⟨⟨rfl, rfl⟩, trivial⟩⟩⟩⟩⟩⟩) (fun _ h => h.re [0, 0, 0, 0] []) ?_
 rintro ⟨lx, dn, rem⟩ hi3
 replace hi3 : tents ⟨L, S⟩ = dn ++ rem := hi3
 show SK _ _ _ _ _ [(0, .pointer (some ⟨b, 0, none⟩)), (3, lx), (4, .pointer (some ⟨g1, 0, none⟩)), (5, .pointer (some ⟨g2, 0, none⟩)), (6, .bool ((hdE rem).2.2.1)), (7, .int .i64 ((hdE rem).2.2.2))] _ (own EntT lx (entL dn) :: blkA g2 #[.int .i64 (((hdE rem).2.1).kind), .int .i64 (((hdE rem).2.1).p), .int .i64 (((hdE rem).2.1).q), .string (((hdE rem).2.1).str), .int .i64 (((hdE rem).2.1).ref)] 26 :: blkA g1 #[.int .i64 (((hdE rem).1).kind), .int .i64 (((hdE rem).1).p), .int .i64 (((hdE rem).1).q), .string (((hdE rem).1).str), .int .i64 (((hdE rem).1).ref)] 26 :: tbA b L S :: F)
 have hel := entL_len dn
 have hdl : dn.length ≤ L.length + S.length := by have h0 := congrArg List.length hi3; rw [List.length_append] at h0; have h1 : (⟨L, S⟩ : Tb).list.length = L.length := rfl; have h2 : (⟨L, S⟩ : Tb).rest.length = S.length := rfl; omega
 refine k_seq ?_
 refine k_cut (ι := Unit) (fun _ => True) (fun _ => [(0, pB b 0), (3, lx), (4, pB g1 0), (5, pB g2 0), (21, .bool ((hdE rem).2.2.1))]) (fun _ => own EntT lx (entL dn) :: blkA g2 #[.int .i64 (((hdE rem).2.1).kind), .int .i64 (((hdE rem).2.1).p), .int .i64 (((hdE rem).2.1).q), .string (((hdE rem).2.1).str), .int .i64 (((hdE rem).2.1).ref)] 26 :: blkA g1 #[.int .i64 (((hdE rem).1).kind), .int .i64 (((hdE rem).1).p), .int .i64 (((hdE rem).1).q), .string (((hdE rem).1).str), .int .i64 (((hdE rem).1).ref)] 26 :: tbA b L S :: F) ?_ (fun _ _ => ?_)
 ·
  refine k_reg ?_
  refine sp (.bool ((hdE rem).2.2.1)) ?_
  refine sp (.bool ((hdE rem).2.2.1)) ?_
  refine s_fork 18 ((hdE rem).2.2.1) (fun c4 => ?_) (fun c4 => ?_)
  ·
   refine sp (.int .i64 ((hdE rem).2.2.2)) ?_
   refine s_lt (Lt.to t_cmp (congrArg Value.bool (decide_eq_true (hd_err rem) : (decide ((hdE rem).2.2.2 = 0)) = true))) ?_
   refine sp (.bool true) ?_
   refine s_nil ?_
   exact xs_cut () trivial (sub_of rfl ⟨⟨rfl, rfl⟩, ⟨⟨rfl, rfl⟩, ⟨⟨rfl, rfl⟩, ⟨⟨rfl, rfl⟩, ⟨⟨rfl, show Value.bool true = Value.bool ((hdE rem).2.2.1) by first | (simp only [c4, bls]; done) | simp [c4]⟩, trivial⟩⟩⟩⟩⟩) (fun _ h => h.re [0, 0, 0, 0] [])
  ·
   refine s_skip ?_
   refine s_skip ?_
   refine sp (.bool false) ?_
   refine s_nil ?_
   exact xs_cut () trivial (sub_of rfl ⟨⟨rfl, rfl⟩, ⟨⟨rfl, rfl⟩, ⟨⟨rfl, rfl⟩, ⟨⟨rfl, rfl⟩, ⟨⟨rfl, show Value.bool false = Value.bool ((hdE rem).2.2.1) by first | (simp only [c4, bls]; done) | simp [c4]⟩, trivial⟩⟩⟩⟩⟩) (fun _ h => h.re [0, 0, 0, 0] [])
 ·
  refine k_cond ((hdE rem).2.2.1) (fun c5 => ?_) (fun c5 => ?_)
  ·
   obtain ⟨p, tl, hrem⟩ := hd_some c5
   refine k_st ?_
   refine k_block ?_
   refine k_cut (ι := Nat) (fun _ => True) (fun jb8 => [(0, pB b 0), (3, lx), (4, pB g1 0), (5, pB g2 0), (8, pB jb8 0)]) (fun jb8 => blkA jb8 #[.int .i64 (idn ((hdE rem).1)), .int .i64 (idn ((hdE rem).2.1))] 62 :: own EntT lx (entL dn) :: blkA g2 #[.int .i64 (((hdE rem).2.1).kind), .int .i64 (((hdE rem).2.1).p), .int .i64 (((hdE rem).2.1).q), .string (((hdE rem).2.1).str), .int .i64 (((hdE rem).2.1).ref)] 26 :: blkA g1 #[.int .i64 (((hdE rem).1).kind), .int .i64 (((hdE rem).1).p), .int .i64 (((hdE rem).1).q), .string (((hdE rem).1).str), .int .i64 (((hdE rem).1).ref)] 26 :: tbA b L S :: F) ?_ (fun ix _ => ?_)
   ·
    refine k_held [own EntT lx (entL dn), blkA g2 #[.int .i64 (((hdE rem).2.1).kind), .int .i64 (((hdE rem).2.1).p), .int .i64 (((hdE rem).2.1).q), .string (((hdE rem).2.1).str), .int .i64 (((hdE rem).2.1).ref)] 26, blkA g1 #[.int .i64 (((hdE rem).1).kind), .int .i64 (((hdE rem).1).p), .int .i64 (((hdE rem).1).q), .string (((hdE rem).1).str), .int .i64 (((hdE rem).1).ref)] 26] ?_
    refine h_l 0 rfl [0, 0, 0] (fun _ => (t_loadA 2 #[.int .i64 (((hdE rem).1).kind), .int .i64 (((hdE rem).1).p), .int .i64 (((hdE rem).1).q), .string (((hdE rem).1).str), .int .i64 (((hdE rem).1).ref)])) ?_
    refine h_l 2 rfl [0, 0, 0] (fun _ => (t_loadA 1 #[.int .i64 (((hdE rem).2.1).kind), .int .i64 (((hdE rem).2.1).p), .int .i64 (((hdE rem).2.1).q), .string (((hdE rem).2.1).str), .int .i64 (((hdE rem).2.1).ref)])) ?_
    refine h_stepS2 1 5 ?_ ?_
    ·
     refine s_vcall (fun _ h => ident_s ((hdE rem).1)) ?_
     rintro _ rfl
     refine s_nil (xs_held [0, 0, 0] ?_)
     refine h_stepS2 3 5 ?_ ?_
     ·
      refine s_vcall (fun _ h => ident_s ((hdE rem).2.1)) ?_
      rintro _ rfl
      refine s_nil (xs_held [0, 0, 0] ?_)
      refine h_l 4 rfl [0, 0, 0] (fun _ => (t_kern (.agg #[.int .i64 (idn ((hdE rem).1)), .int .i64 (idn ((hdE rem).2.1))]))) ?_
      refine h_stepS 5 ?_
      refine s_alloc (.agg #[.int .i64 0, .int .i64 0]) #[.int .i64 0, .int .i64 0] (fun g6 => ?_)
      refine s_nil (xs_held [1, 1, 1] ?_)
      refine h_stepS 6 ?_
      refine s_store 0 #[.int .i64 (idn ((hdE rem).1)), .int .i64 (idn ((hdE rem).2.1))] ?_
      refine s_nil (xs_held [1, 1, 1] ?_)
      refine h_doneS ?_
      exact xcut g6 (fun _ h => h.re [0, 0, 0, 0, 0] [])
     ·
      refine s_alloc (.agg #[.int .i64 0, .int .i64 0]) #[.int .i64 0, .int .i64 0] (fun g7 => ?_)
      refine s_nil (xs_held [1, 1, 1] ?_)
      refine h_stepS 3 ?_
      refine s_vcall (fun _ h => ident_s ((hdE rem).2.1)) ?_
      rintro _ rfl
      refine s_nil (xs_held [1, 1, 1] ?_)
      refine h_l 4 rfl [1, 1, 1] (fun _ => (t_kern (.agg #[.int .i64 (idn ((hdE rem).1)), .int .i64 (idn ((hdE rem).2.1))]))) ?_
      refine h_stepS 6 ?_
      refine s_store 0 #[.int .i64 (idn ((hdE rem).1)), .int .i64 (idn ((hdE rem).2.1))] ?_
      refine s_nil (xs_held [1, 1, 1] ?_)
      refine h_doneS ?_
      exact xcut g7 (fun _ h => h.re [0, 0, 0, 0, 0] [])
    ·
     refine s_alloc (.agg #[.int .i64 0, .int .i64 0]) #[.int .i64 0, .int .i64 0] (fun g8 => ?_)
     refine s_nil (xs_held [1, 1, 1] ?_)
     refine h_stepS 1 ?_
     refine s_vcall (fun _ h => ident_s ((hdE rem).1)) ?_
     rintro _ rfl
     refine s_nil (xs_held [1, 1, 1] ?_)
     refine h_stepS 3 ?_
     refine s_vcall (fun _ h => ident_s ((hdE rem).2.1)) ?_
     rintro _ rfl
     refine s_nil (xs_held [1, 1, 1] ?_)
     refine h_l 4 rfl [1, 1, 1] (fun _ => (t_kern (.agg #[.int .i64 (idn ((hdE rem).1)), .int .i64 (idn ((hdE rem).2.1))]))) ?_
     refine h_stepS 6 ?_
     refine s_store 0 #[.int .i64 (idn ((hdE rem).1)), .int .i64 (idn ((hdE rem).2.1))] ?_
     refine s_nil (xs_held [1, 1, 1] ?_)
     refine h_doneS ?_
     exact xcut g8 (fun _ h => h.re [0, 0, 0, 0, 0] [])
   ·
    revert ix; intro jb8
    show SK _ _ _ _ _ [(0, .pointer (some ⟨b, 0, none⟩)), (3, lx), (4, .pointer (some ⟨g1, 0, none⟩)), (5, .pointer (some ⟨g2, 0, none⟩)), (8, .pointer (some ⟨jb8, 0, none⟩))] _ (blkA jb8 #[.int .i64 (idn ((hdE rem).1)), .int .i64 (idn ((hdE rem).2.1))] 62 :: own EntT lx (entL dn) :: blkA g2 #[.int .i64 (((hdE rem).2.1).kind), .int .i64 (((hdE rem).2.1).p), .int .i64 (((hdE rem).2.1).q), .string (((hdE rem).2.1).str), .int .i64 (((hdE rem).2.1).ref)] 26 :: blkA g1 #[.int .i64 (((hdE rem).1).kind), .int .i64 (((hdE rem).1).p), .int .i64 (((hdE rem).1).q), .string (((hdE rem).1).str), .int .i64 (((hdE rem).1).ref)] 26 :: tbA b L S :: F)
    refine k_seq ?_
    refine k_sr ?_
    refine s_lt (t_loadA 0 #[.int .i64 (idn ((hdE rem).1)), .int .i64 (idn ((hdE rem).2.1))]) ?_
    refine s_lt (t_kern (.agg #[.int .i64 0, .int .i64 0])) ?_
    refine s_lt (t_eqS (fun w => (eqEntT (⟨(idn ((hdE rem).1)), (idn ((hdE rem).2.1))⟩ : Ent) (⟨0, 0⟩ : Ent) w).2)) ?_
    refine s_nt ?_
    refine k_cond (!(decide ((⟨(idn ((hdE rem).1)), (idn ((hdE rem).2.1))⟩ : Ent) = (⟨0, 0⟩ : Ent)))) (fun c9 => ?_) (fun c9 => ?_)
    ·
     have c10 := not_t c9
     have p11 := of_decide_eq_false c10
     refine k_reg ?_
     refine sp lx ?_
     refine s_lt (t_loadA 0 #[.int .i64 (idn ((hdE rem).1)), .int .i64 (idn ((hdE rem).2.1))]) ?_
     refine s_buildSlice (e := 62) [(0, .agg #[.int .i64 (idn ((hdE rem).1)), .int .i64 (idn ((hdE rem).2.1))])] #[.int .i64 (idn ((hdE rem).1)), .int .i64 (idn ((hdE rem).2.1))] (fun g12 => ?_) (hb := by kernel_rfl)
     refine s_append (L := (entL dn)) 2 EntT_ok Try.underlying55 (.lit 0 EntT_ok [(⟨(idn ((hdE rem).1)), (idn ((hdE rem).2.1))⟩ : Ent)]) (by show _ * 16 ≤ _; (try simp only [lnm]); omega) (by (try simp only [lnm]); omega) (fun v13 => ?_)
     refine sp v13 ?_
     refine s_nt ?_
     refine k_reg ?_
     refine sp (pB b 0) ?_
     refine s_lt (t_loadA 4 #[.int .i64 (((hdE rem).1).kind), .int .i64 (((hdE rem).1).p), .int .i64 (((hdE rem).1).q), .string (((hdE rem).1).str), .int .i64 (((hdE rem).1).ref)]) ?_
     refine s_call [5] (tbnext_s (L := L) (S := S) (by (try simp only [lnm]); omega) (by (try simp only [lnm]); omega) ((hdE rem).1)) ?_
     rintro _ _ ⟨rfl, rfl⟩
     refine sp (.tuple #[.agg #[.int .i64 (((tnext ⟨L, S⟩ ((hdE rem).1)).1).kind), .int .i64 (((tnext ⟨L, S⟩ ((hdE rem).1)).1).p), .int .i64 (((tnext ⟨L, S⟩ ((hdE rem).1)).1).q), .string (((tnext ⟨L, S⟩ ((hdE rem).1)).1).str), .int .i64 (((tnext ⟨L, S⟩ ((hdE rem).1)).1).ref)], .agg #[.int .i64 (((tnext ⟨L, S⟩ ((hdE rem).1)).2.1).kind), .int .i64 (((tnext ⟨L, S⟩ ((hdE rem).1)).2.1).p), .int .i64 (((tnext ⟨L, S⟩ ((hdE rem).1)).2.1).q), .string (((tnext ⟨L, S⟩ ((hdE rem).1)).2.1).str), .int .i64 (((tnext ⟨L, S⟩ ((hdE rem).1)).2.1).ref)], .bool ((tnext ⟨L, S⟩ ((hdE rem).1)).2.2.1), .int .i64 ((tnext ⟨L, S⟩ ((hdE rem).1)).2.2.2)]) ?_
     refine sp (.agg #[.int .i64 (((tnext ⟨L, S⟩ ((hdE rem).1)).1).kind), .int .i64 (((tnext ⟨L, S⟩ ((hdE rem).1)).1).p), .int .i64 (((tnext ⟨L, S⟩ ((hdE rem).1)).1).q), .string (((tnext ⟨L, S⟩ ((hdE rem).1)).1).str), .int .i64 (((tnext ⟨L, S⟩ ((hdE rem).1)).1).ref)]) ?_
     refine sp (.agg #[.int .i64 (((tnext ⟨L, S⟩ ((hdE rem).1)).2.1).kind), .int .i64 (((tnext ⟨L, S⟩ ((hdE rem).1)).2.1).p), .int .i64 (((tnext ⟨L, S⟩ ((hdE rem).1)).2.1).q), .string (((tnext ⟨L, S⟩ ((hdE rem).1)).2.1).str), .int .i64 (((tnext ⟨L, S⟩ ((hdE rem).1)).2.1).ref)]) ?_
     refine sp (.bool ((tnext ⟨L, S⟩ ((hdE rem).1)).2.2.1)) ?_
     refine sp (.int .i64 ((tnext ⟨L, S⟩ ((hdE rem).1)).2.2.2)) ?_
     refine s_store 5 #[.int .i64 (((tnext ⟨L, S⟩ ((hdE rem).1)).1).kind), .int .i64 (((tnext ⟨L, S⟩ ((hdE rem).1)).1).p), .int .i64 (((tnext ⟨L, S⟩ ((hdE rem).1)).1).q), .string (((tnext ⟨L, S⟩ ((hdE rem).1)).1).str), .int .i64 (((tnext ⟨L, S⟩ ((hdE rem).1)).1).ref)] ?_
     refine s_store 4 #[.int .i64 (((tnext ⟨L, S⟩ ((hdE rem).1)).2.1).kind), .int .i64 (((tnext ⟨L, S⟩ ((hdE rem).1)).2.1).p), .int .i64 (((tnext ⟨L, S⟩ ((hdE rem).1)).2.1).q), .string (((tnext ⟨L, S⟩ ((hdE rem).1)).2.1).str), .int .i64 (((tnext ⟨L, S⟩ ((hdE rem).1)).2.1).ref)] ?_
     refine sp (.bool ((tnext ⟨L, S⟩ ((hdE rem).1)).2.2.1)) ?_
     refine sp (.int .i64 ((tnext ⟨L, S⟩ ((hdE rem).1)).2.2.2)) ?_
     refine s_nil ?_
     refine xs_block ?_
     have hn : tnext ⟨L, S⟩ ((hdE rem).1) = hdE tl := by rw [hrem]; exact next_step hti htw (by show L.length ≤ _; omega) (pre := dn) (by rw [hi3, hrem])
     rw [hn]
     have hE : (⟨(idn ((hdE rem).1)), (idn ((hdE rem).2.1))⟩ : Ent) = (⟨idn p.1, idn p.2⟩ : Ent) := by rw [hrem]; rfl
     have hes : ((entL dn) ++ [(⟨(idn ((hdE rem).1)), (idn ((hdE rem).2.1))⟩ : Ent)]) = entL (dn ++ [p]) := by rw [entL_step, if_pos (by rw [← hE]; exact of_decide_eq_false c10), ← hE]
     refine xs_mem (Bs := tbA b L S :: blkA g12 #[.int .i64 (idn ((hdE rem).1)), .int .i64 (idn ((hdE rem).2.1))] 62 :: blkA jb8 #[.int .i64 (idn ((hdE rem).1)), .int .i64 (idn ((hdE rem).2.1))] 62 :: own EntT v13 (entL (dn ++ [p])) :: blkA g2 #[.int .i64 (((hdE tl).2.1).kind), .int .i64 (((hdE tl).2.1).p), .int .i64 (((hdE tl).2.1).q), .string (((hdE tl).2.1).str), .int .i64 (((hdE tl).2.1).ref)] 26 :: blkA g1 #[.int .i64 (((hdE tl).1).kind), .int .i64 (((hdE tl).1).p), .int .i64 (((hdE tl).1).q), .string (((hdE tl).1).str), .int .i64 (((hdE tl).1).ref)] 26 :: F) (fun _ h => by rw [hes] at h; exact h) ?_
     exact xs_round (v13, dn ++ [p], tl) (by show tl.length < rem.length; rw [hrem]; simp) (by show _ = (dn ++ [p]) ++ tl; rw [hi3, hrem]; simp) (sub_of rfl ⟨⟨rfl, rfl⟩, ⟨⟨rfl, rfl⟩, ⟨⟨rfl, rfl⟩, ⟨⟨rfl, rfl⟩, ⟨⟨rfl, rfl⟩, ⟨⟨rfl, rfl⟩, trivial⟩⟩⟩⟩⟩⟩) (fun _ h => h.re [3, 3, 3, 0] [4, 4])
    ·
     have c14 := not_f c9
     have p15 := of_decide_eq_true c14
     refine k_st ?_
     refine k_reg ?_
     refine sp (pB b 0) ?_
     refine s_lt (t_loadA 3 #[.int .i64 (((hdE rem).1).kind), .int .i64 (((hdE rem).1).p), .int .i64 (((hdE rem).1).q), .string (((hdE rem).1).str), .int .i64 (((hdE rem).1).ref)]) ?_
     refine s_call [4] (tbnext_s (L := L) (S := S) (by (try simp only [lnm]); omega) (by (try simp only [lnm]); omega) ((hdE rem).1)) ?_
     rintro _ _ ⟨rfl, rfl⟩
     refine sp (.tuple #[.agg #[.int .i64 (((tnext ⟨L, S⟩ ((hdE rem).1)).1).kind), .int .i64 (((tnext ⟨L, S⟩ ((hdE rem).1)).1).p), .int .i64 (((tnext ⟨L, S⟩ ((hdE rem).1)).1).q), .string (((tnext ⟨L, S⟩ ((hdE rem).1)).1).str), .int .i64 (((tnext ⟨L, S⟩ ((hdE rem).1)).1).ref)], .agg #[.int .i64 (((tnext ⟨L, S⟩ ((hdE rem).1)).2.1).kind), .int .i64 (((tnext ⟨L, S⟩ ((hdE rem).1)).2.1).p), .int .i64 (((tnext ⟨L, S⟩ ((hdE rem).1)).2.1).q), .string (((tnext ⟨L, S⟩ ((hdE rem).1)).2.1).str), .int .i64 (((tnext ⟨L, S⟩ ((hdE rem).1)).2.1).ref)], .bool ((tnext ⟨L, S⟩ ((hdE rem).1)).2.2.1), .int .i64 ((tnext ⟨L, S⟩ ((hdE rem).1)).2.2.2)]) ?_
     refine sp (.agg #[.int .i64 (((tnext ⟨L, S⟩ ((hdE rem).1)).1).kind), .int .i64 (((tnext ⟨L, S⟩ ((hdE rem).1)).1).p), .int .i64 (((tnext ⟨L, S⟩ ((hdE rem).1)).1).q), .string (((tnext ⟨L, S⟩ ((hdE rem).1)).1).str), .int .i64 (((tnext ⟨L, S⟩ ((hdE rem).1)).1).ref)]) ?_
     refine sp (.agg #[.int .i64 (((tnext ⟨L, S⟩ ((hdE rem).1)).2.1).kind), .int .i64 (((tnext ⟨L, S⟩ ((hdE rem).1)).2.1).p), .int .i64 (((tnext ⟨L, S⟩ ((hdE rem).1)).2.1).q), .string (((tnext ⟨L, S⟩ ((hdE rem).1)).2.1).str), .int .i64 (((tnext ⟨L, S⟩ ((hdE rem).1)).2.1).ref)]) ?_
     refine sp (.bool ((tnext ⟨L, S⟩ ((hdE rem).1)).2.2.1)) ?_
     refine sp (.int .i64 ((tnext ⟨L, S⟩ ((hdE rem).1)).2.2.2)) ?_
     refine s_store 4 #[.int .i64 (((tnext ⟨L, S⟩ ((hdE rem).1)).1).kind), .int .i64 (((tnext ⟨L, S⟩ ((hdE rem).1)).1).p), .int .i64 (((tnext ⟨L, S⟩ ((hdE rem).1)).1).q), .string (((tnext ⟨L, S⟩ ((hdE rem).1)).1).str), .int .i64 (((tnext ⟨L, S⟩ ((hdE rem).1)).1).ref)] ?_
     refine s_store 3 #[.int .i64 (((tnext ⟨L, S⟩ ((hdE rem).1)).2.1).kind), .int .i64 (((tnext ⟨L, S⟩ ((hdE rem).1)).2.1).p), .int .i64 (((tnext ⟨L, S⟩ ((hdE rem).1)).2.1).q), .string (((tnext ⟨L, S⟩ ((hdE rem).1)).2.1).str), .int .i64 (((tnext ⟨L, S⟩ ((hdE rem).1)).2.1).ref)] ?_
     refine sp (.bool ((tnext ⟨L, S⟩ ((hdE rem).1)).2.2.1)) ?_
     refine sp (.int .i64 ((tnext ⟨L, S⟩ ((hdE rem).1)).2.2.2)) ?_
     refine s_nil ?_
     refine xs_block ?_
     have hn : tnext ⟨L, S⟩ ((hdE rem).1) = hdE tl := by rw [hrem]; exact next_step hti htw (by show L.length ≤ _; omega) (pre := dn) (by rw [hi3, hrem])
     rw [hn]
     have hE : (⟨(idn ((hdE rem).1)), (idn ((hdE rem).2.1))⟩ : Ent) = (⟨idn p.1, idn p.2⟩ : Ent) := by rw [hrem]; rfl
     have hes : (entL dn) = entL (dn ++ [p]) := by rw [entL_step, if_neg (fun hc => hc (by rw [← hE]; exact of_decide_eq_true c14))]
     refine xs_mem (Bs := tbA b L S :: blkA jb8 #[.int .i64 (idn ((hdE rem).1)), .int .i64 (idn ((hdE rem).2.1))] 62 :: own EntT lx (entL (dn ++ [p])) :: blkA g2 #[.int .i64 (((hdE tl).2.1).kind), .int .i64 (((hdE tl).2.1).p), .int .i64 (((hdE tl).2.1).q), .string (((hdE tl).2.1).str), .int .i64 (((hdE tl).2.1).ref)] 26 :: blkA g1 #[.int .i64 (((hdE tl).1).kind), .int .i64 (((hdE tl).1).p), .int .i64 (((hdE tl).1).q), .string (((hdE tl).1).str), .int .i64 (((hdE tl).1).ref)] 26 :: F) (fun _ h => by rw [hes] at h; exact h) ?_
     exact xs_round (lx, dn ++ [p], tl) (by show tl.length < rem.length; rw [hrem]; simp) (by show _ = (dn ++ [p]) ++ tl; rw [hi3, hrem]; simp) (sub_of rfl ⟨⟨rfl, rfl⟩, ⟨⟨rfl, rfl⟩, ⟨⟨rfl, rfl⟩, ⟨⟨rfl, rfl⟩, ⟨⟨rfl, rfl⟩, ⟨⟨rfl, rfl⟩, trivial⟩⟩⟩⟩⟩⟩) (fun _ h => h.re [2, 2, 2, 0] [4])
  ·
   have hrem := hd_none c5
   refine k_exit ?_
   refine xs_exit ?_
   refine xs_exit ?_
   refine xs_here ?_
   refine xs_then ?_
   refine k_sr ?_
   refine sp lx ?_
   refine sp lx ?_
   refine s_nt ?_
   refine k_ret ?_
   have hend : entL dn = entsOf ⟨L, S⟩ := by unfold entsOf; rw [hi3, hrem, List.append_nil]
   rw [hend]
   exact xs_fin [lx] (own EntT lx (entsOf ⟨L, S⟩) :: tbA b L S :: F) (SI.tmp 2 SI.nil) (fun _ h => h.re [0, 2] [2, 2]) rfl
theorem obsize_s {Z : Zone} {F : List Asr} {q : Nat × Nat} {o : Hob} (hl : o.tab.list.length ≤ 100000) (hs : o.tab.rest.length ≤ 100000) (hv : o.vals.length ≤ 100000) : SF Try.prog 53 #[ptrV q.1] Z (obP q o :: F) fun r Bs => r = .int .i64 (obSize o) ∧ Bs = obP q o :: F := by
 refine sf_enter Try.func53 31 [(0, pB q.1 0)] (fun w0 => ?_)
 refine k_memX (fun H h => ob_open (h.re [0] [])) (fun v1 hw => ?_)
 have htz : 0 ≤ tabSize ⟨o.tab.list, o.tab.rest⟩ ∧ tabSize ⟨o.tab.list, o.tab.rest⟩ ≤ 700000 := by unfold tabSize; dsimp only; omega
 refine k_sr ?_
 refine sp (.int .i64 0) ?_
 refine s_nt ?_
 refine k_seq ?_
 refine k_sr ?_
 refine sp (pB q.1 0) ?_
 refine sp (pB q.1 0) ?_
 refine sp (pB q.1 0) ?_
 refine s_lt (t_load 0 (.int .i64 o.kind)) ?_
 refine s_nt ?_
 refine k_block ?_
 refine k_sr ?_
 refine s_lt t_cmp ?_
 refine sp (.bool (decide (o.kind = 4))) ?_
 refine s_nt ?_
 refine k_cond (decide (o.kind = 4)) (fun c2 => ?_) (fun c2 => ?_)
 ·
  have p3 := of_decide_eq_true c2
  refine k_sr ?_
  refine sp (pB q.1 0) ?_
  refine sp (pB q.1 0) ?_
  refine sp (pB q.1 3) ?_
  refine s_lt (Lt.to (v' := ptrV q.2) (t_load 0 (tabV q o)) (by unfold tabV; rw [if_pos (of_decide_eq_true c2)])) ?_
  refine s_mem (fun _ h => tabO_open (of_decide_eq_true c2) (h.re [2] [])) ?_
  refine s_call [0] (tbsize_s (L := o.tab.list) (S := o.tab.rest) (by (try simp only [lnm]); omega) (by (try simp only [lnm]); omega)) ?_
  rintro _ _ ⟨rfl, rfl⟩
  refine s_lt (t_add 8 (tabSize ⟨o.tab.list, o.tab.rest⟩) (by (try simp only [lnm]); omega)) ?_
  refine sp (.int .i64 (8 + (tabSize ⟨o.tab.list, o.tab.rest⟩))) ?_
  refine s_nt ?_
  refine k_ret ?_
  refine xs_retBlock ?_
  refine xs_ret ?_
  refine xs_mem (fun _ h => tabO_shut (T := o.tab) (of_decide_eq_true c2) (h.re [0] [])) ?_
  refine xs_mem (Bs := tabO q o :: blkA q.1 #[.int .i64 o.kind, .int .i64 o.tag, .string o.name, (tabV q o), .int .i64 o.mt.kind, .int .i64 o.mt.p, .int .i64 o.mt.q, .string o.mt.str, .int .i64 o.mt.ref, v1] 84 :: own VlT v1 o.vals :: F) (fun _ h => h) ?_
  refine xs_mem (fun _ h => ob_shut (o := o) (h.re [1, 1, 0] [])) ?_
  have hp : obSize o = (8 + (tabSize ⟨o.tab.list, o.tab.rest⟩)) := by unfold obSize; rw [if_pos (of_decide_eq_true c2)]
  exact xs_fin [.int .i64 (8 + (tabSize ⟨o.tab.list, o.tab.rest⟩))] (obP q o :: F) (SI.tmp 2 SI.nil) (fun _ h => h.re [0] []) ⟨by rw [hp]; rfl, rfl⟩
 ·
  have p4 := of_decide_eq_false c2
  refine k_sr ?_
  refine s_lt t_cmp ?_
  refine sp (.bool (decide (o.kind = 5))) ?_
  refine s_nt ?_
  refine k_cond (decide (o.kind = 5)) (fun c5 => ?_) (fun c5 => ?_)
  ·
   have p6 := of_decide_eq_true c5
   refine k_sr ?_
   refine sp (pB q.1 0) ?_
   refine sp (pB q.1 0) ?_
   refine sp (pB q.1 9) ?_
   refine s_lt (t_load 0 v1) ?_
   refine s_lt (t_len VlT_ok Try.underlying22 (.own 1)) ?_
   refine s_lt (t_add 8 (o.vals.length : Int) (by (try simp only [lnm]); omega)) ?_
   refine sp (.int .i64 (8 + (o.vals.length : Int))) ?_
   refine s_nt ?_
   refine k_ret ?_
   refine xs_retBlock ?_
   refine xs_ret ?_
   refine xs_mem (fun _ h => ob_shut (o := o) (h.re [0, 0, 0] [])) ?_
   have hp : obSize o = (8 + (o.vals.length : Int)) := by unfold obSize; rw [if_neg (of_decide_eq_false c2), if_pos (of_decide_eq_true c5)]
   exact xs_fin [.int .i64 (8 + (o.vals.length : Int))] (obP q o :: F) (SI.tmp 2 SI.nil) (fun _ h => h.re [0] []) ⟨by rw [hp]; rfl, rfl⟩
  ·
   have p7 := of_decide_eq_false c5
   refine k_sr ?_
   refine s_lt t_cmp ?_
   refine sp (.bool (decide (o.kind = 7))) ?_
   refine s_nt ?_
   refine k_cond (decide (o.kind = 7)) (fun c8 => ?_) (fun c8 => ?_)
   ·
    have p9 := of_decide_eq_true c8
    refine k_sr ?_
    refine sp (pB q.1 0) ?_
    refine sp (pB q.1 0) ?_
    refine sp (pB q.1 9) ?_
    refine s_lt (t_load 0 v1) ?_
    refine s_lt (t_len VlT_ok Try.underlying22 (.own 1)) ?_
    refine s_lt (t_add 16 (o.vals.length : Int) (by (try simp only [lnm]); omega)) ?_
    refine sp (.int .i64 (16 + (o.vals.length : Int))) ?_
    refine s_nt ?_
    refine k_ret ?_
    refine xs_retBlock ?_
    refine xs_ret ?_
    refine xs_mem (fun _ h => ob_shut (o := o) (h.re [0, 0, 0] [])) ?_
    have hp : obSize o = (16 + (o.vals.length : Int)) := by unfold obSize; rw [if_neg (of_decide_eq_false c2), if_neg (of_decide_eq_false c5), if_pos (of_decide_eq_true c8)]
    exact xs_fin [.int .i64 (16 + (o.vals.length : Int))] (obP q o :: F) (SI.tmp 2 SI.nil) (fun _ h => h.re [0] []) ⟨by rw [hp]; rfl, rfl⟩
   ·
    have p10 := of_decide_eq_false c8
    refine k_skip ?_
    refine xs_block ?_
    refine xs_then ?_
    refine k_sr ?_
    refine sp (.int .i64 12) ?_
    refine s_nt ?_
    refine k_ret ?_
    refine xs_mem (fun _ h => ob_shut (o := o) (h.re [0, 0, 0] [])) ?_
    have hp : obSize o = 12 := by unfold obSize; rw [if_neg (of_decide_eq_false c2), if_neg (of_decide_eq_false c5), if_neg (of_decide_eq_false c8)]
    exact xs_fin [.int .i64 12] (obP q o :: F) (SI.tmp 2 SI.nil) (fun _ h => h.re [0] []) ⟨by rw [hp]; rfl, rfl⟩
theorem ob_bound {st : Hst} {n : Nat} (hsm : HSm n st) (hn : n ≤ 300) {id : Int} {o : Hob} (ho : st.get id = some o) : o.tab.list.length ≤ 90300 ∧ o.tab.rest.length ≤ 300 ∧ o.vals.length ≤ 320 := by
  obtain ⟨h1, h2, h3⟩ := hsm.obs o (get_mem ho).1
  have h4 : n * (n + 1) ≤ 300 * 301 := Nat.mul_le_mul (by omega) (by omega)
  exact ⟨by omega, by omega, by omega⟩
theorem obsize_bound {st : Hst} {n : Nat} (hsm : HSm n st) (hn : n ≤ 300) {id : Int} {o : Hob} (ho : st.get id = some o) : 0 ≤ obSize o ∧ obSize o ≤ 200000 := by
  obtain ⟨h1, h2, h3⟩ := ob_bound hsm hn ho
  unfold obSize tabSize
  repeat' split
  all_goals omega
theorem halive0_s {Z : Zone} {F : List Asr} {b mb tb : Nat} {n : Value} {ps : List (Int × (Nat × Nat))} (id : Int) : SF Try.prog 31 #[.pointer (some ⟨b, 0, none⟩), .int .i64 id] Z (blkA b #[.map (some mb), n, .map (some tb)] 76 :: mpA iK oV mb ps :: F) fun r Bs => r = .bool (aget ps id).isSome ∧ Bs = blkA b #[.map (some mb), n, .map (some tb)] 76 :: mpA iK oV mb ps :: F := by
 refine sf_enter Try.func31 16 [(0, pB b 0), (1, .int .i64 id)] (fun w0 => ?_)
 refine k_sr ?_
 refine sp (.bool false) ?_
 refine s_nr ?_
 refine sp (pB b 0) ?_
 refine sp (.bool true) ?_
 refine sp (.bool true) ?_
 refine sp (pB b 0) ?_
 refine sp (pB b 0) ?_
 refine sp (pB b 0) ?_
 refine s_lt (t_load 0 (.map (some mb))) ?_
 refine sp (.int .i64 id) ?_
 rcases hq1 : aget ps id with _ | q2
 ·
  refine s_lt (Lt.to (v' := .pointer none) (t_lookup 1 intOk Try.underlying73 (.pointer none) id) (by rw [hq1]; rfl)) ?_
  refine sp (.bool false) ?_
  refine sp (.bool false) ?_
  refine sp (.bool false) ?_
  refine s_nt ?_
  refine k_ret ?_
  exact xs_fin [.bool false] (blkA b #[.map (some mb), n, .map (some tb)] 76 :: mpA iK oV mb ps :: F) (SI.tmp 4 SI.nil) (fun _ h => h.re [0, 0] []) ⟨by first | rfl | (rw [hq1]; rfl), rfl⟩
 ·
  refine s_lt (Lt.to (v' := ptrV q2.1) (t_lookup 1 intOk Try.underlying73 (.pointer none) id) (by rw [hq1]; rfl)) ?_
  refine sp (.bool true) ?_
  refine sp (.bool true) ?_
  refine sp (.bool true) ?_
  refine s_nt ?_
  refine k_ret ?_
  exact xs_fin [.bool true] (blkA b #[.map (some mb), n, .map (some tb)] 76 :: mpA iK oV mb ps :: F) (SI.tmp 4 SI.nil) (fun _ h => h.re [0, 0] []) ⟨by first | rfl | (rw [hq1]; rfl), rfl⟩
theorem htouched_s {Z : Zone} {F : List Asr} {b : Nat} {st : Hst} {n : Nat} (hsm : HSm n st) (hn : n ≤ 300) : SF Try.prog 35 #[.pointer (some ⟨b, 0, none⟩)] Z (hpA b st :: F) fun r Bs => Bs = own iTy r (htchd st) :: hpA b (huntch st) :: F := by
 refine sf_enter Try.func35 30 [(0, pB b 0)] (fun w0 => ?_)
 refine k_memX (fun H h => hpA_open (h.re [0] [])) (fun ps1 _ => ?_)
 refine k_fact (fun H h => hp_facts (h.re [0] [])) (fun hf2 => ?_)
 obtain ⟨hi3, ha4⟩ := hf2
 refine k_mem3 (fun H h => hp_open (h.re [0] [])) (fun mb5 tb6 tm7 hw => ?_)
 obtain ⟨hi8, ha9, ht10⟩ := hw
 refine k_fact (fun H h => (h.mp (i := 1) rfl).nodup) (fun hnd0 => ?_)
 refine k_fact (fun H h => (h.mp (i := 2) rfl).nodup) (fun hnd1 => ?_)
 refine k_sr ?_
 refine sp (.slice none 0 0) ?_
 refine s_nt ?_
 refine k_seq ?_
 refine k_sr ?_
 refine sp (pB b 0) ?_
 refine sp (.bool false) ?_
 refine s_nt ?_
 refine k_false ?_
 refine k_st ?_
 refine k_sr ?_
 refine sp (.slice none 0 0) ?_
 refine s_nt ?_
 refine k_seq ?_
 refine k_sr ?_
 refine sp (pB b 0) ?_
 refine sp (pB b 0) ?_
 refine sp (pB b 2) ?_
 refine s_lt (t_load 0 (.map (some tb6))) ?_
 refine s_range 2 Try.underlying74 (fun r11 => ?_)
 refine s_nt ?_
 refine k_block ?_
 refine k_mem (fun _ h => Holds.nilS (T := iTy) h) ?_
 refine k_mem (Bs := own iTy (.slice none 0 0) ((([] : List (Int × Bool)).map Prod.fst).filter fun id => (aget ps1 id).isSome) :: blkA b #[.map (some mb5), .int .i64 (st.objs.length : Int), .map (some tb6)] 76 :: mpA iK oV mb5 ps1 :: rgA iK bV tb6 r11 tm7 [] :: allP ps1 st :: F) (fun _ h => h) ?_
 refine k_loop (ι := Value × List (Int × Bool)) (fun (sx, dn) => (dn.map Prod.fst).Nodup) (fun (sx, dn) => [(0, pB b 0), (3, sx), (11, pB r11 0)]) (fun (sx, dn) => own iTy sx ((dn.map Prod.fst).filter fun id => (aget ps1 id).isSome) :: blkA b #[.map (some mb5), .int .i64 (st.objs.length : Int), .map (some tb6)] 76 :: mpA iK oV mb5 ps1 :: rgA iK bV tb6 r11 tm7 dn :: allP ps1 st :: F) (fun (sx, dn) => tm7.length - dn.length) ((.slice none 0 0), []) List.nodup_nil (sub_of rfl ⟨⟨rfl, rfl⟩, ⟨⟨rfl, rfl⟩, ⟨⟨rfl, rfl⟩, trivial⟩⟩⟩) (fun _ h => h.re [0, 0, 0, 0, 0] []) ?_
 rintro ⟨sx, dn⟩ hi12
 replace hi12 : (dn.map Prod.fst).Nodup := hi12
 show SK _ _ _ _ _ [(0, .pointer (some ⟨b, 0, none⟩)), (3, sx), (11, .pointer (some ⟨r11, 0, none⟩))] _ (own iTy sx ((dn.map Prod.fst).filter fun id => (aget ps1 id).isSome) :: blkA b #[.map (some mb5), .int .i64 (st.objs.length : Int), .map (some tb6)] 76 :: mpA iK oV mb5 ps1 :: rgA iK bV tb6 r11 tm7 dn :: allP ps1 st :: F)
 have hfn := fl_len (ps := ps1) hi12
 have hpl : ps1.length ≤ 300 := by have := ha9.len; have := count_le st; have := hsm.len; omega
 refine k_sr ?_
 refine s_next 3 (fun hd13 => ?_) (fun ky14 u15 hm16 hn17 hd18 => ?_)
 ·
  refine sp (.bool false) ?_
  refine s_nt ?_
  refine k_seq ?_
  refine k_false ?_
  refine k_exit ?_
  refine xs_mem (fun _ h => Holds.unrange 3 h) ?_
  refine xs_exit ?_
  refine xs_exit ?_
  refine xs_here ?_
  refine xs_then ?_
  refine k_sr ?_
  refine sp sx ?_
  refine s_call [0] (sort_s (L := ((dn.map Prod.fst).filter fun id => (aget ps1 id).isSome)) (by omega)) ?_
  rintro _ _ ⟨rfl, rfl⟩
  refine s_nr ?_
  refine sp (pB b 0) ?_
  refine sp (pB b 0) ?_
  refine sp (pB b 2) ?_
  refine s_lt (t_load 1 (.map (some tb6))) ?_
  refine s_clear0 3 Try.underlying74 ?_
  refine s_mem (Bs := own iTy sx (srt ((dn.map Prod.fst).filter fun id => (aget ps1 id).isSome)) :: blkA b #[.map (some mb5), .int .i64 (st.objs.length : Int), .map (some tb6)] 76 :: mpA iK oV mb5 ps1 :: mpA iK bV tb6 [] :: allP ps1 (huntch st) :: F) (fun _ h => h) ?_
  refine s_nr ?_
  refine sp sx ?_
  refine sp sx ?_
  refine s_nt ?_
  refine k_ret ?_
  refine xs_mem (fun _ h => hp_shut (st := (huntch st)) (n := (st.objs.length : Int)) ⟨⟨untch_inv hi8, ⟨ha9.has, ha9.len⟩, TA.untch st⟩, rfl⟩ (h.re [1, 1, 1, 1] [])) ?_
  refine xs_mem (fun _ h => hpA_shut (h.re [0] [])) ?_
  have hk : (srt ((dn.map Prod.fst).filter fun id => (aget ps1 id).isSome)) = htchd st := (srt_perm' ((hd13.map Prod.fst).filter _)).trans (by rw [← tch_srt ht10 hnd1]; congr 1; refine List.filter_congr fun x _ => ?_; exact ha9.has x)
  rw [hk]
  exact xs_fin [sx] (own iTy sx (htchd st) :: hpA b (huntch st) :: F) (SI.tmp 2 SI.nil) (fun _ h => h.re [1, 0] []) rfl
 ·
  refine sp (.bool true) ?_
  refine s_nt ?_
  refine k_seq ?_
  refine k_true ?_
  refine k_st ?_
  refine k_block ?_
  refine k_sr ?_
  refine s_lt (t_entry 3) ?_
  refine sp (.int .i64 ky14) ?_
  refine sp (.int .i64 ky14) ?_
  refine s_nr ?_
  refine sp (pB b 0) ?_
  refine sp (.int .i64 ky14) ?_
  refine s_call [1, 1] (halive0_s (ps := ps1) ky14) ?_
  rintro _ _ ⟨rfl, rfl⟩
  refine s_nt ?_
  refine k_cond ((aget ps1 ky14).isSome) (fun c19 => ?_) (fun c19 => ?_)
  ·
   refine k_reg ?_
   refine sp sx ?_
   refine sp (.int .i64 ky14) ?_
   refine s_buildSlice (e := 3) [(0, .int .i64 ky14)] #[.int .i64 ky14] (fun g20 => ?_) (hb := by kernel_rfl)
   refine s_append (L := ((dn.map Prod.fst).filter fun id => (aget ps1 id).isSome)) 3 iTy_ok Try.underlying54 (.lit 0 iTy_ok [ky14]) (by show _ * 8 ≤ _; (try simp only [lnm]); omega) (by (try simp only [lnm]); omega) (fun v21 => ?_)
   refine sp v21 ?_
   refine s_nil ?_
   refine xs_block ?_
   have hfl : (((dn.map Prod.fst).filter fun id => (aget ps1 id).isSome) ++ [ky14]) = (((dn ++ [(ky14, u15)]).map Prod.fst).filter fun id => (aget ps1 id).isSome) := by rw [List.map_append, List.filter_append, List.map_cons, List.map_nil]; show _ = _ ++ List.filter _ [ky14]; rw [List.filter_cons_of_pos (by exact c19)]; rfl
   refine xs_mem (Bs := blkA g20 #[.int .i64 ky14] 3 :: blkA b #[.map (some mb5), .int .i64 (st.objs.length : Int), .map (some tb6)] 76 :: mpA iK oV mb5 ps1 :: own iTy v21 (((dn ++ [(ky14, u15)]).map Prod.fst).filter fun id => (aget ps1 id).isSome) :: rgA iK bV tb6 r11 tm7 (dn ++ [(ky14, u15)]) :: allP ps1 st :: F) (fun _ h => by rw [hfl] at h; exact h) ?_
   exact xs_round (v21, dn ++ [(ky14, u15)]) (by show tm7.length - (dn ++ [(ky14, u15)]).length < tm7.length - dn.length; rw [List.length_append]; have := hd18; simp only [List.length_singleton]; omega) (nodup_snoc hi12 hn17) (sub_of rfl ⟨⟨rfl, rfl⟩, ⟨⟨rfl, rfl⟩, ⟨⟨rfl, rfl⟩, trivial⟩⟩⟩) (fun _ h => h.re [3, 1, 1, 1, 1] [5])
  ·
   refine k_skip ?_
   refine xs_block ?_
   have hfl : ((dn.map Prod.fst).filter fun id => (aget ps1 id).isSome) = (((dn ++ [(ky14, u15)]).map Prod.fst).filter fun id => (aget ps1 id).isSome) := by rw [List.map_append, List.filter_append, List.map_cons, List.map_nil]; show _ = _ ++ List.filter _ [ky14]; rw [List.filter_cons_of_neg (by rw [c19]; decide)]; simp
   refine xs_mem (Bs := blkA b #[.map (some mb5), .int .i64 (st.objs.length : Int), .map (some tb6)] 76 :: mpA iK oV mb5 ps1 :: own iTy sx (((dn ++ [(ky14, u15)]).map Prod.fst).filter fun id => (aget ps1 id).isSome) :: rgA iK bV tb6 r11 tm7 (dn ++ [(ky14, u15)]) :: allP ps1 st :: F) (fun _ h => by rw [hfl] at h; exact h) ?_
   exact xs_round (sx, dn ++ [(ky14, u15)]) (by show tm7.length - (dn ++ [(ky14, u15)]).length < tm7.length - dn.length; rw [List.length_append]; have := hd18; simp only [List.length_singleton]; omega) (nodup_snoc hi12 hn17) (sub_of rfl ⟨⟨rfl, rfl⟩, ⟨⟨rfl, rfl⟩, ⟨⟨rfl, rfl⟩, trivial⟩⟩⟩) (fun _ h => h.re [2, 0, 0, 0, 0] [])
end Go.Proofs.Ytmilekfknhglkaa
end
section
set_option linter.unusedSimpArgs false
set_option linter.unusedVariables false
set_option maxRecDepth 100000
set_option maxHeartbeats 2000000
namespace Go.Proofs.Ytmilekfknhglkaa
open Go.Hp Go.J Go.S
open Go.Mem (Ty KTy blk elemAt pre suf blk_pre blk_suf aget aset strK aggDesc)
open Go.Mem (adel apos aget_aset aget_adel)
theorem hobject_s {Z : Zone} {F : List Asr} {b : Nat} {st : Hst} {n : Nat} (hsm : HSm n st) (hn : n ≤ 300) (hw : HW st) (id weak : Int) : SF Try.prog 28 #[.pointer (some ⟨b, 0, none⟩), .int .i64 id, .int .i64 weak] Z (hpA b st :: F) fun r Bs => ∃ rv ev, r = .tuple #[.agg #[.int .i64 (hoId st id), .int .i64 (hoSz st id), .int .i64 (hoWk st id weak), rv, ev], .bool (halive st id)] ∧ Bs = own iTy rv (hrefs st id) :: own EntT ev (hents st id) :: hpA b st :: F := by
 refine sf_enter Try.func28 73 [(0, pB b 0), (1, .int .i64 id), (2, .int .i64 weak)] (fun w0 => ?_)
 refine k_sr ?_
 refine s_alloc (.agg #[.int .i64 0, .int .i64 0, .int .i64 0, (.slice none 0 0), (.slice none 0 0)]) #[.int .i64 0, .int .i64 0, .int .i64 0, (.slice none 0 0), (.slice none 0 0)] (fun g1 => ?_)
 refine sp (.bool false) ?_
 refine s_nt ?_
 refine k_seq ?_
 refine k_sr ?_
 refine sp (pB b 0) ?_
 refine sp (.int .i64 id) ?_
 refine s_call [1] (halive_s (st := st) id) ?_
 rintro _ _ ⟨rfl, rfl⟩
 refine sp (.bool (!(halive st id))) ?_
 refine s_nt ?_
 refine k_cond (!(halive st id)) (fun c2 => ?_) (fun c2 => ?_)
 ·
  have c3 := not_t c2
  refine k_sr ?_
  refine s_lt (t_kern (.agg #[.int .i64 0, .int .i64 0, .int .i64 0, (.slice none 0 0), (.slice none 0 0)])) ?_
  refine s_store 1 #[.int .i64 0, .int .i64 0, .int .i64 0, (.slice none 0 0), (.slice none 0 0)] ?_
  refine sp (.bool false) ?_
  refine s_nt ?_
  refine k_ret ?_
  refine xs_ret ?_
  refine xs_mem (fun _ h => Holds.nilS (T := EntT) h) ?_
  refine xs_mem (fun _ h => Holds.nilS (T := iTy) h) ?_
  have hg0 : st.get id = none := by have h0 := c3; unfold halive at h0; cases hg : st.get id with | none => rfl | some o => rw [hg] at h0; cases h0
  have ho := obj_none hg0 weak
  exact xs_fin [.agg #[.int .i64 0, .int .i64 0, .int .i64 0, (.slice none 0 0), (.slice none 0 0)], .bool false] (own iTy (.slice none 0 0) [] :: own EntT (.slice none 0 0) [] :: hpA b st :: F) (SI.agg 6 57 3 (SI.tmp 7 SI.nil)) (fun _ h => h.re [0, 0, 0] [3]) ⟨(.slice none 0 0), (.slice none 0 0), by rw [ho.1, ho.2.1, ho.2.2.1, ho.2.2.2.1]; rfl, by rw [ho.2.2.2.2.1, ho.2.2.2.2.2]⟩
 ·
  have c4 := not_f c2
  refine k_st ?_
  refine k_seq ?_
  refine k_memX (fun H h => hpA_open (h.re [0] [])) (fun ps5 _ => ?_)
  refine k_fact (fun H h => hp_facts (h.re [0] [])) (fun hf6 => ?_)
  obtain ⟨hi7, ha8⟩ := hf6
  refine k_mem3 (fun H h => hp_open (h.re [0] [])) (fun mb9 tb10 tm11 hw => ?_)
  obtain ⟨hi12, ha13, ht14⟩ := hw
  refine k_reg ?_
  refine sp (pB b 0) ?_
  refine sp (pB b 0) ?_
  refine sp (pB b 0) ?_
  refine s_lt (t_load 0 (.map (some mb9))) ?_
  refine sp (.int .i64 id) ?_
  rcases get_cases ha13 id with ⟨hg15, hq16⟩ | ⟨o17, q18, ho19, hq20⟩
  ·
   exfalso; simp_all [halive]
  ·
   refine s_lt (Lt.to (v' := ptrV q18.1) (t_lookup 1 intOk Try.underlying73 (.pointer none) id) (by rw [hq20]; rfl)) ?_
   refine sp (pB q18.1 0) ?_
   refine s_nr ?_
   refine sp (.int .i64 id) ?_
   refine sp (pB q18.1 0) ?_
   refine s_fact (fun H h => (h.mp (i := 1) rfl).nodup) (fun hnd21 => ?_)
   obtain ⟨hz1, hz2, hz3⟩ := ob_bound hsm hn ho19
   refine s_mem (fun _ h => all_take hq20 ho19 (h.re [3] [])) ?_
   refine s_call [0] (obsize_s (q := q18) (o := o17) (by omega) (by omega) (by omega)) ?_
   rintro _ _ ⟨rfl, rfl⟩
   refine s_mem (fun _ h => all_back hnd21 hq20 ho19 h) ?_
   refine s_lt (t_kern (.agg #[.int .i64 id, .int .i64 (obSize o17), .int .i64 0, (.slice none 0 0), (.slice none 0 0)])) ?_
   refine s_alloc (.agg #[.int .i64 0, .int .i64 0, .int .i64 0, (.slice none 0 0), (.slice none 0 0)]) #[.int .i64 0, .int .i64 0, .int .i64 0, (.slice none 0 0), (.slice none 0 0)] (fun g22 => ?_)
   refine s_store 0 #[.int .i64 id, .int .i64 (obSize o17), .int .i64 0, (.slice none 0 0), (.slice none 0 0)] ?_
   refine s_nt ?_
   refine k_seq ?_
   refine k_seq ?_
   obtain ⟨hb1, hb2, hb3⟩ := ob_bound hsm hn ho19
   refine k_memX (fun H h => all_focus hq20 ho19 (h.re [1] [])) (fun v23 _ => ?_)
   refine k_held [blkA q18.1 #[.int .i64 o17.kind, .int .i64 o17.tag, .string o17.name, (tabV q18 o17), .int .i64 o17.mt.kind, .int .i64 o17.mt.p, .int .i64 o17.mt.q, .string o17.mt.str, .int .i64 o17.mt.ref, v23] 84, own VlT v23 o17.vals, blkA g22 #[.int .i64 id, .int .i64 (obSize o17), .int .i64 0, (.slice none 0 0), (.slice none 0 0)] 57, blkA b #[.map (some mb9), .int .i64 (st.objs.length : Int), .map (some tb10)] 76, mpA iK oV mb9 ps5, mpA iK bV tb10 tm11, blkA g1 #[.int .i64 0, .int .i64 0, .int .i64 0, (.slice none 0 0), (.slice none 0 0)] 57] ?_
   refine hp_ 0 [0, 0, 2, 2, 2, 2, 2] (pB q18.1 0) ?_
   refine hp_ 1 [0, 0, 2, 2, 2, 2, 2] (pB q18.1 0) ?_
   refine hp_ 2 [0, 0, 2, 2, 2, 2, 2] (pB q18.1 4) ?_
   refine h_l 3 rfl [0, 0, 2, 2, 2, 2, 2] (fun _ => (t_loadA 0 #[.int .i64 o17.mt.kind, .int .i64 o17.mt.p, .int .i64 o17.mt.q, .string o17.mt.str, .int .i64 o17.mt.ref])) ?_
   refine hp_ 5 [0, 0, 2, 2, 2, 2, 2] (pB q18.1 0) ?_
   refine hp_ 6 [0, 0, 2, 2, 2, 2, 2] (pB q18.1 0) ?_
   refine hp_ 7 [0, 0, 2, 2, 2, 2, 2] (pB q18.1 9) ?_
   refine h_l 8 rfl [0, 0, 2, 2, 2, 2, 2] (fun _ => (t_load 0 v23)) ?_
   refine hp_ 11 [0, 0, 2, 2, 2, 2, 2] (.int .i64 0) ?_
   refine h_stepS 4 ?_
   refine s_buildSlice (e := 26) [(0, .agg #[.int .i64 o17.mt.kind, .int .i64 o17.mt.p, .int .i64 o17.mt.q, .string o17.mt.str, .int .i64 o17.mt.ref])] #[.int .i64 o17.mt.kind, .int .i64 o17.mt.p, .int .i64 o17.mt.q, .string o17.mt.str, .int .i64 o17.mt.ref] (fun g24 => ?_) (hb := by kernel_rfl)
   refine s_nil (xs_held [1, 1, 3, 3, 3, 3, 3] ?_)
   refine h_stepS 9 ?_
   refine s_mem (fun _ h => Holds.slice 0 h VlT_ok [o17.mt]) ?_
   refine s_append (L := [o17.mt]) 0 VlT_ok Try.underlying22 (.own 2) (by show _ * 48 ≤ _; (try simp only [lnm]); omega) (by (try simp only [lnm]); omega) (fun v25 => ?_)
   refine s_nil (xs_held [1, 1, 3, 3, 3, 3, 3] ?_)
   refine h_stepS 10 ?_
   refine s_lt (t_len VlT_ok Try.underlying22 (.own 0)) ?_
   refine s_nil (xs_held [1, 1, 3, 3, 3, 3, 3] ?_)
   refine h_doneS ?_
   refine xs_then ?_
   refine k_block ?_
   refine k_fact (fun H h => (h.mp (i := 7) rfl).nodup) (fun hnd26 => ?_)
   refine k_mem (fun _ h => (put_same ho19) ▸ all_unfocus (o' := o17) hnd26 hq20 ho19 (ob_shut (o := o17) (h.re [1, 1, 1, 1] []))) ?_
   refine k_mem (Bs := allP ps5 st :: own VlT v25 ([o17.mt] ++ o17.vals) :: blkA g22 #[.int .i64 id, .int .i64 (obSize o17), .int .i64 0, (.slice none 0 0), (.slice none 0 0)] 57 :: blkA b #[.map (some mb9), .int .i64 (st.objs.length : Int), .map (some tb10)] 76 :: mpA iK oV mb9 ps5 :: mpA iK bV tb10 tm11 :: blkA g1 #[.int .i64 0, .int .i64 0, .int .i64 0, (.slice none 0 0), (.slice none 0 0)] 57 :: F) (fun _ h => h) ?_
   refine k_mem (fun _ h => hp_shut (st := st) (n := (st.objs.length : Int)) ⟨⟨hi12, ha13, ht14⟩, rfl⟩ (h.re [3, 3, 3, 0] [])) ?_
   refine k_mem (fun _ h => Holds.nilS (T := iTy) h) ?_
   refine k_mem (Bs := own iTy (.slice none 0 0) (refsL (o17.mt :: o17.vals) 0) :: hpP b st ps5 :: own VlT v25 (o17.mt :: o17.vals) :: blkA g22 #[.int .i64 id, .int .i64 (obSize o17), .int .i64 0, (.slice none 0 0), (.slice none 0 0)] 57 :: blkA g1 #[.int .i64 0, .int .i64 0, .int .i64 0, (.slice none 0 0), (.slice none 0 0)] 57 :: F) (fun _ h => h) ?_
   have hll : (o17.mt :: o17.vals).length = o17.vals.length + 1 := rfl
   refine k_loop (ι := Value × Nat) (fun (rx, i) => i ≤ (o17.mt :: o17.vals).length) (fun (rx, i) => [(2, .int .i64 weak), (6, pB g1 0), (8, pB q18.1 0), (9, pB g22 0), (36, v25), (37, .int .i64 ((o17.mt :: o17.vals).length : Int)), (38, .int .i64 (i : Int))]) (fun (rx, i) => own iTy rx (refsL (o17.mt :: o17.vals) i) :: hpP b st ps5 :: own VlT v25 (o17.mt :: o17.vals) :: blkA g22 #[.int .i64 id, .int .i64 (obSize o17), .int .i64 0, rx, (.slice none 0 0)] 57 :: blkA g1 #[.int .i64 0, .int .i64 0, .int .i64 0, (.slice none 0 0), (.slice none 0 0)] 57 :: F) (fun (rx, i) => (o17.mt :: o17.vals).length - i) ((.slice none 0 0), 0) (Nat.zero_le _) (sub_of rfl ⟨⟨rfl, rfl⟩, ⟨⟨rfl, rfl⟩, ⟨⟨rfl, rfl⟩, ⟨⟨rfl, rfl⟩, ⟨⟨rfl, rfl⟩, ⟨⟨rfl, congrArg (Value.int .i64) (by first | rfl | (simp only [lnm]; omega))⟩, ⟨⟨rfl, rfl⟩, trivial⟩⟩⟩⟩⟩⟩⟩) (fun _ h => h.re [0, 0, 0, 0, 0] []) ?_
   rintro ⟨rx, i⟩ hi27
   replace hi27 : i ≤ (o17.mt :: o17.vals).length := hi27
   show SK _ _ _ _ _ [(2, .int .i64 weak), (6, .pointer (some ⟨g1, 0, none⟩)), (8, .pointer (some ⟨q18.1, 0, none⟩)), (9, .pointer (some ⟨g22, 0, none⟩)), (36, v25), (37, .int .i64 ((o17.mt :: o17.vals).length : Int)), (38, .int .i64 (i : Int))] _ (own iTy rx (refsL (o17.mt :: o17.vals) i) :: hpP b st ps5 :: own VlT v25 (o17.mt :: o17.vals) :: blkA g22 #[.int .i64 id, .int .i64 (obSize o17), .int .i64 0, rx, (.slice none 0 0)] 57 :: blkA g1 #[.int .i64 0, .int .i64 0, .int .i64 0, (.slice none 0 0), (.slice none 0 0)] 57 :: F)
   have hrl := refsL_len (o17.mt :: o17.vals) i
   refine k_sr ?_
   refine s_lt t_cmp ?_
   refine s_nt ?_
   refine k_seq ?_
   refine k_cond (decide ((i : Int) < ((o17.mt :: o17.vals).length : Int))) (fun c28 => ?_) (fun c28 => ?_)
   ·
    have p29 := of_decide_eq_true c28
    refine k_st ?_
    refine k_seq ?_
    refine k_block ?_
    refine k_sr ?_
    refine s_lt (t_index VlT_ok Try.underlying22 (.own 2) (i : Int) i (by omega) (by (try simp only [lnm]); omega) (by omega)) ?_
    obtain ⟨y30, hy31⟩ : ∃ y, (o17.mt :: o17.vals)[i]? = some y := ⟨_, List.getElem?_eq_getElem (by (try simp only [lnm]); omega)⟩
    refine s_lt (t_loadE VlT_ok (.own 2) hy31) ?_
    refine s_alloc (.agg #[.int .i64 0, .int .i64 0, .int .i64 0, .string ByteArray.empty, .int .i64 0]) #[.int .i64 0, .int .i64 0, .int .i64 0, .string ByteArray.empty, .int .i64 0] (fun g32 => ?_)
    refine s_store 0 #[.int .i64 y30.kind, .int .i64 y30.p, .int .i64 y30.q, .string y30.str, .int .i64 y30.ref] ?_
    refine s_nr ?_
    refine s_lt (t_loadA 0 #[.int .i64 y30.kind, .int .i64 y30.p, .int .i64 y30.q, .string y30.str, .int .i64 y30.ref]) ?_
    refine s_vcall (fun _ h => ident_s y30) ?_
    rintro _ rfl
    refine s_lt t_cmp ?_
    refine s_nt ?_
    refine k_cond (decide ((idn y30) ≠ 0)) (fun c33 => ?_) (fun c33 => ?_)
    ·
     have p34 := of_decide_eq_true c33
     refine k_held [blkA g32 #[.int .i64 y30.kind, .int .i64 y30.p, .int .i64 y30.q, .string y30.str, .int .i64 y30.ref] 26, own VlT v25 (o17.mt :: o17.vals), blkA g1 #[.int .i64 0, .int .i64 0, .int .i64 0, (.slice none 0 0), (.slice none 0 0)] 57] ?_
     refine hp_ 0 [0, 2, 3] (pB g22 3) ?_
     refine h_l 2 rfl [0, 2, 3] (fun _ => (t_loadA 0 #[.int .i64 y30.kind, .int .i64 y30.p, .int .i64 y30.q, .string y30.str, .int .i64 y30.ref])) ?_
     refine h_stepS2 1 3 ?_ ?_
     ·
      refine s_lt (t_load 4 rx) ?_
      refine s_nil (xs_held [0, 2, 3] ?_)
      refine h_stepS 3 ?_
      refine s_vcall (fun _ h => ident_s y30) ?_
      rintro _ rfl
      refine s_nil (xs_held [0, 2, 3] ?_)
      refine h_stepS 4 ?_
      refine s_buildSlice (e := 3) [(0, .int .i64 (idn y30))] #[.int .i64 (idn y30)] (fun g35 => ?_) (hb := by kernel_rfl)
      refine s_nil (xs_held [1, 3, 4] ?_)
      refine h_stepS 5 ?_
      refine s_append (L := (refsL (o17.mt :: o17.vals) i)) 2 iTy_ok Try.underlying54 (.lit 0 iTy_ok [(idn y30)]) (by show _ * 8 ≤ _; (try simp only [lnm]); omega) (by (try simp only [lnm]); omega) (fun v36 => ?_)
      refine s_nil (xs_held [1, 3, 4] ?_)
      refine hp_ 6 [1, 3, 4] (pB g22 3) ?_
      refine h_stepS 7 ?_
      refine s_fact (fun H h => ((Acc.own (T := iTy) (L := ((refsL (o17.mt :: o17.vals) i) ++ [(idn y30)])) 2 rfl) H h).form) (fun hf37 => ?_)
      refine s_store (u := v36) (m := 1) 5 #[.int .i64 id, .int .i64 (obSize o17), .int .i64 0, v36, (.slice none 0 0)] ?_ (hm := by (obtain ⟨_, _, e⟩ := hf37; rw [e]; rfl)) (h1 := by (obtain ⟨_, _, e⟩ := hf37; rw [e]; rfl)) (ha' := by (obtain ⟨_, _, e⟩ := hf37; rw [e]; rfl))
      refine s_nil (xs_held [1, 3, 4] ?_)
      refine h_doneS ?_
      refine xs_block ?_
      refine xs_then ?_
      refine k_reg ?_
      refine s_lt (t_add (i : Int) 1 (by (try simp only [lnm]); omega)) ?_
      refine sp (.int .i64 ((i : Int) + 1)) ?_
      refine s_nil ?_
      have hst := refsL_step hy31
      rw [if_pos (of_decide_eq_true c33)] at hst
      rw [← hst]
      exact xs_round (v36, i + 1) (by show (o17.mt :: o17.vals).length - (i + 1) < (o17.mt :: o17.vals).length - i; omega) (by show i + 1 ≤ (o17.mt :: o17.vals).length; omega) (sub_of rfl ⟨⟨rfl, rfl⟩, ⟨⟨rfl, rfl⟩, ⟨⟨rfl, rfl⟩, ⟨⟨rfl, rfl⟩, ⟨⟨rfl, rfl⟩, ⟨⟨rfl, rfl⟩, ⟨⟨rfl, rfl⟩, trivial⟩⟩⟩⟩⟩⟩⟩) (fun _ h => h.re [2, 2, 2, 2, 2] [5, 5])
     ·
      refine s_vcall (fun _ h => ident_s y30) ?_
      rintro _ rfl
      refine s_nil (xs_held [0, 2, 3] ?_)
      refine h_stepS2 1 4 ?_ ?_
      ·
       refine s_lt (t_load 4 rx) ?_
       refine s_nil (xs_held [0, 2, 3] ?_)
       refine h_stepS 4 ?_
       refine s_buildSlice (e := 3) [(0, .int .i64 (idn y30))] #[.int .i64 (idn y30)] (fun g38 => ?_) (hb := by kernel_rfl)
       refine s_nil (xs_held [1, 3, 4] ?_)
       refine h_stepS 5 ?_
       refine s_append (L := (refsL (o17.mt :: o17.vals) i)) 2 iTy_ok Try.underlying54 (.lit 0 iTy_ok [(idn y30)]) (by show _ * 8 ≤ _; (try simp only [lnm]); omega) (by (try simp only [lnm]); omega) (fun v39 => ?_)
       refine s_nil (xs_held [1, 3, 4] ?_)
       refine hp_ 6 [1, 3, 4] (pB g22 3) ?_
       refine h_stepS 7 ?_
       refine s_fact (fun H h => ((Acc.own (T := iTy) (L := ((refsL (o17.mt :: o17.vals) i) ++ [(idn y30)])) 2 rfl) H h).form) (fun hf40 => ?_)
       refine s_store (u := v39) (m := 1) 5 #[.int .i64 id, .int .i64 (obSize o17), .int .i64 0, v39, (.slice none 0 0)] ?_ (hm := by (obtain ⟨_, _, e⟩ := hf40; rw [e]; rfl)) (h1 := by (obtain ⟨_, _, e⟩ := hf40; rw [e]; rfl)) (ha' := by (obtain ⟨_, _, e⟩ := hf40; rw [e]; rfl))
       refine s_nil (xs_held [1, 3, 4] ?_)
       refine h_doneS ?_
       refine xs_block ?_
       refine xs_then ?_
       refine k_reg ?_
       refine s_lt (t_add (i : Int) 1 (by (try simp only [lnm]); omega)) ?_
       refine sp (.int .i64 ((i : Int) + 1)) ?_
       refine s_nil ?_
       have hst := refsL_step hy31
       rw [if_pos (of_decide_eq_true c33)] at hst
       rw [← hst]
       exact xs_round (v39, i + 1) (by show (o17.mt :: o17.vals).length - (i + 1) < (o17.mt :: o17.vals).length - i; omega) (by show i + 1 ≤ (o17.mt :: o17.vals).length; omega) (sub_of rfl ⟨⟨rfl, rfl⟩, ⟨⟨rfl, rfl⟩, ⟨⟨rfl, rfl⟩, ⟨⟨rfl, rfl⟩, ⟨⟨rfl, rfl⟩, ⟨⟨rfl, rfl⟩, ⟨⟨rfl, rfl⟩, trivial⟩⟩⟩⟩⟩⟩⟩) (fun _ h => h.re [2, 2, 2, 2, 2] [5, 5])
      ·
       refine s_buildSlice (e := 3) [(0, .int .i64 (idn y30))] #[.int .i64 (idn y30)] (fun g41 => ?_) (hb := by kernel_rfl)
       refine s_nil (xs_held [1, 3, 4] ?_)
       refine h_stepS 1 ?_
       refine s_lt (t_load 5 rx) ?_
       refine s_nil (xs_held [1, 3, 4] ?_)
       refine h_stepS 5 ?_
       refine s_append (L := (refsL (o17.mt :: o17.vals) i)) 2 iTy_ok Try.underlying54 (.lit 0 iTy_ok [(idn y30)]) (by show _ * 8 ≤ _; (try simp only [lnm]); omega) (by (try simp only [lnm]); omega) (fun v42 => ?_)
       refine s_nil (xs_held [1, 3, 4] ?_)
       refine hp_ 6 [1, 3, 4] (pB g22 3) ?_
       refine h_stepS 7 ?_
       refine s_fact (fun H h => ((Acc.own (T := iTy) (L := ((refsL (o17.mt :: o17.vals) i) ++ [(idn y30)])) 2 rfl) H h).form) (fun hf43 => ?_)
       refine s_store (u := v42) (m := 1) 5 #[.int .i64 id, .int .i64 (obSize o17), .int .i64 0, v42, (.slice none 0 0)] ?_ (hm := by (obtain ⟨_, _, e⟩ := hf43; rw [e]; rfl)) (h1 := by (obtain ⟨_, _, e⟩ := hf43; rw [e]; rfl)) (ha' := by (obtain ⟨_, _, e⟩ := hf43; rw [e]; rfl))
       refine s_nil (xs_held [1, 3, 4] ?_)
       refine h_doneS ?_
       refine xs_block ?_
       refine xs_then ?_
       refine k_reg ?_
       refine s_lt (t_add (i : Int) 1 (by (try simp only [lnm]); omega)) ?_
       refine sp (.int .i64 ((i : Int) + 1)) ?_
       refine s_nil ?_
       have hst := refsL_step hy31
       rw [if_pos (of_decide_eq_true c33)] at hst
       rw [← hst]
       exact xs_round (v42, i + 1) (by show (o17.mt :: o17.vals).length - (i + 1) < (o17.mt :: o17.vals).length - i; omega) (by show i + 1 ≤ (o17.mt :: o17.vals).length; omega) (sub_of rfl ⟨⟨rfl, rfl⟩, ⟨⟨rfl, rfl⟩, ⟨⟨rfl, rfl⟩, ⟨⟨rfl, rfl⟩, ⟨⟨rfl, rfl⟩, ⟨⟨rfl, rfl⟩, ⟨⟨rfl, rfl⟩, trivial⟩⟩⟩⟩⟩⟩⟩) (fun _ h => h.re [2, 2, 2, 2, 2] [5, 5])
    ·
     have p44 := Decidable.not_not.1 (of_decide_eq_false c33)
     refine k_skip ?_
     refine xs_block ?_
     refine xs_then ?_
     refine k_reg ?_
     refine s_lt (t_add (i : Int) 1 (by (try simp only [lnm]); omega)) ?_
     refine sp (.int .i64 ((i : Int) + 1)) ?_
     refine s_nil ?_
     have hst := refsL_step hy31
     rw [if_neg (of_decide_eq_false c33)] at hst
     rw [← hst]
     exact xs_round (rx, i + 1) (by show (o17.mt :: o17.vals).length - (i + 1) < (o17.mt :: o17.vals).length - i; omega) (by show i + 1 ≤ (o17.mt :: o17.vals).length; omega) (sub_of rfl ⟨⟨rfl, rfl⟩, ⟨⟨rfl, rfl⟩, ⟨⟨rfl, rfl⟩, ⟨⟨rfl, rfl⟩, ⟨⟨rfl, rfl⟩, ⟨⟨rfl, rfl⟩, ⟨⟨rfl, rfl⟩, trivial⟩⟩⟩⟩⟩⟩⟩) (fun _ h => h.re [1, 1, 1, 1, 1] [5])
   ·
    have p45 := of_decide_eq_false c28
    refine k_exit ?_
    refine xs_exit ?_
    refine xs_exit ?_
    refine xs_here ?_
    refine xs_then ?_
    refine k_seq ?_
    refine k_sr ?_
    refine sp (pB q18.1 0) ?_
    refine sp (pB q18.1 0) ?_
    refine sp (pB q18.1 0) ?_
    refine s_mem3 (fun H h => hp_open (h.re [1] [])) (fun mb46 tb47 tm48 hw => ?_)
    obtain ⟨hi49, ha50, ht51⟩ := hw
    refine s_memX (fun H h => all_focus hq20 ho19 (h.re [3] [])) (fun v52 _ => ?_)
    refine s_lt (t_load 0 (.int .i64 o17.kind)) ?_
    refine s_lt t_cmp ?_
    refine s_nt ?_
    refine k_cond (decide (o17.kind = 4)) (fun c53 => ?_) (fun c53 => ?_)
    ·
     have p54 := of_decide_eq_true c53
     refine k_seq ?_
     refine k_cut (ι := Unit) (fun _ => True) (fun _ => [(2, .int .i64 weak), (6, pB g1 0), (8, pB q18.1 0), (9, pB g22 0), (63, .bool ((decide ((0 : Int) ≤ weak)) && (decide (weak ≤ 3))))]) (fun _ => blkA q18.1 #[.int .i64 o17.kind, .int .i64 o17.tag, .string o17.name, (tabV q18 o17), .int .i64 o17.mt.kind, .int .i64 o17.mt.p, .int .i64 o17.mt.q, .string o17.mt.str, .int .i64 o17.mt.ref, v52] 84 :: own VlT v52 o17.vals :: tabO q18 o17 :: holeP ps5 st id :: blkA b #[.map (some mb46), .int .i64 (st.objs.length : Int), .map (some tb47)] 76 :: mpA iK oV mb46 ps5 :: mpA iK bV tb47 tm48 :: own iTy rx (refsL (o17.mt :: o17.vals) i) :: own VlT v25 (o17.mt :: o17.vals) :: blkA g22 #[.int .i64 id, .int .i64 (obSize o17), .int .i64 0, rx, (.slice none 0 0)] 57 :: blkA g1 #[.int .i64 0, .int .i64 0, .int .i64 0, (.slice none 0 0), (.slice none 0 0)] 57 :: F) ?_ (fun _ _ => ?_)
     ·
      refine k_reg ?_
      refine sp (.int .i64 weak) ?_
      refine s_lt t_cmp ?_
      refine sp (.bool (decide ((0 : Int) ≤ weak))) ?_
      refine s_fork 60 (decide ((0 : Int) ≤ weak)) (fun c55 => ?_) (fun c55 => ?_)
      ·
       have p56 := of_decide_eq_true c55
       refine sp (.int .i64 weak) ?_
       refine s_lt t_cmp ?_
       refine sp (.bool (decide (weak ≤ 3))) ?_
       refine s_nil ?_
       exact xs_cut () trivial (sub_of rfl ⟨⟨rfl, rfl⟩, ⟨⟨rfl, rfl⟩, ⟨⟨rfl, rfl⟩, ⟨⟨rfl, rfl⟩, ⟨⟨rfl, show Value.bool (decide (weak ≤ 3)) = Value.bool ((decide ((0 : Int) ≤ weak)) && (decide (weak ≤ 3))) by first | (simp only [c55, bls]; done) | simp [c55]⟩, trivial⟩⟩⟩⟩⟩) (fun _ h => h.re [0, 0, 0, 0, 0, 0, 0, 0, 0, 0, 0] [])
      ·
       have p57 := of_decide_eq_false c55
       refine s_skip ?_
       refine s_skip ?_
       refine sp (.bool false) ?_
       refine s_nil ?_
       exact xs_cut () trivial (sub_of rfl ⟨⟨rfl, rfl⟩, ⟨⟨rfl, rfl⟩, ⟨⟨rfl, rfl⟩, ⟨⟨rfl, rfl⟩, ⟨⟨rfl, show Value.bool false = Value.bool ((decide ((0 : Int) ≤ weak)) && (decide (weak ≤ 3))) by first | (simp only [c55, bls]; done) | simp [c55]⟩, trivial⟩⟩⟩⟩⟩) (fun _ h => h.re [0, 0, 0, 0, 0, 0, 0, 0, 0, 0, 0] [])
     ·
      refine k_cond ((decide ((0 : Int) ≤ weak)) && (decide (weak ≤ 3))) (fun c58 => ?_) (fun c58 => ?_)
      ·
       obtain ⟨c59, c60⟩ := and_t c58
       have p61 := of_decide_eq_true c59
       have p62 := of_decide_eq_true c60
       refine k_reg ?_
       refine sp (.int .i64 weak) ?_
       refine sp (pB g22 2) ?_
       refine s_store 9 #[.int .i64 id, .int .i64 (obSize o17), .int .i64 weak, rx, (.slice none 0 0)] ?_
       refine s_nt ?_
       refine k_reg ?_
       refine sp (pB q18.1 0) ?_
       refine sp (pB q18.1 0) ?_
       refine sp (pB q18.1 3) ?_
       refine s_lt (Lt.to (v' := ptrV q18.2) (t_load 0 (tabV q18 o17)) (by unfold tabV; rw [if_pos (of_decide_eq_true c53)])) ?_
       refine s_mem (fun _ h => tabO_open (of_decide_eq_true c53) (h.re [2] [])) ?_
       refine s_call [0] (entries_s (L := o17.tab.list) (S := o17.tab.rest) (hi49.obs o17 (get_mem ho19).1).tab (hw.of ho19).tw (by (try simp only [lnm]); omega) (by (try simp only [lnm]); omega)) ?_
       rintro v63 _ rfl
       refine s_fact (fun H h => ((Acc.own (T := EntT) (L := (entsOf ⟨o17.tab.list, o17.tab.rest⟩)) 0 rfl) H h).form) (fun hf64 => ?_)
       refine sp (pB g22 4) ?_
       refine s_store (u := v63) (m := 1) 10 #[.int .i64 id, .int .i64 (obSize o17), .int .i64 weak, rx, v63] ?_ (hm := by (obtain ⟨_, _, e⟩ := hf64; rw [e]; rfl)) (h1 := by (obtain ⟨_, _, e⟩ := hf64; rw [e]; rfl)) (ha' := by (obtain ⟨_, _, e⟩ := hf64; rw [e]; rfl))
       refine s_nr ?_
       refine s_lt (t_loadA 10 #[.int .i64 id, .int .i64 (obSize o17), .int .i64 weak, rx, v63]) ?_
       refine s_fact (fun H h => ((Acc.own (T := iTy) (L := (refsL (o17.mt :: o17.vals) i)) 8 rfl) H h).form) (fun hf65 => ?_)
       refine s_store (u := .agg #[.int .i64 id, .int .i64 (obSize o17), .int .i64 weak, rx, v63]) (m := 5) 11 #[.int .i64 id, .int .i64 (obSize o17), .int .i64 weak, rx, v63] ?_ (hm := by (obtain ⟨_, _, e⟩ := hf65; rw [e]; obtain ⟨_, _, e⟩ := hf64; rw [e]; rfl)) (h1 := by (obtain ⟨_, _, e⟩ := hf65; rw [e]; obtain ⟨_, _, e⟩ := hf64; rw [e]; rfl)) (ha' := by (obtain ⟨_, _, e⟩ := hf65; rw [e]; obtain ⟨_, _, e⟩ := hf64; rw [e]; rfl))
       refine sp (.bool true) ?_
       refine s_nt ?_
       refine k_ret ?_
       refine xs_mem (fun _ h => tabO_shut (T := o17.tab) (of_decide_eq_true c53) (h.re [1] [])) ?_
       refine xs_mem (Bs := tabO q18 o17 :: own EntT v63 (entsOf ⟨o17.tab.list, o17.tab.rest⟩) :: blkA q18.1 #[.int .i64 o17.kind, .int .i64 o17.tag, .string o17.name, (tabV q18 o17), .int .i64 o17.mt.kind, .int .i64 o17.mt.p, .int .i64 o17.mt.q, .string o17.mt.str, .int .i64 o17.mt.ref, v52] 84 :: own VlT v52 o17.vals :: holeP ps5 st id :: blkA b #[.map (some mb46), .int .i64 (st.objs.length : Int), .map (some tb47)] 76 :: mpA iK oV mb46 ps5 :: mpA iK bV tb47 tm48 :: own iTy rx (refsL (o17.mt :: o17.vals) i) :: own VlT v25 (o17.mt :: o17.vals) :: blkA g22 #[.int .i64 id, .int .i64 (obSize o17), .int .i64 weak, rx, v63] 57 :: blkA g1 #[.int .i64 id, .int .i64 (obSize o17), .int .i64 weak, rx, v63] 57 :: F) (fun _ h => h) ?_
       refine xs_fact (fun H h => (h.mp (i := 6) rfl).nodup) (fun hnd66 => ?_)
       refine xs_mem (fun _ h => (put_same ho19) ▸ all_unfocus (o' := o17) hnd66 hq20 ho19 (ob_shut (o := o17) (h.re [2, 2, 0, 1] []))) ?_
       refine xs_mem (Bs := allP ps5 st :: own EntT v63 (entsOf ⟨o17.tab.list, o17.tab.rest⟩) :: blkA b #[.map (some mb46), .int .i64 (st.objs.length : Int), .map (some tb47)] 76 :: mpA iK oV mb46 ps5 :: mpA iK bV tb47 tm48 :: own iTy rx (refsL (o17.mt :: o17.vals) i) :: own VlT v25 (o17.mt :: o17.vals) :: blkA g22 #[.int .i64 id, .int .i64 (obSize o17), .int .i64 weak, rx, v63] 57 :: blkA g1 #[.int .i64 id, .int .i64 (obSize o17), .int .i64 weak, rx, v63] 57 :: F) (fun _ h => h) ?_
       refine xs_mem (fun _ h => hp_shut (st := st) (n := (st.objs.length : Int)) ⟨⟨hi49, ha50, ht51⟩, rfl⟩ (h.re [2, 2, 2, 0] [])) ?_
       refine xs_mem (fun _ h => hpA_shut (h.re [0] [])) ?_
       have hend : refsL (o17.mt :: o17.vals) i = refsOf o17 := refsL_end (by omega)
       have hob := obj_some ho19 weak
       have hwk : hweak o17 weak = weak := by unfold hweak; rw [if_pos ⟨(of_decide_eq_true c53), by omega, by omega⟩]
       have hen : hents st id = entsOf o17.tab := by rw [hob.2.2.2.2.2]; exact if_pos (of_decide_eq_true c53)
       exact xs_fin [.agg #[.int .i64 id, .int .i64 (obSize o17), .int .i64 weak, rx, v63], .bool true] (own iTy rx (refsL (o17.mt :: o17.vals) i) :: own EntT v63 (entsOf o17.tab) :: hpA b st :: F) (SI.agg 6 57 5 (SI.tmp 7 SI.nil)) (fun _ h => h.re [2, 1, 0] [3, 3, 3]) ⟨rx, v63, by rw [hob.1, hob.2.1, hob.2.2.1, hob.2.2.2.1, hwk]; rfl, by rw [hen, hob.2.2.2.2.1, hend]⟩
      ·
       have p67 := c58
       simp only [Bool.and_eq_true, Bool.or_eq_true, Bool.and_eq_false_iff, Bool.or_eq_false_iff, Bool.not_eq_true', Bool.not_eq_false', decide_eq_true_eq, decide_eq_false_iff_not] at p67
       refine k_st ?_
       refine k_reg ?_
       refine sp (pB q18.1 0) ?_
       refine sp (pB q18.1 0) ?_
       refine sp (pB q18.1 3) ?_
       refine s_lt (Lt.to (v' := ptrV q18.2) (t_load 0 (tabV q18 o17)) (by unfold tabV; rw [if_pos (of_decide_eq_true c53)])) ?_
       refine s_mem (fun _ h => tabO_open (of_decide_eq_true c53) (h.re [2] [])) ?_
       refine s_call [0] (entries_s (L := o17.tab.list) (S := o17.tab.rest) (hi49.obs o17 (get_mem ho19).1).tab (hw.of ho19).tw (by (try simp only [lnm]); omega) (by (try simp only [lnm]); omega)) ?_
       rintro v68 _ rfl
       refine s_fact (fun H h => ((Acc.own (T := EntT) (L := (entsOf ⟨o17.tab.list, o17.tab.rest⟩)) 0 rfl) H h).form) (fun hf69 => ?_)
       refine sp (pB g22 4) ?_
       refine s_store (u := v68) (m := 1) 10 #[.int .i64 id, .int .i64 (obSize o17), .int .i64 0, rx, v68] ?_ (hm := by (obtain ⟨_, _, e⟩ := hf69; rw [e]; rfl)) (h1 := by (obtain ⟨_, _, e⟩ := hf69; rw [e]; rfl)) (ha' := by (obtain ⟨_, _, e⟩ := hf69; rw [e]; rfl))
       refine s_nr ?_
       refine s_lt (t_loadA 10 #[.int .i64 id, .int .i64 (obSize o17), .int .i64 0, rx, v68]) ?_
       refine s_fact (fun H h => ((Acc.own (T := iTy) (L := (refsL (o17.mt :: o17.vals) i)) 8 rfl) H h).form) (fun hf70 => ?_)
       refine s_store (u := .agg #[.int .i64 id, .int .i64 (obSize o17), .int .i64 0, rx, v68]) (m := 5) 11 #[.int .i64 id, .int .i64 (obSize o17), .int .i64 0, rx, v68] ?_ (hm := by (obtain ⟨_, _, e⟩ := hf70; rw [e]; obtain ⟨_, _, e⟩ := hf69; rw [e]; rfl)) (h1 := by (obtain ⟨_, _, e⟩ := hf70; rw [e]; obtain ⟨_, _, e⟩ := hf69; rw [e]; rfl)) (ha' := by (obtain ⟨_, _, e⟩ := hf70; rw [e]; obtain ⟨_, _, e⟩ := hf69; rw [e]; rfl))
       refine sp (.bool true) ?_
       refine s_nt ?_
       refine k_ret ?_
       refine xs_mem (fun _ h => tabO_shut (T := o17.tab) (of_decide_eq_true c53) (h.re [1] [])) ?_
       refine xs_mem (Bs := tabO q18 o17 :: own EntT v68 (entsOf ⟨o17.tab.list, o17.tab.rest⟩) :: blkA q18.1 #[.int .i64 o17.kind, .int .i64 o17.tag, .string o17.name, (tabV q18 o17), .int .i64 o17.mt.kind, .int .i64 o17.mt.p, .int .i64 o17.mt.q, .string o17.mt.str, .int .i64 o17.mt.ref, v52] 84 :: own VlT v52 o17.vals :: holeP ps5 st id :: blkA b #[.map (some mb46), .int .i64 (st.objs.length : Int), .map (some tb47)] 76 :: mpA iK oV mb46 ps5 :: mpA iK bV tb47 tm48 :: own iTy rx (refsL (o17.mt :: o17.vals) i) :: own VlT v25 (o17.mt :: o17.vals) :: blkA g22 #[.int .i64 id, .int .i64 (obSize o17), .int .i64 0, rx, v68] 57 :: blkA g1 #[.int .i64 id, .int .i64 (obSize o17), .int .i64 0, rx, v68] 57 :: F) (fun _ h => h) ?_
       refine xs_fact (fun H h => (h.mp (i := 6) rfl).nodup) (fun hnd71 => ?_)
       refine xs_mem (fun _ h => (put_same ho19) ▸ all_unfocus (o' := o17) hnd71 hq20 ho19 (ob_shut (o := o17) (h.re [2, 2, 0, 1] []))) ?_
       refine xs_mem (Bs := allP ps5 st :: own EntT v68 (entsOf ⟨o17.tab.list, o17.tab.rest⟩) :: blkA b #[.map (some mb46), .int .i64 (st.objs.length : Int), .map (some tb47)] 76 :: mpA iK oV mb46 ps5 :: mpA iK bV tb47 tm48 :: own iTy rx (refsL (o17.mt :: o17.vals) i) :: own VlT v25 (o17.mt :: o17.vals) :: blkA g22 #[.int .i64 id, .int .i64 (obSize o17), .int .i64 0, rx, v68] 57 :: blkA g1 #[.int .i64 id, .int .i64 (obSize o17), .int .i64 0, rx, v68] 57 :: F) (fun _ h => h) ?_
       refine xs_mem (fun _ h => hp_shut (st := st) (n := (st.objs.length : Int)) ⟨⟨hi49, ha50, ht51⟩, rfl⟩ (h.re [2, 2, 2, 0] [])) ?_
       refine xs_mem (fun _ h => hpA_shut (h.re [0] [])) ?_
       have hend : refsL (o17.mt :: o17.vals) i = refsOf o17 := refsL_end (by omega)
       have hob := obj_some ho19 weak
       have hwk : hweak o17 weak = 0 := by unfold hweak; rw [if_neg]; rintro ⟨h1, h2, h3⟩; omega
       have hen : hents st id = entsOf o17.tab := by rw [hob.2.2.2.2.2]; exact if_pos (of_decide_eq_true c53)
       exact xs_fin [.agg #[.int .i64 id, .int .i64 (obSize o17), .int .i64 0, rx, v68], .bool true] (own iTy rx (refsL (o17.mt :: o17.vals) i) :: own EntT v68 (entsOf o17.tab) :: hpA b st :: F) (SI.agg 6 57 5 (SI.tmp 7 SI.nil)) (fun _ h => h.re [2, 1, 0] [3, 3, 3]) ⟨rx, v68, by rw [hob.1, hob.2.1, hob.2.2.1, hob.2.2.2.1, hwk]; rfl, by rw [hen, hob.2.2.2.2.1, hend]⟩
    ·
     have p72 := of_decide_eq_false c53
     refine k_st ?_
     refine k_sr ?_
     refine s_lt (t_loadA 9 #[.int .i64 id, .int .i64 (obSize o17), .int .i64 0, rx, (.slice none 0 0)]) ?_
     refine s_fact (fun H h => ((Acc.own (T := iTy) (L := (refsL (o17.mt :: o17.vals) i)) 7 rfl) H h).form) (fun hf73 => ?_)
     refine s_store (u := .agg #[.int .i64 id, .int .i64 (obSize o17), .int .i64 0, rx, (.slice none 0 0)]) (m := 5) 10 #[.int .i64 id, .int .i64 (obSize o17), .int .i64 0, rx, (.slice none 0 0)] ?_ (hm := by (obtain ⟨_, _, e⟩ := hf73; rw [e]; rfl)) (h1 := by (obtain ⟨_, _, e⟩ := hf73; rw [e]; rfl)) (ha' := by (obtain ⟨_, _, e⟩ := hf73; rw [e]; rfl))
     refine sp (.bool true) ?_
     refine s_nt ?_
     refine k_ret ?_
     refine xs_fact (fun H h => (h.mp (i := 5) rfl).nodup) (fun hnd74 => ?_)
     refine xs_mem (fun _ h => (put_same ho19) ▸ all_unfocus (o' := o17) hnd74 hq20 ho19 (ob_shut (o := o17) (h.re [0, 0, 0, 0] []))) ?_
     refine xs_mem (Bs := allP ps5 st :: blkA b #[.map (some mb46), .int .i64 (st.objs.length : Int), .map (some tb47)] 76 :: mpA iK oV mb46 ps5 :: mpA iK bV tb47 tm48 :: own iTy rx (refsL (o17.mt :: o17.vals) i) :: own VlT v25 (o17.mt :: o17.vals) :: blkA g22 #[.int .i64 id, .int .i64 (obSize o17), .int .i64 0, rx, (.slice none 0 0)] 57 :: blkA g1 #[.int .i64 id, .int .i64 (obSize o17), .int .i64 0, rx, (.slice none 0 0)] 57 :: F) (fun _ h => h) ?_
     refine xs_mem (fun _ h => hp_shut (st := st) (n := (st.objs.length : Int)) ⟨⟨hi49, ha50, ht51⟩, rfl⟩ (h.re [1, 1, 1, 0] [])) ?_
     refine xs_mem (fun _ h => Holds.nilS (T := EntT) h) ?_
     refine xs_mem (fun _ h => hpA_shut (h.re [1] [])) ?_
     have hend : refsL (o17.mt :: o17.vals) i = refsOf o17 := refsL_end (by omega)
     have hob := obj_some ho19 weak
     have hwk : hweak o17 weak = 0 := by unfold hweak; rw [if_neg]; rintro ⟨h1, h2, h3⟩; exact absurd h1 (of_decide_eq_false c53)
     have hen : hents st id = [] := by rw [hob.2.2.2.2.2]; exact if_neg (of_decide_eq_false c53)
     exact xs_fin [.agg #[.int .i64 id, .int .i64 (obSize o17), .int .i64 0, rx, (.slice none 0 0)], .bool true] (own iTy rx (refsL (o17.mt :: o17.vals) i) :: own EntT (.slice none 0 0) [] :: hpA b st :: F) (SI.agg 6 57 5 (SI.tmp 7 SI.nil)) (fun _ h => h.re [2, 1, 0] [3, 3, 3]) ⟨rx, (.slice none 0 0), by rw [hob.1, hob.2.1, hob.2.2.1, hob.2.2.2.1, hwk]; rfl, by rw [hen, hob.2.2.2.2.1, hend]⟩
end Go.Proofs.Ytmilekfknhglkaa
end
section
set_option linter.unusedSimpArgs false
set_option linter.unusedVariables false
namespace Go.Proofs.Ytmilekfknhglkaa
structure Sv where
  p : Option Addr
  len : Nat
  cap : Nat
abbrev Sv.v (s : Sv) : Value := .slice s.p s.len s.cap
/-- A call: its cells, and what its list holds. -/
structure Cl where
  kind : Int
  a : Vl
  b : Vl
  c : Vl
  n : Int
  s : ByteArray
  lv : Sv
  l : List Vl
structure Rs where
  v : Vl
  w : Vl
  n : Int
  s : ByteArray
  ok : Bool
  e : Int
  deriving DecidableEq
def hcall (st : Hst) (c : Cl) : Hst :=
  if c.kind = 0 then hmake st (newO 4 0 ByteArray.empty []) else
  if c.kind = 1 then hmake st (newO 5 c.n ByteArray.empty []) else
  if c.kind = 2 then hmake st (newO 7 c.n ByteArray.empty []) else
  if c.kind = 3 then hdata st c.s else
  if c.kind = 4 then st else
  if c.kind = 5 then hset st c.a c.b c.c else
  if c.kind = 6 then st else
  if c.kind = 7 then st else
  if c.kind = 8 then hins st c.a c.n c.c else
  if c.kind = 9 then hrem st c.a c.n else
  if c.kind = 10 then hsetMeta st c.a c.b else
  if c.kind = 11 then st else
  if c.kind = 12 then hsetSlot st c.a c.n c.c else
  if c.kind = 13 then hsetRefs st c.a c.l else
  if c.kind = 14 then hdrop st c.n else
  if c.kind = 15 then st else
  if c.kind = 16 then st else
  if c.kind = 17 then st else
  st
def hres (st : Hst) (c : Cl) : Rs :=
  if c.kind = 0 then ⟨hmakeV st 4, zVl, 0, ByteArray.empty, false, hmakeE st⟩ else
  if c.kind = 1 then ⟨hmakeV st 5, zVl, 0, ByteArray.empty, false, hmakeE st⟩ else
  if c.kind = 2 then ⟨hmakeV st 7, zVl, 0, ByteArray.empty, false, hmakeE st⟩ else
  if c.kind = 3 then ⟨hdataV st c.s, zVl, 0, ByteArray.empty, false, hdataE st c.s⟩ else
  if c.kind = 4 then ⟨hgetV st c.a c.b, zVl, 0, ByteArray.empty, false, hgetE st c.a⟩ else
  if c.kind = 5 then ⟨zVl, zVl, 0, ByteArray.empty, false, hsetE st c.a c.b c.c⟩ else
  if c.kind = 6 then ⟨zVl, zVl, hlenV st c.a, ByteArray.empty, false, hgetE st c.a⟩ else
  if c.kind = 7 then ⟨(hnext st c.a c.b).1, (hnext st c.a c.b).2.1, 0, ByteArray.empty, (hnext st c.a c.b).2.2.1, (hnext st c.a c.b).2.2.2⟩ else
  if c.kind = 8 then ⟨zVl, zVl, 0, ByteArray.empty, false, hinsE st c.a c.n c.c⟩ else
  if c.kind = 9 then ⟨hremV st c.a c.n, zVl, 0, ByteArray.empty, false, hremE st c.a c.n⟩ else
  if c.kind = 10 then ⟨zVl, zVl, 0, ByteArray.empty, false, hsetMetaE st c.a c.b⟩ else
  if c.kind = 11 then ⟨hslotV st c.a c.n, zVl, 0, ByteArray.empty, false, hslotE st c.a c.n⟩ else
  if c.kind = 12 then ⟨zVl, zVl, 0, ByteArray.empty, false, hsetSlotE st c.a c.n c.c⟩ else
  if c.kind = 13 then ⟨zVl, zVl, 0, ByteArray.empty, false, hsetRefsE st c.a c.l⟩ else
  if c.kind = 14 then ⟨zVl, zVl, 0, ByteArray.empty, false, hdropE st c.n⟩ else
  if c.kind = 15 then ⟨zVl, zVl, (htagV st c.a).1, ByteArray.empty, (htagV st c.a).2, 0⟩ else
  if c.kind = 16 then ⟨zVl, zVl, 0, (hnameV st c.a).1, (hnameV st c.a).2, 0⟩ else
  if c.kind = 17 then ⟨hmeta st c.a, zVl, 0, ByteArray.empty, false, 0⟩ else
  ⟨zVl, zVl, 0, ByteArray.empty, halive st c.n, 0⟩
section
variable {st : Hst} {c : Cl} {n : Nat}
theorem hdata_cases (st : Hst) (name : ByteArray) : (40 < (name.size : Int) ∧ hdata st name = st ∧ hdataE st name = 14 ∧ hdataV st name = zVl) ∨ (¬ 40 < (name.size : Int) ∧ hdata st name = hmake st (newO 8 0 name (List.replicate 16 zVl)) ∧ hdataE st name = hmakeE st ∧ hdataV st name = hmakeV st 8) := by
  unfold hdata hdataE hdataV
  by_cases h : 40 < (name.size : Int)
  · exact .inl ⟨h, if_pos h, if_pos h, if_pos h⟩
  · exact .inr ⟨h, if_neg h, if_neg h, if_neg h⟩
theorem hdata_inv' (h : HInv st) (name : ByteArray) : HInv (hdata st name) := by
  rcases hdata_cases st name with ⟨_, e, _⟩ | ⟨_, e, _⟩ <;> rw [e]
  · exact h
  · exact hmake_inv h (newO_inv _ _ _ (by decide))
theorem hdata_sm' (h : HSm n st) (name : ByteArray) : HSm (n + 1) (hdata st name) := by
  rcases hdata_cases st name with ⟨_, e, _⟩ | ⟨_, e, _⟩ <;> rw [e]
  · exact h.mono (by omega)
  · exact hmake_sm h rfl (by simp [newO])
theorem hdata_w (h : HW st) (name : ByteArray) : HW (hdata st name) := by
  rcases hdata_cases st name with ⟨_, e, _⟩ | ⟨_, e, _⟩ <;> rw [e]
  · exact h
  · exact h.make (data_w name)
theorem kinds (c : Cl) : c.kind = 0 ∨ c.kind = 1 ∨ c.kind = 2 ∨ c.kind = 3 ∨ c.kind = 4 ∨ c.kind = 5 ∨ c.kind = 6 ∨ c.kind = 7 ∨ c.kind = 8 ∨ c.kind = 9 ∨ c.kind = 10 ∨ c.kind = 11 ∨ c.kind = 12 ∨ c.kind = 13 ∨ c.kind = 14 ∨ c.kind = 15 ∨ c.kind = 16 ∨ c.kind = 17 ∨ (c.kind < 0 ∨ 17 < c.kind) := by omega
/-- A call that creates an object. -/
def news (st : Hst) (c : Cl) : Prop := 0 ≤ c.kind ∧ c.kind ≤ 3 ∧ (hres st c).e = 0
/-- The heap behind the first calls. -/
def hrun (l : List Cl) : Nat → Hst
  | 0 => hp0
  | i + 1 => match l[i]? with
    | some c => hcall (hrun l i) c
    | none => hrun l i
end
end Go.Proofs.Ytmilekfknhglkaa
end
