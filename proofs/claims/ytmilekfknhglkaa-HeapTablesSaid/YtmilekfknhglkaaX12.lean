/-
  Layer 14: HeapTables. Each law says its conditions.
-/
import Derived.Test.YtmilekfknhglkaaG5
import Derived.Test.YtmilekfknhglkaaXS
set_option linter.unusedSimpArgs false
set_option linter.unusedVariables false
set_option maxRecDepth 100000
set_option maxHeartbeats 2000000
namespace Go.Proofs.Ytmilekfknhglkaa
open Go.Hp Go.J Go.S
open Go.Mem (Ty KTy blk elemAt pre suf blk_pre blk_suf aget aset strK aggDesc)
open Go.Mem (adel apos aget_aset aget_adel)
theorem KnL.lit {Z : Zone} {As : List Asr} {H : Heap} {v : Value} {x : Cl} (a : Acc Z As ClT v [x]) (h : Holds Z As H) (hx : KnC (zoneOf H) x) : KnL (zoneOf H) v [x] := ⟨a.kn h, fun y hy => by rw [List.mem_singleton.1 hy]; exact hx⟩
theorem KnC.nil {H : Heap} {k : Int} {a b c : Vl} {n : Int} {s : ByteArray} : KnC (zoneOf H) ⟨k, a, b, c, n, s, ⟨none, 0, 0⟩, []⟩ := .of (Sl.nil _ _)
theorem tables_w {Z : Zone} {lv : Value} {l : List Vl} (hL : Kn Z VlT lv l) (k : Vl) : SF Try.prog 3 #[lv, k.v] Z [] fun r Bs => r = .bool true ∧ Bs = [] := by
 refine sf_enter Try.func3 173 [(0, lv), (1, .agg #[.int .i64 k.kind, .int .i64 k.p, .int .i64 k.q, .string k.str, .int .i64 k.ref])] (fun w0 => ?_)
 refine k_fact (fun H h => (hL.get h).len_le) (fun lA => ?_)
 refine k_sr ?_
 refine s_box #[.int .i64 k.kind, .int .i64 k.p, .int .i64 k.q, .string k.str, .int .i64 k.ref] (fun g1 => ?_)
 refine sp (.bool false) ?_
 refine s_nt ?_
 refine k_seq ?_
 refine k_sr ?_
 refine sp lv ?_
 refine s_lt (t_len VlT_ok Try.underlying22 (.zn hL)) ?_
 refine s_lt t_cmp ?_
 refine sp (.bool (decide ((60 : Int) < (l.length : Int)))) ?_
 refine s_fork 28 (decide ((60 : Int) < (l.length : Int))) (fun c2 => ?_) (fun c2 => ?_)
 ·
  have p3 := of_decide_eq_true c2
  refine s_skip ?_
  refine s_skip ?_
  refine s_skip ?_
  refine s_skip ?_
  refine sp (.bool true) ?_
  refine s_nt ?_
  refine k_true ?_
  refine k_sr ?_
  refine s_vcall (fun _ h => awake_s) ?_
  rintro _ rfl
  refine sp (.bool true) ?_
  refine s_nt ?_
  refine k_ret ?_
  refine xs_ret ?_
  exact xs_fin [.bool true] [] (SI.tmp 4 SI.nil) (fun _ h => h.re [] [0]) ⟨rfl, rfl⟩
 ·
  have p4 := of_decide_eq_false c2
  refine s_lt (t_loadA 0 #[.int .i64 k.kind, .int .i64 k.p, .int .i64 k.q, .string k.str, .int .i64 k.ref]) ?_
  refine s_lt (t_kern (.agg #[.int .i64 0, .int .i64 k.kind, .int .i64 k.p, .int .i64 k.q, .string k.str, .int .i64 k.ref, .int .i64 0, .int .i64 0, .int .i64 0, .string ByteArray.empty, .int .i64 0, .int .i64 0, .int .i64 0, .int .i64 0, .string ByteArray.empty, .int .i64 0, .int .i64 0, .string ByteArray.empty, (.slice none 0 0)])) ?_
  refine s_buildSlice (e := 29) [(0, .agg #[.int .i64 0, .int .i64 k.kind, .int .i64 k.p, .int .i64 k.q, .string k.str, .int .i64 k.ref, .int .i64 0, .int .i64 0, .int .i64 0, .string ByteArray.empty, .int .i64 0, .int .i64 0, .int .i64 0, .int .i64 0, .string ByteArray.empty, .int .i64 0, .int .i64 0, .string ByteArray.empty, (.slice none 0 0)])] #[.int .i64 0, .int .i64 k.kind, .int .i64 k.p, .int .i64 k.q, .string k.str, .int .i64 k.ref, .int .i64 0, .int .i64 0, .int .i64 0, .string ByteArray.empty, .int .i64 0, .int .i64 0, .int .i64 0, .int .i64 0, .string ByteArray.empty, .int .i64 0, .int .i64 0, .string ByteArray.empty, (.slice none 0 0)] (fun g5 => ?_) (hb := by kernel_rfl)
  refine s_pcall (fun _ h => long_s (KnL.lit (Acc.lit 0 ClT_ok [(⟨0, k, zVl, zVl, 0, ByteArray.empty, ⟨none, 0, 0⟩, []⟩ : Cl)]) h KnC.nil)) ?_
  rintro _ _ ⟨lg8, rfl, _, rfl⟩
  refine sp (.bool lg8) ?_
  refine s_nt ?_
  refine k_cond lg8 (fun c9 => ?_) (fun c9 => ?_)
  ·
   refine k_sr ?_
   refine s_vcall (fun _ h => awake_s) ?_
   rintro _ rfl
   refine sp (.bool true) ?_
   refine s_nt ?_
   refine k_ret ?_
   refine xs_ret ?_
   exact xs_fin [.bool true] [] (SI.tmp 4 SI.nil) (fun _ h => h.re [] [0, 0]) ⟨rfl, rfl⟩
  ·
   refine k_st ?_
   refine k_sr ?_
   refine s_pcall (fun _ h => hnew_s) ?_
   rintro _ _ ⟨hb10, rfl, rfl⟩
   refine s_pcall (fun _ h => tbnew_s) ?_
   rintro _ _ ⟨tg11, rfl, rfl⟩
   refine sp (pB hb10 0) ?_
   refine sp (pB tg11 0) ?_
   refine s_nr ?_
   refine sp (pB hb10 0) ?_
   refine s_call [1] (hnewtable_s (st := hp0) (by have := HSm.nil.len; omega)) ?_
   rintro _ _ ⟨rfl, rfl⟩
   have hi12 := hmake_inv (o := (newO 4 0 ByteArray.empty [])) HInv.nil (newO_inv _ _ _ (by decide))
   have hs13 := hmake_sm (o := (newO 4 0 ByteArray.empty [])) HSm.nil rfl (by decide)
   have hw14 := HW.make (o := (newO 4 0 ByteArray.empty [])) HW.nil (newO_w _ _ _ (fun _ hv => (by cases hv)) (fun h8 => by cases h8))
   refine sp (.tuple #[.agg #[.int .i64 ((hmakeV hp0 4).kind), .int .i64 ((hmakeV hp0 4).p), .int .i64 ((hmakeV hp0 4).q), .string ((hmakeV hp0 4).str), .int .i64 ((hmakeV hp0 4).ref)], .int .i64 (hmakeE hp0)]) ?_
   refine sp (.agg #[.int .i64 ((hmakeV hp0 4).kind), .int .i64 ((hmakeV hp0 4).p), .int .i64 ((hmakeV hp0 4).q), .string ((hmakeV hp0 4).str), .int .i64 ((hmakeV hp0 4).ref)]) ?_
   refine sp (.int .i64 (hmakeE hp0)) ?_
   refine s_alloc (.agg #[.int .i64 0, .int .i64 0, .int .i64 0, .string ByteArray.empty, .int .i64 0]) #[.int .i64 0, .int .i64 0, .int .i64 0, .string ByteArray.empty, .int .i64 0] (fun g15 => ?_)
   refine s_store 0 #[.int .i64 ((hmakeV hp0 4).kind), .int .i64 ((hmakeV hp0 4).p), .int .i64 ((hmakeV hp0 4).q), .string ((hmakeV hp0 4).str), .int .i64 ((hmakeV hp0 4).ref)] ?_
   refine sp (.int .i64 (hmakeE hp0)) ?_
   refine s_nt ?_
   refine k_seq ?_
   refine k_sr ?_
   refine sp (.int .i64 (hmakeE hp0)) ?_
   refine s_lt (Lt.to t_cmp (congrArg Value.bool (decide_eq_false (fun h => h (by decide)) : (decide ((hmakeE hp0) ≠ 0)) = false))) ?_
   refine sp (.bool false) ?_
   refine sp (pB hb10 0) ?_
   refine sp (.bool false) ?_
   refine sp (.bool false) ?_
   refine sp (.bool false) ?_
   refine sp (pB tg11 0) ?_
   refine sp (.bool false) ?_
   refine sp (.bool false) ?_
   refine s_nt ?_
   refine k_false ?_
   refine k_st ?_
   refine k_seq ?_
   refine k_sr ?_
   refine sp lv ?_
   refine s_lt (t_len VlT_ok Try.underlying22 (.zn hL)) ?_
   refine sp (.int .i64 0) ?_
   refine s_nt ?_
   refine k_block ?_
   refine k_mem (Bs := [blkA g15 #[.int .i64 ((hmakeV hp0 4).kind), .int .i64 ((hmakeV hp0 4).p), .int .i64 ((hmakeV hp0 4).q), .string ((hmakeV hp0 4).str), .int .i64 ((hmakeV hp0 4).ref)] 26, hpA hb10 (tlH l 0), tbA tg11 ((tlT l 0).list) ((tlT l 0).rest), blkA g5 #[.int .i64 0, .int .i64 k.kind, .int .i64 k.p, .int .i64 k.q, .string k.str, .int .i64 k.ref, .int .i64 0, .int .i64 0, .int .i64 0, .string ByteArray.empty, .int .i64 0, .int .i64 0, .int .i64 0, .int .i64 0, .string ByteArray.empty, .int .i64 0, .int .i64 0, .string ByteArray.empty, (.slice none 0 0)] 29, blkA g1 #[.int .i64 k.kind, .int .i64 k.p, .int .i64 k.q, .string k.str, .int .i64 k.ref] 26]) (fun _ h => h) ?_
   refine k_loop (ι := Nat) (fun i => i ≤ l.length) (fun i => [(0, lv), (3, pB g1 0), (5, pB hb10 0), (6, pB tg11 0), (7, pB g15 0), (53, .int .i64 (l.length : Int)), (54, .int .i64 (i : Int))]) (fun i => [blkA g15 #[.int .i64 ((hmakeV hp0 4).kind), .int .i64 ((hmakeV hp0 4).p), .int .i64 ((hmakeV hp0 4).q), .string ((hmakeV hp0 4).str), .int .i64 ((hmakeV hp0 4).ref)] 26, hpA hb10 (tlH l i), tbA tg11 ((tlT l i).list) ((tlT l i).rest), blkA g5 #[.int .i64 0, .int .i64 k.kind, .int .i64 k.p, .int .i64 k.q, .string k.str, .int .i64 k.ref, .int .i64 0, .int .i64 0, .int .i64 0, .string ByteArray.empty, .int .i64 0, .int .i64 0, .int .i64 0, .int .i64 0, .string ByteArray.empty, .int .i64 0, .int .i64 0, .string ByteArray.empty, (.slice none 0 0)] 29, blkA g1 #[.int .i64 k.kind, .int .i64 k.p, .int .i64 k.q, .string k.str, .int .i64 k.ref] 26]) (fun i => l.length - i) 0 (Nat.zero_le _) (sub_of rfl ⟨⟨rfl, rfl⟩, ⟨⟨rfl, rfl⟩, ⟨⟨rfl, rfl⟩, ⟨⟨rfl, rfl⟩, ⟨⟨rfl, rfl⟩, ⟨⟨rfl, rfl⟩, ⟨⟨rfl, rfl⟩, trivial⟩⟩⟩⟩⟩⟩⟩) (fun _ h => h.re [0, 0, 0, 0, 0] []) ?_
   rintro i hi16
   show SK _ _ _ _ _ [(0, lv), (3, .pointer (some ⟨g1, 0, none⟩)), (5, .pointer (some ⟨hb10, 0, none⟩)), (6, .pointer (some ⟨tg11, 0, none⟩)), (7, .pointer (some ⟨g15, 0, none⟩)), (53, .int .i64 (l.length : Int)), (54, .int .i64 (i : Int))] _ [blkA g15 #[.int .i64 ((hmakeV hp0 4).kind), .int .i64 ((hmakeV hp0 4).p), .int .i64 ((hmakeV hp0 4).q), .string ((hmakeV hp0 4).str), .int .i64 ((hmakeV hp0 4).ref)] 26, hpA hb10 (tlH l i), tbA tg11 ((tlT l i).list) ((tlT l i).rest), blkA g5 #[.int .i64 0, .int .i64 k.kind, .int .i64 k.p, .int .i64 k.q, .string k.str, .int .i64 k.ref, .int .i64 0, .int .i64 0, .int .i64 0, .string ByteArray.empty, .int .i64 0, .int .i64 0, .int .i64 0, .int .i64 0, .string ByteArray.empty, .int .i64 0, .int .i64 0, .string ByteArray.empty, (.slice none 0 0)] 29, blkA g1 #[.int .i64 k.kind, .int .i64 k.p, .int .i64 k.q, .string k.str, .int .i64 k.ref] 26]
   obtain ⟨hi, hsm, hw, kt, hn1⟩ := tl_inv l i
   obtain ⟨hb1, hb2⟩ := tl_len l (i := i) (by omega)
   refine k_sr ?_
   refine s_lt t_cmp ?_
   refine s_nt ?_
   refine k_seq ?_
   refine k_cond (decide ((i : Int) < (l.length : Int))) (fun c17 => ?_) (fun c17 => ?_)
   ·
    have p18 := of_decide_eq_true c17
    refine k_st ?_
    refine k_seq ?_
    refine k_block ?_
    refine k_sr ?_
    refine sp (.int .i64 (i : Int)) ?_
    refine sp (.int .i64 (i : Int)) ?_
    refine s_nt ?_
    refine k_seq ?_
    refine k_sr ?_
    refine sp lv ?_
    refine sp (.int .i64 (i : Int)) ?_
    refine s_lt (t_index VlT_ok Try.underlying22 (.zn hL) (i : Int) i (by omega) (by (try simp only [lnm]); omega) (by omega)) ?_
    refine sp (.pointer (some ((elemAt VlT.size lv i).add 3))) ?_
    obtain ⟨y19, hy20⟩ : ∃ y, l[i]? = some y := ⟨_, List.getElem?_eq_getElem (by (try simp only [lnm]); omega)⟩
    refine s_lt (t_loadF 3 VlT_ok (.zn hL) hy20) ?_
    refine s_lt (t_kern (.int .i64 (y19.str.size : Int))) ?_
    refine s_lt t_cmp ?_
    refine s_nt ?_
    refine k_cond (decide ((4096 : Int) < (y19.str.size : Int))) (fun c21 => ?_) (fun c21 => ?_)
    ·
     have p22 := of_decide_eq_true c21
     refine k_sr ?_
     refine s_vcall (fun _ h => awake_s) ?_
     rintro _ rfl
     refine sp (.bool true) ?_
     refine s_nt ?_
     refine k_ret ?_
     refine xs_ret ?_
     refine xs_retBlock ?_
     refine xs_ret ?_
     refine xs_ret ?_
     refine xs_retBlock ?_
     refine xs_ret ?_
     exact xs_fin [.bool true] [] (SI.tmp 4 SI.nil) (fun _ h => h.re [] [0, 0, 0, 0, 0]) ⟨rfl, rfl⟩
    ·
     have p23 := of_decide_eq_false c21
     refine k_st ?_
     have hix := tlIx_lt (l := l) (i := i) (by omega)
     refine k_sr ?_
     refine sp lv ?_
     refine sp (.int .i64 (i : Int)) ?_
     refine s_lt (t_mul (i : Int) 7 (by (try simp only [lnm]); omega)) ?_
     refine s_lt (t_add ((i : Int) * 7) 3 (by (try simp only [lnm]); omega)) ?_
     refine sp lv ?_
     refine s_lt (t_len VlT_ok Try.underlying22 (.zn hL)) ?_
     refine s_lt (Lt.to (v' := .int .i64 (tlIx l i : Int)) (t_rem (((i : Int) * 7) + 3) (l.length : Int) (by omega)) (congrArg (Value.int .i64) (tl_mod l i))) ?_
     refine s_lt (t_index VlT_ok Try.underlying22 (.zn hL) (tlIx l i : Int) (tlIx l i) (by omega) (by (try simp only [lnm]); omega) (by omega)) ?_
     obtain ⟨y24, hy25⟩ : ∃ y, l[tlIx l i]? = some y := ⟨_, List.getElem?_eq_getElem (by (try simp only [lnm]); omega)⟩
     refine s_lt (t_loadE VlT_ok (.zn hL) hy25) ?_
     refine s_alloc (.agg #[.int .i64 0, .int .i64 0, .int .i64 0, .string ByteArray.empty, .int .i64 0]) #[.int .i64 0, .int .i64 0, .int .i64 0, .string ByteArray.empty, .int .i64 0] (fun g26 => ?_)
     refine s_store 0 #[.int .i64 y24.kind, .int .i64 y24.p, .int .i64 y24.q, .string y24.str, .int .i64 y24.ref] ?_
     refine s_nt ?_
     refine k_seq ?_
     refine k_held [blkA g26 #[.int .i64 y24.kind, .int .i64 y24.p, .int .i64 y24.q, .string y24.str, .int .i64 y24.ref] 26, blkA g15 #[.int .i64 ((hmakeV hp0 4).kind), .int .i64 ((hmakeV hp0 4).p), .int .i64 ((hmakeV hp0 4).q), .string ((hmakeV hp0 4).str), .int .i64 ((hmakeV hp0 4).ref)] 26, blkA g5 #[.int .i64 0, .int .i64 k.kind, .int .i64 k.p, .int .i64 k.q, .string k.str, .int .i64 k.ref, .int .i64 0, .int .i64 0, .int .i64 0, .string ByteArray.empty, .int .i64 0, .int .i64 0, .int .i64 0, .int .i64 0, .string ByteArray.empty, .int .i64 0, .int .i64 0, .string ByteArray.empty, (.slice none 0 0)] 29, blkA g1 #[.int .i64 k.kind, .int .i64 k.p, .int .i64 k.q, .string k.str, .int .i64 k.ref] 26] ?_
     refine hp_ 0 [0, 0, 2, 2] (pB hb10 0) ?_
     refine h_l 1 rfl [0, 0, 2, 2] (fun _ => (t_loadA 1 #[.int .i64 ((hmakeV hp0 4).kind), .int .i64 ((hmakeV hp0 4).p), .int .i64 ((hmakeV hp0 4).q), .string ((hmakeV hp0 4).str), .int .i64 ((hmakeV hp0 4).ref)])) ?_
     refine h_l 2 rfl [0, 0, 2, 2] (fun _ => (t_loadA 0 #[.int .i64 y24.kind, .int .i64 y24.p, .int .i64 y24.q, .string y24.str, .int .i64 y24.ref])) ?_
     refine hp_ 3 [0, 0, 2, 2] lv ?_
     refine hp_ 4 [0, 0, 2, 2] (.int .i64 (i : Int)) ?_
     refine h_l 5 rfl [0, 0, 2, 2] (fun _ => (t_index VlT_ok Try.underlying22 (.zn hL) (i : Int) i (by omega) (by (try simp only [lnm]); omega) (by omega))) ?_
     refine h_l 6 rfl [0, 0, 2, 2] (fun _ => (t_loadE VlT_ok (.zn hL) hy20)) ?_
     refine hp_ 8 [0, 0, 2, 2] (pB tg11 0) ?_
     refine h_l 9 rfl [0, 0, 2, 2] (fun _ => (t_loadA 0 #[.int .i64 y24.kind, .int .i64 y24.p, .int .i64 y24.q, .string y24.str, .int .i64 y24.ref])) ?_
     refine hp_ 10 [0, 0, 2, 2] lv ?_
     refine hp_ 11 [0, 0, 2, 2] (.int .i64 (i : Int)) ?_
     refine h_l 12 rfl [0, 0, 2, 2] (fun _ => (t_index VlT_ok Try.underlying22 (.zn hL) (i : Int) i (by omega) (by (try simp only [lnm]); omega) (by omega))) ?_
     refine h_l 13 rfl [0, 0, 2, 2] (fun _ => (t_loadE VlT_ok (.zn hL) hy20)) ?_
     refine h_stepS 7 ?_
     refine s_call [2] (hset_s (st := (tlH l i)) hsm (by omega) (hmakeV hp0 4) y24 y19) ?_
     rintro _ _ ⟨rfl, rfl⟩
     refine s_nil (xs_held [1, 1, 2, 2] ?_)
     refine h_stepS 14 ?_
     refine s_call [3] (tbset_s (L := (tlT l i).list) (S := (tlT l i).rest) kt.inv (by (try simp only [lnm]); omega) (by (try simp only [lnm]); omega) y24 y19) ?_
     rintro _ _ ⟨rfl, rfl⟩
     refine s_nil (xs_held [2, 2, 2, 2] ?_)
     refine hp_ 15 [2, 2, 2, 2] (.int .i64 (hsetE (tlH l i) (hmakeV hp0 4) y24 y19)) ?_
     refine hp_ 16 [2, 2, 2, 2] (.int .i64 (tsetE y24 y19)) ?_
     refine h_doneS ?_
     refine xs_then ?_
     obtain ⟨htT, htH⟩ := tl_succ hy25 hy20
     have hse := kt.setE_eq (v := y19) (by omega) y24
     refine k_sr ?_
     refine sp (.int .i64 (hsetE (tlH l i) (hmakeV hp0 4) y24 y19)) ?_
     refine sp (.int .i64 (tsetE y24 y19)) ?_
     refine s_lt (Lt.to t_cmp (congrArg Value.bool (decide_eq_false (fun h => h hse) : (decide ((hsetE (tlH l i) (hmakeV hp0 4) y24 y19) ≠ (tsetE y24 y19))) = false))) ?_
     refine s_nt ?_
     refine k_false ?_
     refine k_skip ?_
     refine xs_block ?_
     refine xs_then ?_
     refine k_reg ?_
     refine s_lt (t_add (i : Int) 1 (by (try simp only [lnm]); omega)) ?_
     refine sp (.int .i64 ((i : Int) + 1)) ?_
     refine s_nil ?_
     refine xs_mem (Bs := [tbA tg11 ((tlT l (i + 1)).list) ((tlT l (i + 1)).rest), hpA hb10 (tlH l (i + 1)), blkA g26 #[.int .i64 y24.kind, .int .i64 y24.p, .int .i64 y24.q, .string y24.str, .int .i64 y24.ref] 26, blkA g15 #[.int .i64 ((hmakeV hp0 4).kind), .int .i64 ((hmakeV hp0 4).p), .int .i64 ((hmakeV hp0 4).q), .string ((hmakeV hp0 4).str), .int .i64 ((hmakeV hp0 4).ref)] 26, blkA g5 #[.int .i64 0, .int .i64 k.kind, .int .i64 k.p, .int .i64 k.q, .string k.str, .int .i64 k.ref, .int .i64 0, .int .i64 0, .int .i64 0, .string ByteArray.empty, .int .i64 0, .int .i64 0, .int .i64 0, .int .i64 0, .string ByteArray.empty, .int .i64 0, .int .i64 0, .string ByteArray.empty, (.slice none 0 0)] 29, blkA g1 #[.int .i64 k.kind, .int .i64 k.p, .int .i64 k.q, .string k.str, .int .i64 k.ref] 26]) (fun _ h => by rw [htT, htH]; exact h) ?_
     exact xs_round (i + 1) (by omega) (by omega) (sub_of rfl ⟨⟨rfl, rfl⟩, ⟨⟨rfl, rfl⟩, ⟨⟨rfl, rfl⟩, ⟨⟨rfl, rfl⟩, ⟨⟨rfl, rfl⟩, ⟨⟨rfl, rfl⟩, ⟨⟨rfl, rfl⟩, trivial⟩⟩⟩⟩⟩⟩⟩) (fun _ h => h.re [3, 1, 0, 1, 1] [5])
   ·
    have p27 := of_decide_eq_false c17
    refine k_exit ?_
    refine xs_exit ?_
    refine xs_exit ?_
    refine xs_here ?_
    refine xs_then ?_
    refine k_sr ?_
    refine sp (pB hb10 0) ?_
    refine s_lt (t_loadA 0 #[.int .i64 ((hmakeV hp0 4).kind), .int .i64 ((hmakeV hp0 4).p), .int .i64 ((hmakeV hp0 4).q), .string ((hmakeV hp0 4).str), .int .i64 ((hmakeV hp0 4).ref)]) ?_
    refine s_call [1] (hlen_s (st := (tlH l i)) hsm (by omega) (hmakeV hp0 4)) ?_
    rintro _ _ ⟨rfl, rfl⟩
    refine sp (.tuple #[.int .i64 (hlenV (tlH l i) (hmakeV hp0 4)), .int .i64 (hgetE (tlH l i) (hmakeV hp0 4))]) ?_
    refine sp (.int .i64 (hlenV (tlH l i) (hmakeV hp0 4))) ?_
    refine sp (.int .i64 (hgetE (tlH l i) (hmakeV hp0 4))) ?_
    refine sp (.int .i64 (hlenV (tlH l i) (hmakeV hp0 4))) ?_
    refine sp (.int .i64 (hgetE (tlH l i) (hmakeV hp0 4))) ?_
    refine s_nr ?_
    refine sp (pB hb10 0) ?_
    refine s_lt (t_loadA 1 #[.int .i64 ((hmakeV hp0 4).kind), .int .i64 ((hmakeV hp0 4).p), .int .i64 ((hmakeV hp0 4).q), .string ((hmakeV hp0 4).str), .int .i64 ((hmakeV hp0 4).ref)]) ?_
    refine s_lt (t_loadA 4 #[.int .i64 k.kind, .int .i64 k.p, .int .i64 k.q, .string k.str, .int .i64 k.ref]) ?_
    refine s_call [0] (hnext_s (st := (tlH l i)) hsm (by omega) (hmakeV hp0 4) k) ?_
    rintro _ _ ⟨rfl, rfl⟩
    refine sp (.tuple #[.agg #[.int .i64 (((hnext (tlH l i) (hmakeV hp0 4) k).1).kind), .int .i64 (((hnext (tlH l i) (hmakeV hp0 4) k).1).p), .int .i64 (((hnext (tlH l i) (hmakeV hp0 4) k).1).q), .string (((hnext (tlH l i) (hmakeV hp0 4) k).1).str), .int .i64 (((hnext (tlH l i) (hmakeV hp0 4) k).1).ref)], .agg #[.int .i64 (((hnext (tlH l i) (hmakeV hp0 4) k).2.1).kind), .int .i64 (((hnext (tlH l i) (hmakeV hp0 4) k).2.1).p), .int .i64 (((hnext (tlH l i) (hmakeV hp0 4) k).2.1).q), .string (((hnext (tlH l i) (hmakeV hp0 4) k).2.1).str), .int .i64 (((hnext (tlH l i) (hmakeV hp0 4) k).2.1).ref)], .bool ((hnext (tlH l i) (hmakeV hp0 4) k).2.2.1), .int .i64 ((hnext (tlH l i) (hmakeV hp0 4) k).2.2.2)]) ?_
    refine sp (.agg #[.int .i64 (((hnext (tlH l i) (hmakeV hp0 4) k).1).kind), .int .i64 (((hnext (tlH l i) (hmakeV hp0 4) k).1).p), .int .i64 (((hnext (tlH l i) (hmakeV hp0 4) k).1).q), .string (((hnext (tlH l i) (hmakeV hp0 4) k).1).str), .int .i64 (((hnext (tlH l i) (hmakeV hp0 4) k).1).ref)]) ?_
    refine sp (.agg #[.int .i64 (((hnext (tlH l i) (hmakeV hp0 4) k).2.1).kind), .int .i64 (((hnext (tlH l i) (hmakeV hp0 4) k).2.1).p), .int .i64 (((hnext (tlH l i) (hmakeV hp0 4) k).2.1).q), .string (((hnext (tlH l i) (hmakeV hp0 4) k).2.1).str), .int .i64 (((hnext (tlH l i) (hmakeV hp0 4) k).2.1).ref)]) ?_
    refine sp (.bool ((hnext (tlH l i) (hmakeV hp0 4) k).2.2.1)) ?_
    refine sp (.int .i64 ((hnext (tlH l i) (hmakeV hp0 4) k).2.2.2)) ?_
    refine s_alloc (.agg #[.int .i64 0, .int .i64 0, .int .i64 0, .string ByteArray.empty, .int .i64 0]) #[.int .i64 0, .int .i64 0, .int .i64 0, .string ByteArray.empty, .int .i64 0] (fun g28 => ?_)
    refine s_alloc (.agg #[.int .i64 0, .int .i64 0, .int .i64 0, .string ByteArray.empty, .int .i64 0]) #[.int .i64 0, .int .i64 0, .int .i64 0, .string ByteArray.empty, .int .i64 0] (fun g29 => ?_)
    refine s_store 1 #[.int .i64 (((hnext (tlH l i) (hmakeV hp0 4) k).1).kind), .int .i64 (((hnext (tlH l i) (hmakeV hp0 4) k).1).p), .int .i64 (((hnext (tlH l i) (hmakeV hp0 4) k).1).q), .string (((hnext (tlH l i) (hmakeV hp0 4) k).1).str), .int .i64 (((hnext (tlH l i) (hmakeV hp0 4) k).1).ref)] ?_
    refine s_store 0 #[.int .i64 (((hnext (tlH l i) (hmakeV hp0 4) k).2.1).kind), .int .i64 (((hnext (tlH l i) (hmakeV hp0 4) k).2.1).p), .int .i64 (((hnext (tlH l i) (hmakeV hp0 4) k).2.1).q), .string (((hnext (tlH l i) (hmakeV hp0 4) k).2.1).str), .int .i64 (((hnext (tlH l i) (hmakeV hp0 4) k).2.1).ref)] ?_
    refine sp (.bool ((hnext (tlH l i) (hmakeV hp0 4) k).2.2.1)) ?_
    refine sp (.int .i64 ((hnext (tlH l i) (hmakeV hp0 4) k).2.2.2)) ?_
    refine s_nr ?_
    refine sp (pB tg11 0) ?_
    refine s_lt (t_loadA 6 #[.int .i64 k.kind, .int .i64 k.p, .int .i64 k.q, .string k.str, .int .i64 k.ref]) ?_
    refine s_call [4] (tbnext_s (L := (tlT l i).list) (S := (tlT l i).rest) (by (try simp only [lnm]); omega) (by (try simp only [lnm]); omega) k) ?_
    rintro _ _ ⟨rfl, rfl⟩
    refine sp (.tuple #[.agg #[.int .i64 (((tnext ⟨(tlT l i).list, (tlT l i).rest⟩ k).1).kind), .int .i64 (((tnext ⟨(tlT l i).list, (tlT l i).rest⟩ k).1).p), .int .i64 (((tnext ⟨(tlT l i).list, (tlT l i).rest⟩ k).1).q), .string (((tnext ⟨(tlT l i).list, (tlT l i).rest⟩ k).1).str), .int .i64 (((tnext ⟨(tlT l i).list, (tlT l i).rest⟩ k).1).ref)], .agg #[.int .i64 (((tnext ⟨(tlT l i).list, (tlT l i).rest⟩ k).2.1).kind), .int .i64 (((tnext ⟨(tlT l i).list, (tlT l i).rest⟩ k).2.1).p), .int .i64 (((tnext ⟨(tlT l i).list, (tlT l i).rest⟩ k).2.1).q), .string (((tnext ⟨(tlT l i).list, (tlT l i).rest⟩ k).2.1).str), .int .i64 (((tnext ⟨(tlT l i).list, (tlT l i).rest⟩ k).2.1).ref)], .bool ((tnext ⟨(tlT l i).list, (tlT l i).rest⟩ k).2.2.1), .int .i64 ((tnext ⟨(tlT l i).list, (tlT l i).rest⟩ k).2.2.2)]) ?_
    refine sp (.agg #[.int .i64 (((tnext ⟨(tlT l i).list, (tlT l i).rest⟩ k).1).kind), .int .i64 (((tnext ⟨(tlT l i).list, (tlT l i).rest⟩ k).1).p), .int .i64 (((tnext ⟨(tlT l i).list, (tlT l i).rest⟩ k).1).q), .string (((tnext ⟨(tlT l i).list, (tlT l i).rest⟩ k).1).str), .int .i64 (((tnext ⟨(tlT l i).list, (tlT l i).rest⟩ k).1).ref)]) ?_
    refine sp (.agg #[.int .i64 (((tnext ⟨(tlT l i).list, (tlT l i).rest⟩ k).2.1).kind), .int .i64 (((tnext ⟨(tlT l i).list, (tlT l i).rest⟩ k).2.1).p), .int .i64 (((tnext ⟨(tlT l i).list, (tlT l i).rest⟩ k).2.1).q), .string (((tnext ⟨(tlT l i).list, (tlT l i).rest⟩ k).2.1).str), .int .i64 (((tnext ⟨(tlT l i).list, (tlT l i).rest⟩ k).2.1).ref)]) ?_
    refine sp (.bool ((tnext ⟨(tlT l i).list, (tlT l i).rest⟩ k).2.2.1)) ?_
    refine sp (.int .i64 ((tnext ⟨(tlT l i).list, (tlT l i).rest⟩ k).2.2.2)) ?_
    refine s_alloc (.agg #[.int .i64 0, .int .i64 0, .int .i64 0, .string ByteArray.empty, .int .i64 0]) #[.int .i64 0, .int .i64 0, .int .i64 0, .string ByteArray.empty, .int .i64 0] (fun g30 => ?_)
    refine s_alloc (.agg #[.int .i64 0, .int .i64 0, .int .i64 0, .string ByteArray.empty, .int .i64 0]) #[.int .i64 0, .int .i64 0, .int .i64 0, .string ByteArray.empty, .int .i64 0] (fun g31 => ?_)
    refine s_store 1 #[.int .i64 (((tnext ⟨(tlT l i).list, (tlT l i).rest⟩ k).1).kind), .int .i64 (((tnext ⟨(tlT l i).list, (tlT l i).rest⟩ k).1).p), .int .i64 (((tnext ⟨(tlT l i).list, (tlT l i).rest⟩ k).1).q), .string (((tnext ⟨(tlT l i).list, (tlT l i).rest⟩ k).1).str), .int .i64 (((tnext ⟨(tlT l i).list, (tlT l i).rest⟩ k).1).ref)] ?_
    refine s_store 0 #[.int .i64 (((tnext ⟨(tlT l i).list, (tlT l i).rest⟩ k).2.1).kind), .int .i64 (((tnext ⟨(tlT l i).list, (tlT l i).rest⟩ k).2.1).p), .int .i64 (((tnext ⟨(tlT l i).list, (tlT l i).rest⟩ k).2.1).q), .string (((tnext ⟨(tlT l i).list, (tlT l i).rest⟩ k).2.1).str), .int .i64 (((tnext ⟨(tlT l i).list, (tlT l i).rest⟩ k).2.1).ref)] ?_
    refine sp (.bool ((tnext ⟨(tlT l i).list, (tlT l i).rest⟩ k).2.2.1)) ?_
    refine sp (.int .i64 ((tnext ⟨(tlT l i).list, (tlT l i).rest⟩ k).2.2.2)) ?_
    refine s_nr ?_
    refine sp (pB hb10 0) ?_
    refine s_lt (t_loadA 6 #[.int .i64 ((hmakeV hp0 4).kind), .int .i64 ((hmakeV hp0 4).p), .int .i64 ((hmakeV hp0 4).q), .string ((hmakeV hp0 4).str), .int .i64 ((hmakeV hp0 4).ref)]) ?_
    refine s_lt (t_loadA 8 #[.int .i64 k.kind, .int .i64 k.p, .int .i64 k.q, .string k.str, .int .i64 k.ref]) ?_
    refine s_call [5] (hget_s (st := (tlH l i)) hsm (by omega) (hmakeV hp0 4) k) ?_
    rintro _ _ ⟨rfl, rfl⟩
    refine sp (.tuple #[.agg #[.int .i64 ((hgetV (tlH l i) (hmakeV hp0 4) k).kind), .int .i64 ((hgetV (tlH l i) (hmakeV hp0 4) k).p), .int .i64 ((hgetV (tlH l i) (hmakeV hp0 4) k).q), .string ((hgetV (tlH l i) (hmakeV hp0 4) k).str), .int .i64 ((hgetV (tlH l i) (hmakeV hp0 4) k).ref)], .int .i64 (hgetE (tlH l i) (hmakeV hp0 4))]) ?_
    refine sp (.agg #[.int .i64 ((hgetV (tlH l i) (hmakeV hp0 4) k).kind), .int .i64 ((hgetV (tlH l i) (hmakeV hp0 4) k).p), .int .i64 ((hgetV (tlH l i) (hmakeV hp0 4) k).q), .string ((hgetV (tlH l i) (hmakeV hp0 4) k).str), .int .i64 ((hgetV (tlH l i) (hmakeV hp0 4) k).ref)]) ?_
    refine sp (.int .i64 (hgetE (tlH l i) (hmakeV hp0 4))) ?_
    refine s_alloc (.agg #[.int .i64 0, .int .i64 0, .int .i64 0, .string ByteArray.empty, .int .i64 0]) #[.int .i64 0, .int .i64 0, .int .i64 0, .string ByteArray.empty, .int .i64 0] (fun g32 => ?_)
    refine s_store 0 #[.int .i64 ((hgetV (tlH l i) (hmakeV hp0 4) k).kind), .int .i64 ((hgetV (tlH l i) (hmakeV hp0 4) k).p), .int .i64 ((hgetV (tlH l i) (hmakeV hp0 4) k).q), .string ((hgetV (tlH l i) (hmakeV hp0 4) k).str), .int .i64 ((hgetV (tlH l i) (hmakeV hp0 4) k).ref)] ?_
    refine sp (.int .i64 (hgetE (tlH l i) (hmakeV hp0 4))) ?_
    refine s_nt ?_
    have hts : tabSize ⟨(tlT l i).list, (tlT l i).rest⟩ = 4 + 2 * (((tlT l i).list).length : Int) + 4 * (((tlT l i).rest).length : Int) := rfl
    have hnx : (hnext (tlH l i) (hmakeV hp0 4) k) = (tnext ⟨(tlT l i).list, (tlT l i).rest⟩ k) := kt.next k
    refine k_seq ?_
    refine k_held [blkA g32 #[.int .i64 ((hgetV (tlH l i) (hmakeV hp0 4) k).kind), .int .i64 ((hgetV (tlH l i) (hmakeV hp0 4) k).p), .int .i64 ((hgetV (tlH l i) (hmakeV hp0 4) k).q), .string ((hgetV (tlH l i) (hmakeV hp0 4) k).str), .int .i64 ((hgetV (tlH l i) (hmakeV hp0 4) k).ref)] 26, blkA g31 #[.int .i64 (((tnext ⟨(tlT l i).list, (tlT l i).rest⟩ k).2.1).kind), .int .i64 (((tnext ⟨(tlT l i).list, (tlT l i).rest⟩ k).2.1).p), .int .i64 (((tnext ⟨(tlT l i).list, (tlT l i).rest⟩ k).2.1).q), .string (((tnext ⟨(tlT l i).list, (tlT l i).rest⟩ k).2.1).str), .int .i64 (((tnext ⟨(tlT l i).list, (tlT l i).rest⟩ k).2.1).ref)] 26, blkA g30 #[.int .i64 (((tnext ⟨(tlT l i).list, (tlT l i).rest⟩ k).1).kind), .int .i64 (((tnext ⟨(tlT l i).list, (tlT l i).rest⟩ k).1).p), .int .i64 (((tnext ⟨(tlT l i).list, (tlT l i).rest⟩ k).1).q), .string (((tnext ⟨(tlT l i).list, (tlT l i).rest⟩ k).1).str), .int .i64 (((tnext ⟨(tlT l i).list, (tlT l i).rest⟩ k).1).ref)] 26, blkA g29 #[.int .i64 (((hnext (tlH l i) (hmakeV hp0 4) k).2.1).kind), .int .i64 (((hnext (tlH l i) (hmakeV hp0 4) k).2.1).p), .int .i64 (((hnext (tlH l i) (hmakeV hp0 4) k).2.1).q), .string (((hnext (tlH l i) (hmakeV hp0 4) k).2.1).str), .int .i64 (((hnext (tlH l i) (hmakeV hp0 4) k).2.1).ref)] 26, blkA g28 #[.int .i64 (((hnext (tlH l i) (hmakeV hp0 4) k).1).kind), .int .i64 (((hnext (tlH l i) (hmakeV hp0 4) k).1).p), .int .i64 (((hnext (tlH l i) (hmakeV hp0 4) k).1).q), .string (((hnext (tlH l i) (hmakeV hp0 4) k).1).str), .int .i64 (((hnext (tlH l i) (hmakeV hp0 4) k).1).ref)] 26, blkA g15 #[.int .i64 ((hmakeV hp0 4).kind), .int .i64 ((hmakeV hp0 4).p), .int .i64 ((hmakeV hp0 4).q), .string ((hmakeV hp0 4).str), .int .i64 ((hmakeV hp0 4).ref)] 26, blkA g5 #[.int .i64 0, .int .i64 k.kind, .int .i64 k.p, .int .i64 k.q, .string k.str, .int .i64 k.ref, .int .i64 0, .int .i64 0, .int .i64 0, .string ByteArray.empty, .int .i64 0, .int .i64 0, .int .i64 0, .int .i64 0, .string ByteArray.empty, .int .i64 0, .int .i64 0, .string ByteArray.empty, (.slice none 0 0)] 29, blkA g1 #[.int .i64 k.kind, .int .i64 k.p, .int .i64 k.q, .string k.str, .int .i64 k.ref] 26] ?_
    refine hp_ 0 [0, 1, 1, 2, 2, 2, 2, 2] (.int .i64 (hgetE (tlH l i) (hmakeV hp0 4))) ?_
    refine h_l 1 rfl [0, 1, 1, 2, 2, 2, 2, 2] (fun _ => (Lt.to t_cmp (congrArg Value.bool (decide_eq_true kt.getE : (decide ((hgetE (tlH l i) (hmakeV hp0 4)) = 0)) = true)))) ?_
    refine hp_ 2 [0, 1, 1, 2, 2, 2, 2, 2] (.bool true) ?_
    refine hp_ 3 [0, 1, 1, 2, 2, 2, 2, 2] (.int .i64 (hlenV (tlH l i) (hmakeV hp0 4))) ?_
    refine hp_ 4 [0, 1, 1, 2, 2, 2, 2, 2] (pB tg11 0) ?_
    refine h_stepS 5 ?_
    refine s_call [4] (tblen_s (L := (tlT l i).list) (S := (tlT l i).rest)) ?_
    rintro _ _ ⟨rfl, rfl⟩
    refine s_nil (xs_held [1, 2, 2, 2, 2, 2, 2, 2] ?_)
    refine h_l 6 rfl [1, 2, 2, 2, 2, 2, 2, 2] (fun _ => (Lt.to t_cmp (congrArg Value.bool (decide_eq_true kt.len : (decide ((hlenV (tlH l i) (hmakeV hp0 4)) = (((tlT l i).list).length : Int))) = true)))) ?_
    refine hp_ 7 [1, 2, 2, 2, 2, 2, 2, 2] (.bool true) ?_
    refine hp_ 8 [1, 2, 2, 2, 2, 2, 2, 2] (.bool true) ?_
    refine h_l 9 rfl [1, 2, 2, 2, 2, 2, 2, 2] (fun _ => (t_loadA 4 #[.int .i64 (((hnext (tlH l i) (hmakeV hp0 4) k).1).kind), .int .i64 (((hnext (tlH l i) (hmakeV hp0 4) k).1).p), .int .i64 (((hnext (tlH l i) (hmakeV hp0 4) k).1).q), .string (((hnext (tlH l i) (hmakeV hp0 4) k).1).str), .int .i64 (((hnext (tlH l i) (hmakeV hp0 4) k).1).ref)])) ?_
    refine h_l 10 rfl [1, 2, 2, 2, 2, 2, 2, 2] (fun _ => (t_loadA 2 #[.int .i64 (((tnext ⟨(tlT l i).list, (tlT l i).rest⟩ k).1).kind), .int .i64 (((tnext ⟨(tlT l i).list, (tlT l i).rest⟩ k).1).p), .int .i64 (((tnext ⟨(tlT l i).list, (tlT l i).rest⟩ k).1).q), .string (((tnext ⟨(tlT l i).list, (tlT l i).rest⟩ k).1).str), .int .i64 (((tnext ⟨(tlT l i).list, (tlT l i).rest⟩ k).1).ref)])) ?_
    refine h_l 11 rfl [1, 2, 2, 2, 2, 2, 2, 2] (fun _ => (Lt.to (t_eqS (fun w => (eqVlT ((hnext (tlH l i) (hmakeV hp0 4) k).1) ((tnext ⟨(tlT l i).list, (tlT l i).rest⟩ k).1) w).1)) (congrArg Value.bool (decide_eq_true (by rw [hnx]) : (decide ((hnext (tlH l i) (hmakeV hp0 4) k).1 = (tnext ⟨(tlT l i).list, (tlT l i).rest⟩ k).1)) = true)))) ?_
    refine hp_ 12 [1, 2, 2, 2, 2, 2, 2, 2] (.bool true) ?_
    refine hp_ 13 [1, 2, 2, 2, 2, 2, 2, 2] (.bool true) ?_
    refine h_l 14 rfl [1, 2, 2, 2, 2, 2, 2, 2] (fun _ => (t_loadA 3 #[.int .i64 (((hnext (tlH l i) (hmakeV hp0 4) k).2.1).kind), .int .i64 (((hnext (tlH l i) (hmakeV hp0 4) k).2.1).p), .int .i64 (((hnext (tlH l i) (hmakeV hp0 4) k).2.1).q), .string (((hnext (tlH l i) (hmakeV hp0 4) k).2.1).str), .int .i64 (((hnext (tlH l i) (hmakeV hp0 4) k).2.1).ref)])) ?_
    refine h_l 15 rfl [1, 2, 2, 2, 2, 2, 2, 2] (fun _ => (t_loadA 1 #[.int .i64 (((tnext ⟨(tlT l i).list, (tlT l i).rest⟩ k).2.1).kind), .int .i64 (((tnext ⟨(tlT l i).list, (tlT l i).rest⟩ k).2.1).p), .int .i64 (((tnext ⟨(tlT l i).list, (tlT l i).rest⟩ k).2.1).q), .string (((tnext ⟨(tlT l i).list, (tlT l i).rest⟩ k).2.1).str), .int .i64 (((tnext ⟨(tlT l i).list, (tlT l i).rest⟩ k).2.1).ref)])) ?_
    refine h_l 16 rfl [1, 2, 2, 2, 2, 2, 2, 2] (fun _ => (Lt.to (t_eqS (fun w => (eqVlT ((hnext (tlH l i) (hmakeV hp0 4) k).2.1) ((tnext ⟨(tlT l i).list, (tlT l i).rest⟩ k).2.1) w).1)) (congrArg Value.bool (decide_eq_true (by rw [hnx]) : (decide ((hnext (tlH l i) (hmakeV hp0 4) k).2.1 = (tnext ⟨(tlT l i).list, (tlT l i).rest⟩ k).2.1)) = true)))) ?_
    refine hp_ 17 [1, 2, 2, 2, 2, 2, 2, 2] (.bool true) ?_
    refine hp_ 18 [1, 2, 2, 2, 2, 2, 2, 2] (.bool true) ?_
    refine hp_ 19 [1, 2, 2, 2, 2, 2, 2, 2] (.bool ((hnext (tlH l i) (hmakeV hp0 4) k).2.2.1)) ?_
    refine hp_ 20 [1, 2, 2, 2, 2, 2, 2, 2] (.bool ((tnext ⟨(tlT l i).list, (tlT l i).rest⟩ k).2.2.1)) ?_
    refine h_l 21 rfl [1, 2, 2, 2, 2, 2, 2, 2] (fun _ => (Lt.to (t_pure (.bool (((hnext (tlH l i) (hmakeV hp0 4) k).2.2.1) == ((tnext ⟨(tlT l i).list, (tlT l i).rest⟩ k).2.2.1)))) (congrArg Value.bool ((by rw [hnx]; exact beq_self_eq_true _) : (((hnext (tlH l i) (hmakeV hp0 4) k).2.2.1) == ((tnext ⟨(tlT l i).list, (tlT l i).rest⟩ k).2.2.1)) = true)))) ?_
    refine hp_ 22 [1, 2, 2, 2, 2, 2, 2, 2] (.bool true) ?_
    refine hp_ 23 [1, 2, 2, 2, 2, 2, 2, 2] (.bool true) ?_
    refine hp_ 24 [1, 2, 2, 2, 2, 2, 2, 2] (.int .i64 ((hnext (tlH l i) (hmakeV hp0 4) k).2.2.2)) ?_
    refine hp_ 25 [1, 2, 2, 2, 2, 2, 2, 2] (.int .i64 ((tnext ⟨(tlT l i).list, (tlT l i).rest⟩ k).2.2.2)) ?_
    refine h_l 26 rfl [1, 2, 2, 2, 2, 2, 2, 2] (fun _ => (Lt.to t_cmp (congrArg Value.bool (decide_eq_true (by rw [hnx]) : (decide ((hnext (tlH l i) (hmakeV hp0 4) k).2.2.2 = (tnext ⟨(tlT l i).list, (tlT l i).rest⟩ k).2.2.2)) = true)))) ?_
    refine hp_ 27 [1, 2, 2, 2, 2, 2, 2, 2] (.bool true) ?_
    refine hp_ 28 [1, 2, 2, 2, 2, 2, 2, 2] (.bool true) ?_
    refine hp_ 29 [1, 2, 2, 2, 2, 2, 2, 2] (.int .i64 (hgetE (tlH l i) (hmakeV hp0 4))) ?_
    refine h_l 30 rfl [1, 2, 2, 2, 2, 2, 2, 2] (fun _ => (Lt.to t_cmp (congrArg Value.bool (decide_eq_true kt.getE : (decide ((hgetE (tlH l i) (hmakeV hp0 4)) = 0)) = true)))) ?_
    refine hp_ 31 [1, 2, 2, 2, 2, 2, 2, 2] (.bool true) ?_
    refine hp_ 32 [1, 2, 2, 2, 2, 2, 2, 2] (.bool true) ?_
    refine h_l 33 rfl [1, 2, 2, 2, 2, 2, 2, 2] (fun _ => (t_loadA 0 #[.int .i64 ((hgetV (tlH l i) (hmakeV hp0 4) k).kind), .int .i64 ((hgetV (tlH l i) (hmakeV hp0 4) k).p), .int .i64 ((hgetV (tlH l i) (hmakeV hp0 4) k).q), .string ((hgetV (tlH l i) (hmakeV hp0 4) k).str), .int .i64 ((hgetV (tlH l i) (hmakeV hp0 4) k).ref)])) ?_
    refine hp_ 34 [1, 2, 2, 2, 2, 2, 2, 2] (pB tg11 0) ?_
    refine h_l 35 rfl [1, 2, 2, 2, 2, 2, 2, 2] (fun _ => (t_loadA 7 #[.int .i64 k.kind, .int .i64 k.p, .int .i64 k.q, .string k.str, .int .i64 k.ref])) ?_
    refine h_stepS 36 ?_
    refine s_call [0] (tbget_s (L := (tlT l i).list) (S := (tlT l i).rest) (by (try simp only [lnm]); omega) k) ?_
    rintro _ _ ⟨rfl, rfl⟩
    refine s_nil (xs_held [1, 2, 2, 2, 2, 2, 2, 2] ?_)
    refine h_l 37 rfl [1, 2, 2, 2, 2, 2, 2, 2] (fun _ => (Lt.to (t_eqS (fun w => (eqVlT (hgetV (tlH l i) (hmakeV hp0 4) k) (tget ⟨(tlT l i).list, (tlT l i).rest⟩ k) w).1)) (congrArg Value.bool (decide_eq_true (kt.get k) : (decide ((hgetV (tlH l i) (hmakeV hp0 4) k) = (tget ⟨(tlT l i).list, (tlT l i).rest⟩ k))) = true)))) ?_
    refine hp_ 38 [1, 2, 2, 2, 2, 2, 2, 2] (.bool true) ?_
    refine hp_ 39 [1, 2, 2, 2, 2, 2, 2, 2] (.bool true) ?_
    refine hp_ 40 [1, 2, 2, 2, 2, 2, 2, 2] (pB hb10 0) ?_
    refine hp_ 42 [1, 2, 2, 2, 2, 2, 2, 2] (pB tg11 0) ?_
    refine h_stepS 41 ?_
    refine s_call [2] (hsize_s (st := (tlH l i)) hsm (by omega)) ?_
    rintro _ _ ⟨rfl, rfl⟩
    refine s_nil (xs_held [2, 2, 2, 2, 2, 2, 2, 2] ?_)
    refine h_stepS 43 ?_
    refine s_call [1] (tbsize_s (L := (tlT l i).list) (S := (tlT l i).rest) (by (try simp only [lnm]); omega) (by (try simp only [lnm]); omega)) ?_
    rintro _ _ ⟨rfl, rfl⟩
    refine s_nil (xs_held [2, 2, 2, 2, 2, 2, 2, 2] ?_)
    refine h_l 44 rfl [2, 2, 2, 2, 2, 2, 2, 2] (fun _ => (t_add 8 (tabSize ⟨(tlT l i).list, (tlT l i).rest⟩) (by (try simp only [lnm]); omega))) ?_
    refine h_l 45 rfl [2, 2, 2, 2, 2, 2, 2, 2] (fun _ => (Lt.to t_cmp (congrArg Value.bool (decide_eq_true (kt.size hn1) : (decide ((hsize (tlH l i)) = (8 + (tabSize ⟨(tlT l i).list, (tlT l i).rest⟩)))) = true)))) ?_
    refine hp_ 46 [2, 2, 2, 2, 2, 2, 2, 2] (.bool true) ?_
    refine hp_ 47 [2, 2, 2, 2, 2, 2, 2, 2] (.bool true) ?_
    refine h_stepS 48 ?_
    refine s_vcall (fun _ h => awake_s) ?_
    rintro _ rfl
    refine s_nil (xs_held [2, 2, 2, 2, 2, 2, 2, 2] ?_)
    refine hp_ 49 [2, 2, 2, 2, 2, 2, 2, 2] (.bool true) ?_
    refine hp_ 50 [2, 2, 2, 2, 2, 2, 2, 2] (.bool true) ?_
    refine h_doneS ?_
    refine xs_then ?_
    refine k_ret ?_
    exact xs_fin [.bool true] [] (SI.tmp 4 SI.nil) (fun _ h => h.re [] [0, 0, 0, 0, 0, 0, 0, 0, 0, 0]) ⟨rfl, rfl⟩
end Go.Proofs.Ytmilekfknhglkaa
