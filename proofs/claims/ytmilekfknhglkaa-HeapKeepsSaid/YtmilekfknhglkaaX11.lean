/-
  Layer 14: HeapKeeps. Each law says its conditions.
-/
import Derived.Test.YtmilekfknhglkaaG5
set_option linter.unusedSimpArgs false
set_option linter.unusedVariables false
set_option maxRecDepth 100000
set_option maxHeartbeats 2000000
namespace Go.Proofs.Ytmilekfknhglkaa
open Go.Hp Go.J Go.S
open Go.Mem (Ty KTy blk elemAt pre suf blk_pre blk_suf aget aset strK aggDesc)
open Go.Mem (adel apos aget_aset aget_adel)
theorem KnL.lit {Z : Zone} {As : List Asr} {H : Heap} {v : Value} {x : Cl} (a : Acc Z As ClT v [x]) (h : Holds Z As H) (hx : KnC (zoneOf H) x) : KnL (zoneOf H) v [x] := ⟨a.kn h, fun y hy => by rw [List.mem_singleton.1 hy]; exact hx⟩
theorem KnC.nil {H : Heap} {k : Int} {a b c : Vl} {n : Int} {s : ByteArray} : KnC (zoneOf H) ⟨k, a, b, c, n, s, ⟨none, 0, 0⟩, []⟩ := .of (Sl.nil _ _)
theorem keeps_w {Z : Zone} {lv : Value} {l : List Cl} (hL : KnL Z lv l) (k v other : Vl) : SF Try.prog 6 #[lv, k.v, v.v, other.v] Z [] fun r Bs => r = .bool true ∧ Bs = [] := by
 refine sf_enter Try.func6 143 [(0, lv), (1, .agg #[.int .i64 k.kind, .int .i64 k.p, .int .i64 k.q, .string k.str, .int .i64 k.ref]), (2, .agg #[.int .i64 v.kind, .int .i64 v.p, .int .i64 v.q, .string v.str, .int .i64 v.ref]), (3, .agg #[.int .i64 other.kind, .int .i64 other.p, .int .i64 other.q, .string other.str, .int .i64 other.ref])] (fun w0 => ?_)
 refine k_sr ?_
 refine s_box #[.int .i64 k.kind, .int .i64 k.p, .int .i64 k.q, .string k.str, .int .i64 k.ref] (fun g1 => ?_)
 refine s_box #[.int .i64 v.kind, .int .i64 v.p, .int .i64 v.q, .string v.str, .int .i64 v.ref] (fun g2 => ?_)
 refine s_box #[.int .i64 other.kind, .int .i64 other.p, .int .i64 other.q, .string other.str, .int .i64 other.ref] (fun g3 => ?_)
 refine sp (.bool false) ?_
 refine s_nt ?_
 refine k_seq ?_
 refine k_sr ?_
 refine sp lv ?_
 refine s_pcall (fun _ h => long_s (KnL.up hL h)) ?_
 rintro _ _ ⟨lg4, rfl, hlg5, rfl⟩
 refine sp (.bool lg4) ?_
 refine s_fork 24 lg4 (fun c6 => ?_) (fun c6 => ?_)
 ·
  refine s_skip ?_
  refine s_skip ?_
  refine s_skip ?_
  refine s_skip ?_
  refine s_skip ?_
  refine s_skip ?_
  refine sp (.bool true) ?_
  refine s_nt ?_
  refine k_true ?_
  refine k_sr ?_
  refine s_vcall (fun _ h => awake_s) ?_
  rintro _ rfl
  refine sp (.bool true) ?_
  refine s_nt ?_
  refine k_ret ?_
  refine xs_ret ?_
  exact xs_fin [.bool true] [] (SI.tmp 8 SI.nil) (fun _ h => h.re [] [0, 0, 0]) ⟨rfl, rfl⟩
 ·
  refine s_lt (t_loadA 2 #[.int .i64 k.kind, .int .i64 k.p, .int .i64 k.q, .string k.str, .int .i64 k.ref]) ?_
  refine s_lt (t_loadA 1 #[.int .i64 v.kind, .int .i64 v.p, .int .i64 v.q, .string v.str, .int .i64 v.ref]) ?_
  refine s_lt (t_loadA 0 #[.int .i64 other.kind, .int .i64 other.p, .int .i64 other.q, .string other.str, .int .i64 other.ref]) ?_
  refine s_lt (t_kern (.agg #[.int .i64 0, .int .i64 k.kind, .int .i64 k.p, .int .i64 k.q, .string k.str, .int .i64 k.ref, .int .i64 v.kind, .int .i64 v.p, .int .i64 v.q, .string v.str, .int .i64 v.ref, .int .i64 other.kind, .int .i64 other.p, .int .i64 other.q, .string other.str, .int .i64 other.ref, .int .i64 0, .string ByteArray.empty, (.slice none 0 0)])) ?_
  refine s_buildSlice (e := 29) [(0, .agg #[.int .i64 0, .int .i64 k.kind, .int .i64 k.p, .int .i64 k.q, .string k.str, .int .i64 k.ref, .int .i64 v.kind, .int .i64 v.p, .int .i64 v.q, .string v.str, .int .i64 v.ref, .int .i64 other.kind, .int .i64 other.p, .int .i64 other.q, .string other.str, .int .i64 other.ref, .int .i64 0, .string ByteArray.empty, (.slice none 0 0)])] #[.int .i64 0, .int .i64 k.kind, .int .i64 k.p, .int .i64 k.q, .string k.str, .int .i64 k.ref, .int .i64 v.kind, .int .i64 v.p, .int .i64 v.q, .string v.str, .int .i64 v.ref, .int .i64 other.kind, .int .i64 other.p, .int .i64 other.q, .string other.str, .int .i64 other.ref, .int .i64 0, .string ByteArray.empty, (.slice none 0 0)] (fun g7 => ?_) (hb := by kernel_rfl)
  refine s_pcall (fun _ h => long_s (KnL.lit (Acc.lit 0 ClT_ok [(⟨0, k, v, other, 0, ByteArray.empty, ⟨none, 0, 0⟩, []⟩ : Cl)]) h KnC.nil)) ?_
  rintro _ _ ⟨lg10, rfl, _, rfl⟩
  refine sp (.bool lg10) ?_
  refine s_nt ?_
  refine k_cond lg10 (fun c11 => ?_) (fun c11 => ?_)
  ·
   refine k_sr ?_
   refine s_vcall (fun _ h => awake_s) ?_
   rintro _ rfl
   refine sp (.bool true) ?_
   refine s_nt ?_
   refine k_ret ?_
   refine xs_ret ?_
   exact xs_fin [.bool true] [] (SI.tmp 8 SI.nil) (fun _ h => h.re [] [0, 0, 0, 0]) ⟨rfl, rfl⟩
  ·
   refine k_st ?_
   refine k_sr ?_
   refine s_pcall (fun _ h => hnew_s) ?_
   rintro _ _ ⟨hb12, rfl, rfl⟩
   refine sp (pB hb12 0) ?_
   refine s_nt ?_
   refine k_seq ?_
   refine k_sr ?_
   refine sp lv ?_
   refine s_lt (t_len ClT_ok Try.underlying30 (.zn hL.obs)) ?_
   refine sp (.int .i64 0) ?_
   refine s_nt ?_
   refine k_block ?_
   have hsh := hlg5 c6
   have hgood := hrun_good (l := l) (fun x hx => (hsh.2 x hx).2.2.2.2)
   refine k_mem (Bs := [hpA hb12 (hrun l 0), blkA g7 #[.int .i64 0, .int .i64 k.kind, .int .i64 k.p, .int .i64 k.q, .string k.str, .int .i64 k.ref, .int .i64 v.kind, .int .i64 v.p, .int .i64 v.q, .string v.str, .int .i64 v.ref, .int .i64 other.kind, .int .i64 other.p, .int .i64 other.q, .string other.str, .int .i64 other.ref, .int .i64 0, .string ByteArray.empty, (.slice none 0 0)] 29, blkA g3 #[.int .i64 other.kind, .int .i64 other.p, .int .i64 other.q, .string other.str, .int .i64 other.ref] 26, blkA g2 #[.int .i64 v.kind, .int .i64 v.p, .int .i64 v.q, .string v.str, .int .i64 v.ref] 26, blkA g1 #[.int .i64 k.kind, .int .i64 k.p, .int .i64 k.q, .string k.str, .int .i64 k.ref] 26]) (fun _ h => h) ?_
   refine k_loop (ι := Nat) (fun i => i ≤ l.length) (fun i => [(0, lv), (5, pB g1 0), (6, pB g2 0), (7, pB g3 0), (9, pB hb12 0), (35, .int .i64 (l.length : Int)), (36, .int .i64 (i : Int))]) (fun i => [hpA hb12 (hrun l i), blkA g7 #[.int .i64 0, .int .i64 k.kind, .int .i64 k.p, .int .i64 k.q, .string k.str, .int .i64 k.ref, .int .i64 v.kind, .int .i64 v.p, .int .i64 v.q, .string v.str, .int .i64 v.ref, .int .i64 other.kind, .int .i64 other.p, .int .i64 other.q, .string other.str, .int .i64 other.ref, .int .i64 0, .string ByteArray.empty, (.slice none 0 0)] 29, blkA g3 #[.int .i64 other.kind, .int .i64 other.p, .int .i64 other.q, .string other.str, .int .i64 other.ref] 26, blkA g2 #[.int .i64 v.kind, .int .i64 v.p, .int .i64 v.q, .string v.str, .int .i64 v.ref] 26, blkA g1 #[.int .i64 k.kind, .int .i64 k.p, .int .i64 k.q, .string k.str, .int .i64 k.ref] 26]) (fun i => l.length - i) 0 (Nat.zero_le _) (sub_of rfl ⟨⟨rfl, rfl⟩, ⟨⟨rfl, rfl⟩, ⟨⟨rfl, rfl⟩, ⟨⟨rfl, rfl⟩, ⟨⟨rfl, rfl⟩, ⟨⟨rfl, rfl⟩, ⟨⟨rfl, rfl⟩, trivial⟩⟩⟩⟩⟩⟩⟩) (fun _ h => h.re [0, 0, 0, 0, 0] []) ?_
   rintro i hi13
   show SK _ _ _ _ _ [(0, lv), (5, .pointer (some ⟨g1, 0, none⟩)), (6, .pointer (some ⟨g2, 0, none⟩)), (7, .pointer (some ⟨g3, 0, none⟩)), (9, .pointer (some ⟨hb12, 0, none⟩)), (35, .int .i64 (l.length : Int)), (36, .int .i64 (i : Int))] _ [hpA hb12 (hrun l i), blkA g7 #[.int .i64 0, .int .i64 k.kind, .int .i64 k.p, .int .i64 k.q, .string k.str, .int .i64 k.ref, .int .i64 v.kind, .int .i64 v.p, .int .i64 v.q, .string v.str, .int .i64 v.ref, .int .i64 other.kind, .int .i64 other.p, .int .i64 other.q, .string other.str, .int .i64 other.ref, .int .i64 0, .string ByteArray.empty, (.slice none 0 0)] 29, blkA g3 #[.int .i64 other.kind, .int .i64 other.p, .int .i64 other.q, .string other.str, .int .i64 other.ref] 26, blkA g2 #[.int .i64 v.kind, .int .i64 v.p, .int .i64 v.q, .string v.str, .int .i64 v.ref] 26, blkA g1 #[.int .i64 k.kind, .int .i64 k.p, .int .i64 k.q, .string k.str, .int .i64 k.ref] 26]
   obtain ⟨hi, hsm, hw⟩ := hgood i
   have hcnt : (hrun l i).count < 65536 := by have := count_le (hrun l i); have := hsm.len; omega
   have hln := hsm.len
   refine k_sr ?_
   refine s_lt t_cmp ?_
   refine s_nt ?_
   refine k_seq ?_
   refine k_cond (decide ((i : Int) < (l.length : Int))) (fun c14 => ?_) (fun c14 => ?_)
   ·
    have p15 := of_decide_eq_true c14
    refine k_st ?_
    refine k_seq ?_
    refine k_block ?_
    refine k_sr ?_
    refine sp (.int .i64 (i : Int)) ?_
    refine sp (.int .i64 (i : Int)) ?_
    refine s_nt ?_
    refine k_reg ?_
    refine sp (pB hb12 0) ?_
    refine sp lv ?_
    refine sp (.int .i64 (i : Int)) ?_
    refine s_lt (t_index ClT_ok Try.underlying30 (.zn hL.obs) (i : Int) i (by omega) (by (try simp only [lnm]); omega) (by omega)) ?_
    obtain ⟨y16, hy17⟩ : ∃ y, l[i]? = some y := ⟨_, List.getElem?_eq_getElem (by (try simp only [lnm]); omega)⟩
    refine s_lt (t_loadE ClT_ok (.zn hL.obs) hy17) ?_
    refine s_call [0] (program_s (st := (hrun l i)) hsm (by omega) hw (hL.each y16 (List.mem_of_getElem? hy17)) (by exact (hsh.2 y16 (List.mem_of_getElem? hy17)).2.2.2.2)) ?_
    rintro _ _ ⟨rfl, rfl⟩
    refine s_nil ?_
    refine xs_block ?_
    refine xs_then ?_
    refine k_reg ?_
    refine s_lt (t_add (i : Int) 1 (by (try simp only [lnm]); omega)) ?_
    refine sp (.int .i64 ((i : Int) + 1)) ?_
    refine s_nil ?_
    have hru := hrun_succ hy17
    refine xs_mem (Bs := [hpA hb12 (hrun l (i + 1)), blkA g7 #[.int .i64 0, .int .i64 k.kind, .int .i64 k.p, .int .i64 k.q, .string k.str, .int .i64 k.ref, .int .i64 v.kind, .int .i64 v.p, .int .i64 v.q, .string v.str, .int .i64 v.ref, .int .i64 other.kind, .int .i64 other.p, .int .i64 other.q, .string other.str, .int .i64 other.ref, .int .i64 0, .string ByteArray.empty, (.slice none 0 0)] 29, blkA g3 #[.int .i64 other.kind, .int .i64 other.p, .int .i64 other.q, .string other.str, .int .i64 other.ref] 26, blkA g2 #[.int .i64 v.kind, .int .i64 v.p, .int .i64 v.q, .string v.str, .int .i64 v.ref] 26, blkA g1 #[.int .i64 k.kind, .int .i64 k.p, .int .i64 k.q, .string k.str, .int .i64 k.ref] 26]) (fun _ h => by rw [hru]; exact h) ?_
    exact xs_round (i + 1) (by omega) (by omega) (sub_of rfl ⟨⟨rfl, rfl⟩, ⟨⟨rfl, rfl⟩, ⟨⟨rfl, rfl⟩, ⟨⟨rfl, rfl⟩, ⟨⟨rfl, rfl⟩, ⟨⟨rfl, rfl⟩, ⟨⟨rfl, rfl⟩, trivial⟩⟩⟩⟩⟩⟩⟩) (fun _ h => h.re [0, 0, 0, 0, 0] [])
   ·
    have p18 := of_decide_eq_false c14
    refine k_exit ?_
    refine xs_exit ?_
    refine xs_exit ?_
    refine xs_here ?_
    refine xs_then ?_
    refine k_sr ?_
    refine sp (pB hb12 0) ?_
    refine s_call [0] (hnewtable_s (st := (hrun l i)) (by have := hsm.len; omega)) ?_
    rintro _ _ ⟨rfl, rfl⟩
    have hi19 := hmake_inv (o := (newO 4 0 ByteArray.empty [])) hi (newO_inv _ _ _ (by decide))
    have hs20 := hmake_sm (o := (newO 4 0 ByteArray.empty [])) hsm rfl (by decide)
    have hw21 := HW.make (o := (newO 4 0 ByteArray.empty [])) hw (newO_w _ _ _ (fun _ hv => (by cases hv)) (fun h8 => by cases h8))
    refine sp (.tuple #[.agg #[.int .i64 ((hmakeV (hrun l i) 4).kind), .int .i64 ((hmakeV (hrun l i) 4).p), .int .i64 ((hmakeV (hrun l i) 4).q), .string ((hmakeV (hrun l i) 4).str), .int .i64 ((hmakeV (hrun l i) 4).ref)], .int .i64 (hmakeE (hrun l i))]) ?_
    refine sp (.agg #[.int .i64 ((hmakeV (hrun l i) 4).kind), .int .i64 ((hmakeV (hrun l i) 4).p), .int .i64 ((hmakeV (hrun l i) 4).q), .string ((hmakeV (hrun l i) 4).str), .int .i64 ((hmakeV (hrun l i) 4).ref)]) ?_
    refine sp (.int .i64 (hmakeE (hrun l i))) ?_
    refine s_alloc (.agg #[.int .i64 0, .int .i64 0, .int .i64 0, .string ByteArray.empty, .int .i64 0]) #[.int .i64 0, .int .i64 0, .int .i64 0, .string ByteArray.empty, .int .i64 0] (fun g22 => ?_)
    refine s_store 0 #[.int .i64 ((hmakeV (hrun l i) 4).kind), .int .i64 ((hmakeV (hrun l i) 4).p), .int .i64 ((hmakeV (hrun l i) 4).q), .string ((hmakeV (hrun l i) 4).str), .int .i64 ((hmakeV (hrun l i) 4).ref)] ?_
    refine sp (.int .i64 (hmakeE (hrun l i))) ?_
    refine s_nt ?_
    refine k_seq ?_
    refine k_sr ?_
    refine sp (pB hb12 0) ?_
    refine sp (.bool false) ?_
    refine sp (.bool false) ?_
    refine sp (.int .i64 (hmakeE (hrun l i))) ?_
    refine s_lt (Lt.to t_cmp (congrArg Value.bool (decide_eq_false (fun h => h (hmake_ok (o := newO 4 0 ByteArray.empty []) hcnt).1) : (decide ((hmakeE (hrun l i)) ≠ 0)) = false))) ?_
    refine sp (.bool false) ?_
    refine s_nt ?_
    refine k_false ?_
    refine k_st ?_
    refine k_seq ?_
    refine k_held [blkA g22 #[.int .i64 ((hmakeV (hrun l i) 4).kind), .int .i64 ((hmakeV (hrun l i) 4).p), .int .i64 ((hmakeV (hrun l i) 4).q), .string ((hmakeV (hrun l i) 4).str), .int .i64 ((hmakeV (hrun l i) 4).ref)] 26, blkA g7 #[.int .i64 0, .int .i64 k.kind, .int .i64 k.p, .int .i64 k.q, .string k.str, .int .i64 k.ref, .int .i64 v.kind, .int .i64 v.p, .int .i64 v.q, .string v.str, .int .i64 v.ref, .int .i64 other.kind, .int .i64 other.p, .int .i64 other.q, .string other.str, .int .i64 other.ref, .int .i64 0, .string ByteArray.empty, (.slice none 0 0)] 29, blkA g3 #[.int .i64 other.kind, .int .i64 other.p, .int .i64 other.q, .string other.str, .int .i64 other.ref] 26, blkA g2 #[.int .i64 v.kind, .int .i64 v.p, .int .i64 v.q, .string v.str, .int .i64 v.ref] 26, blkA g1 #[.int .i64 k.kind, .int .i64 k.p, .int .i64 k.q, .string k.str, .int .i64 k.ref] 26] ?_
    refine hp_ 0 [0, 1, 1, 1, 1] (pB hb12 0) ?_
    refine h_l 1 rfl [0, 1, 1, 1, 1] (fun _ => (t_loadA 0 #[.int .i64 ((hmakeV (hrun l i) 4).kind), .int .i64 ((hmakeV (hrun l i) 4).p), .int .i64 ((hmakeV (hrun l i) 4).q), .string ((hmakeV (hrun l i) 4).str), .int .i64 ((hmakeV (hrun l i) 4).ref)])) ?_
    refine h_l 2 rfl [0, 1, 1, 1, 1] (fun _ => (t_loadA 2 #[.int .i64 other.kind, .int .i64 other.p, .int .i64 other.q, .string other.str, .int .i64 other.ref])) ?_
    refine h_stepS 3 ?_
    refine s_vcall (fun _ h => lnum_s 5) ?_
    rintro _ rfl
    refine s_nil (xs_held [0, 1, 1, 1, 1] ?_)
    refine h_stepS 4 ?_
    refine s_call [1] (hset_s (st := (hmake (hrun l i) (newO 4 0 ByteArray.empty []))) hs20 (by omega) (hmakeV (hrun l i) 4) other (numV 5)) ?_
    rintro _ _ ⟨rfl, rfl⟩
    have hi23 := hset_inv hi19 (hmakeV (hrun l i) 4) other (numV 5)
    have hs24 := hset_sm hi19 hs20 (hmakeV (hrun l i) 4) other (numV 5)
    have hw25 := HW.set hi19 hw21 (hmakeV (hrun l i) 4) other (numV 5)
    refine s_nil (xs_held [1, 1, 1, 1, 1] ?_)
    refine h_doneS ?_
    refine xs_then ?_
    refine k_sr ?_
    refine sp (pB hb12 0) ?_
    refine s_lt (t_loadA 1 #[.int .i64 ((hmakeV (hrun l i) 4).kind), .int .i64 ((hmakeV (hrun l i) 4).p), .int .i64 ((hmakeV (hrun l i) 4).q), .string ((hmakeV (hrun l i) 4).str), .int .i64 ((hmakeV (hrun l i) 4).ref)]) ?_
    refine s_lt (t_loadA 3 #[.int .i64 other.kind, .int .i64 other.p, .int .i64 other.q, .string other.str, .int .i64 other.ref]) ?_
    refine s_call [0] (hget_s (st := (hset (hmake (hrun l i) (newO 4 0 ByteArray.empty [])) (hmakeV (hrun l i) 4) other (numV 5))) hs24 (by omega) (hmakeV (hrun l i) 4) other) ?_
    rintro _ _ ⟨rfl, rfl⟩
    refine sp (.tuple #[.agg #[.int .i64 ((hgetV (hset (hmake (hrun l i) (newO 4 0 ByteArray.empty [])) (hmakeV (hrun l i) 4) other (numV 5)) (hmakeV (hrun l i) 4) other).kind), .int .i64 ((hgetV (hset (hmake (hrun l i) (newO 4 0 ByteArray.empty [])) (hmakeV (hrun l i) 4) other (numV 5)) (hmakeV (hrun l i) 4) other).p), .int .i64 ((hgetV (hset (hmake (hrun l i) (newO 4 0 ByteArray.empty [])) (hmakeV (hrun l i) 4) other (numV 5)) (hmakeV (hrun l i) 4) other).q), .string ((hgetV (hset (hmake (hrun l i) (newO 4 0 ByteArray.empty [])) (hmakeV (hrun l i) 4) other (numV 5)) (hmakeV (hrun l i) 4) other).str), .int .i64 ((hgetV (hset (hmake (hrun l i) (newO 4 0 ByteArray.empty [])) (hmakeV (hrun l i) 4) other (numV 5)) (hmakeV (hrun l i) 4) other).ref)], .int .i64 (hgetE (hset (hmake (hrun l i) (newO 4 0 ByteArray.empty [])) (hmakeV (hrun l i) 4) other (numV 5)) (hmakeV (hrun l i) 4))]) ?_
    refine sp (.agg #[.int .i64 ((hgetV (hset (hmake (hrun l i) (newO 4 0 ByteArray.empty [])) (hmakeV (hrun l i) 4) other (numV 5)) (hmakeV (hrun l i) 4) other).kind), .int .i64 ((hgetV (hset (hmake (hrun l i) (newO 4 0 ByteArray.empty [])) (hmakeV (hrun l i) 4) other (numV 5)) (hmakeV (hrun l i) 4) other).p), .int .i64 ((hgetV (hset (hmake (hrun l i) (newO 4 0 ByteArray.empty [])) (hmakeV (hrun l i) 4) other (numV 5)) (hmakeV (hrun l i) 4) other).q), .string ((hgetV (hset (hmake (hrun l i) (newO 4 0 ByteArray.empty [])) (hmakeV (hrun l i) 4) other (numV 5)) (hmakeV (hrun l i) 4) other).str), .int .i64 ((hgetV (hset (hmake (hrun l i) (newO 4 0 ByteArray.empty [])) (hmakeV (hrun l i) 4) other (numV 5)) (hmakeV (hrun l i) 4) other).ref)]) ?_
    refine sp (.int .i64 (hgetE (hset (hmake (hrun l i) (newO 4 0 ByteArray.empty [])) (hmakeV (hrun l i) 4) other (numV 5)) (hmakeV (hrun l i) 4))) ?_
    refine s_alloc (.agg #[.int .i64 0, .int .i64 0, .int .i64 0, .string ByteArray.empty, .int .i64 0]) #[.int .i64 0, .int .i64 0, .int .i64 0, .string ByteArray.empty, .int .i64 0] (fun g26 => ?_)
    refine s_store 0 #[.int .i64 ((hgetV (hset (hmake (hrun l i) (newO 4 0 ByteArray.empty [])) (hmakeV (hrun l i) 4) other (numV 5)) (hmakeV (hrun l i) 4) other).kind), .int .i64 ((hgetV (hset (hmake (hrun l i) (newO 4 0 ByteArray.empty [])) (hmakeV (hrun l i) 4) other (numV 5)) (hmakeV (hrun l i) 4) other).p), .int .i64 ((hgetV (hset (hmake (hrun l i) (newO 4 0 ByteArray.empty [])) (hmakeV (hrun l i) 4) other (numV 5)) (hmakeV (hrun l i) 4) other).q), .string ((hgetV (hset (hmake (hrun l i) (newO 4 0 ByteArray.empty [])) (hmakeV (hrun l i) 4) other (numV 5)) (hmakeV (hrun l i) 4) other).str), .int .i64 ((hgetV (hset (hmake (hrun l i) (newO 4 0 ByteArray.empty [])) (hmakeV (hrun l i) 4) other (numV 5)) (hmakeV (hrun l i) 4) other).ref)] ?_
    refine sp (.int .i64 (hgetE (hset (hmake (hrun l i) (newO 4 0 ByteArray.empty [])) (hmakeV (hrun l i) 4) other (numV 5)) (hmakeV (hrun l i) 4))) ?_
    refine s_nr ?_
    refine sp (pB hb12 0) ?_
    refine s_lt (t_loadA 2 #[.int .i64 ((hmakeV (hrun l i) 4).kind), .int .i64 ((hmakeV (hrun l i) 4).p), .int .i64 ((hmakeV (hrun l i) 4).q), .string ((hmakeV (hrun l i) 4).str), .int .i64 ((hmakeV (hrun l i) 4).ref)]) ?_
    refine s_lt (t_loadA 6 #[.int .i64 k.kind, .int .i64 k.p, .int .i64 k.q, .string k.str, .int .i64 k.ref]) ?_
    refine s_lt (t_loadA 5 #[.int .i64 v.kind, .int .i64 v.p, .int .i64 v.q, .string v.str, .int .i64 v.ref]) ?_
    refine s_call [1] (hset_s (st := (hset (hmake (hrun l i) (newO 4 0 ByteArray.empty [])) (hmakeV (hrun l i) 4) other (numV 5))) hs24 (by omega) (hmakeV (hrun l i) 4) k v) ?_
    rintro _ _ ⟨rfl, rfl⟩
    have hi27 := hset_inv hi23 (hmakeV (hrun l i) 4) k v
    have hs28 := hset_sm hi23 hs24 (hmakeV (hrun l i) 4) k v
    have hw29 := HW.set hi23 hw25 (hmakeV (hrun l i) 4) k v
    refine sp (.int .i64 (hsetE (hset (hmake (hrun l i) (newO 4 0 ByteArray.empty [])) (hmakeV (hrun l i) 4) other (numV 5)) (hmakeV (hrun l i) 4) k v)) ?_
    refine s_nt ?_
    refine k_seq ?_
    have kt1 := (KT.make hcnt).set other (numV 5)
    have kt3 := kt1.set k v
    by_cases hk0 : k.kind = 0
    ·
     have hok : ¬ (okKey k = true ∧ validB v = true) := by rintro ⟨h1, _⟩; exact (okKey_iff.1 h1).2 hk0
     by_cases hko : k = other
     ·
      refine k_sr ?_
      refine sp (.int .i64 (hsetE (hset (hmake (hrun l i) (newO 4 0 ByteArray.empty [])) (hmakeV (hrun l i) 4) other (numV 5)) (hmakeV (hrun l i) 4) k v)) ?_
      refine s_lt (Lt.to t_cmp (congrArg Value.bool (decide_eq_false (fun h => hok ((kt1.setE k v).1 h)) : (decide ((hsetE (hset (hmake (hrun l i) (newO 4 0 ByteArray.empty [])) (hmakeV (hrun l i) 4) other (numV 5)) (hmakeV (hrun l i) 4) k v) = 0)) = false))) ?_
      refine sp (pB g1 0) ?_
      refine s_lt (t_load 6 (.int .i64 k.kind)) ?_
      refine s_lt (Lt.to t_cmp (congrArg Value.bool (decide_eq_false (fun h => h hk0) : (decide (k.kind ≠ 0)) = false))) ?_
      refine sp (.bool false) ?_
      refine s_skip ?_
      refine s_skip ?_
      refine sp (.bool false) ?_
      refine sp (.bool false) ?_
      refine s_skip ?_
      refine s_skip ?_
      refine sp (.bool false) ?_
      refine sp (.bool false) ?_
      refine s_nt ?_
      refine k_false ?_
      refine k_st ?_
      refine k_sr ?_
      refine sp (pB hb12 0) ?_
      refine s_lt (t_loadA 2 #[.int .i64 ((hmakeV (hrun l i) 4).kind), .int .i64 ((hmakeV (hrun l i) 4).p), .int .i64 ((hmakeV (hrun l i) 4).q), .string ((hmakeV (hrun l i) 4).str), .int .i64 ((hmakeV (hrun l i) 4).ref)]) ?_
      refine s_lt (t_loadA 6 #[.int .i64 k.kind, .int .i64 k.p, .int .i64 k.q, .string k.str, .int .i64 k.ref]) ?_
      refine s_call [0] (hget_s (st := (hset (hset (hmake (hrun l i) (newO 4 0 ByteArray.empty [])) (hmakeV (hrun l i) 4) other (numV 5)) (hmakeV (hrun l i) 4) k v)) hs28 (by omega) (hmakeV (hrun l i) 4) k) ?_
      rintro _ _ ⟨rfl, rfl⟩
      refine sp (.tuple #[.agg #[.int .i64 ((hgetV (hset (hset (hmake (hrun l i) (newO 4 0 ByteArray.empty [])) (hmakeV (hrun l i) 4) other (numV 5)) (hmakeV (hrun l i) 4) k v) (hmakeV (hrun l i) 4) k).kind), .int .i64 ((hgetV (hset (hset (hmake (hrun l i) (newO 4 0 ByteArray.empty [])) (hmakeV (hrun l i) 4) other (numV 5)) (hmakeV (hrun l i) 4) k v) (hmakeV (hrun l i) 4) k).p), .int .i64 ((hgetV (hset (hset (hmake (hrun l i) (newO 4 0 ByteArray.empty [])) (hmakeV (hrun l i) 4) other (numV 5)) (hmakeV (hrun l i) 4) k v) (hmakeV (hrun l i) 4) k).q), .string ((hgetV (hset (hset (hmake (hrun l i) (newO 4 0 ByteArray.empty [])) (hmakeV (hrun l i) 4) other (numV 5)) (hmakeV (hrun l i) 4) k v) (hmakeV (hrun l i) 4) k).str), .int .i64 ((hgetV (hset (hset (hmake (hrun l i) (newO 4 0 ByteArray.empty [])) (hmakeV (hrun l i) 4) other (numV 5)) (hmakeV (hrun l i) 4) k v) (hmakeV (hrun l i) 4) k).ref)], .int .i64 (hgetE (hset (hset (hmake (hrun l i) (newO 4 0 ByteArray.empty [])) (hmakeV (hrun l i) 4) other (numV 5)) (hmakeV (hrun l i) 4) k v) (hmakeV (hrun l i) 4))]) ?_
      refine sp (.agg #[.int .i64 ((hgetV (hset (hset (hmake (hrun l i) (newO 4 0 ByteArray.empty [])) (hmakeV (hrun l i) 4) other (numV 5)) (hmakeV (hrun l i) 4) k v) (hmakeV (hrun l i) 4) k).kind), .int .i64 ((hgetV (hset (hset (hmake (hrun l i) (newO 4 0 ByteArray.empty [])) (hmakeV (hrun l i) 4) other (numV 5)) (hmakeV (hrun l i) 4) k v) (hmakeV (hrun l i) 4) k).p), .int .i64 ((hgetV (hset (hset (hmake (hrun l i) (newO 4 0 ByteArray.empty [])) (hmakeV (hrun l i) 4) other (numV 5)) (hmakeV (hrun l i) 4) k v) (hmakeV (hrun l i) 4) k).q), .string ((hgetV (hset (hset (hmake (hrun l i) (newO 4 0 ByteArray.empty [])) (hmakeV (hrun l i) 4) other (numV 5)) (hmakeV (hrun l i) 4) k v) (hmakeV (hrun l i) 4) k).str), .int .i64 ((hgetV (hset (hset (hmake (hrun l i) (newO 4 0 ByteArray.empty [])) (hmakeV (hrun l i) 4) other (numV 5)) (hmakeV (hrun l i) 4) k v) (hmakeV (hrun l i) 4) k).ref)]) ?_
      refine sp (.int .i64 (hgetE (hset (hset (hmake (hrun l i) (newO 4 0 ByteArray.empty [])) (hmakeV (hrun l i) 4) other (numV 5)) (hmakeV (hrun l i) 4) k v) (hmakeV (hrun l i) 4))) ?_
      refine s_alloc (.agg #[.int .i64 0, .int .i64 0, .int .i64 0, .string ByteArray.empty, .int .i64 0]) #[.int .i64 0, .int .i64 0, .int .i64 0, .string ByteArray.empty, .int .i64 0] (fun g30 => ?_)
      refine s_store 0 #[.int .i64 ((hgetV (hset (hset (hmake (hrun l i) (newO 4 0 ByteArray.empty [])) (hmakeV (hrun l i) 4) other (numV 5)) (hmakeV (hrun l i) 4) k v) (hmakeV (hrun l i) 4) k).kind), .int .i64 ((hgetV (hset (hset (hmake (hrun l i) (newO 4 0 ByteArray.empty [])) (hmakeV (hrun l i) 4) other (numV 5)) (hmakeV (hrun l i) 4) k v) (hmakeV (hrun l i) 4) k).p), .int .i64 ((hgetV (hset (hset (hmake (hrun l i) (newO 4 0 ByteArray.empty [])) (hmakeV (hrun l i) 4) other (numV 5)) (hmakeV (hrun l i) 4) k v) (hmakeV (hrun l i) 4) k).q), .string ((hgetV (hset (hset (hmake (hrun l i) (newO 4 0 ByteArray.empty [])) (hmakeV (hrun l i) 4) other (numV 5)) (hmakeV (hrun l i) 4) k v) (hmakeV (hrun l i) 4) k).str), .int .i64 ((hgetV (hset (hset (hmake (hrun l i) (newO 4 0 ByteArray.empty [])) (hmakeV (hrun l i) 4) other (numV 5)) (hmakeV (hrun l i) 4) k v) (hmakeV (hrun l i) 4) k).ref)] ?_
      refine sp (.int .i64 (hgetE (hset (hset (hmake (hrun l i) (newO 4 0 ByteArray.empty [])) (hmakeV (hrun l i) 4) other (numV 5)) (hmakeV (hrun l i) 4) k v) (hmakeV (hrun l i) 4))) ?_
      refine s_nr ?_
      refine sp (pB hb12 0) ?_
      refine s_lt (t_loadA 3 #[.int .i64 ((hmakeV (hrun l i) 4).kind), .int .i64 ((hmakeV (hrun l i) 4).p), .int .i64 ((hmakeV (hrun l i) 4).q), .string ((hmakeV (hrun l i) 4).str), .int .i64 ((hmakeV (hrun l i) 4).ref)]) ?_
      refine s_lt (t_loadA 5 #[.int .i64 other.kind, .int .i64 other.p, .int .i64 other.q, .string other.str, .int .i64 other.ref]) ?_
      refine s_call [1] (hget_s (st := (hset (hset (hmake (hrun l i) (newO 4 0 ByteArray.empty [])) (hmakeV (hrun l i) 4) other (numV 5)) (hmakeV (hrun l i) 4) k v)) hs28 (by omega) (hmakeV (hrun l i) 4) other) ?_
      rintro _ _ ⟨rfl, rfl⟩
      refine sp (.tuple #[.agg #[.int .i64 ((hgetV (hset (hset (hmake (hrun l i) (newO 4 0 ByteArray.empty [])) (hmakeV (hrun l i) 4) other (numV 5)) (hmakeV (hrun l i) 4) k v) (hmakeV (hrun l i) 4) other).kind), .int .i64 ((hgetV (hset (hset (hmake (hrun l i) (newO 4 0 ByteArray.empty [])) (hmakeV (hrun l i) 4) other (numV 5)) (hmakeV (hrun l i) 4) k v) (hmakeV (hrun l i) 4) other).p), .int .i64 ((hgetV (hset (hset (hmake (hrun l i) (newO 4 0 ByteArray.empty [])) (hmakeV (hrun l i) 4) other (numV 5)) (hmakeV (hrun l i) 4) k v) (hmakeV (hrun l i) 4) other).q), .string ((hgetV (hset (hset (hmake (hrun l i) (newO 4 0 ByteArray.empty [])) (hmakeV (hrun l i) 4) other (numV 5)) (hmakeV (hrun l i) 4) k v) (hmakeV (hrun l i) 4) other).str), .int .i64 ((hgetV (hset (hset (hmake (hrun l i) (newO 4 0 ByteArray.empty [])) (hmakeV (hrun l i) 4) other (numV 5)) (hmakeV (hrun l i) 4) k v) (hmakeV (hrun l i) 4) other).ref)], .int .i64 (hgetE (hset (hset (hmake (hrun l i) (newO 4 0 ByteArray.empty [])) (hmakeV (hrun l i) 4) other (numV 5)) (hmakeV (hrun l i) 4) k v) (hmakeV (hrun l i) 4))]) ?_
      refine sp (.agg #[.int .i64 ((hgetV (hset (hset (hmake (hrun l i) (newO 4 0 ByteArray.empty [])) (hmakeV (hrun l i) 4) other (numV 5)) (hmakeV (hrun l i) 4) k v) (hmakeV (hrun l i) 4) other).kind), .int .i64 ((hgetV (hset (hset (hmake (hrun l i) (newO 4 0 ByteArray.empty [])) (hmakeV (hrun l i) 4) other (numV 5)) (hmakeV (hrun l i) 4) k v) (hmakeV (hrun l i) 4) other).p), .int .i64 ((hgetV (hset (hset (hmake (hrun l i) (newO 4 0 ByteArray.empty [])) (hmakeV (hrun l i) 4) other (numV 5)) (hmakeV (hrun l i) 4) k v) (hmakeV (hrun l i) 4) other).q), .string ((hgetV (hset (hset (hmake (hrun l i) (newO 4 0 ByteArray.empty [])) (hmakeV (hrun l i) 4) other (numV 5)) (hmakeV (hrun l i) 4) k v) (hmakeV (hrun l i) 4) other).str), .int .i64 ((hgetV (hset (hset (hmake (hrun l i) (newO 4 0 ByteArray.empty [])) (hmakeV (hrun l i) 4) other (numV 5)) (hmakeV (hrun l i) 4) k v) (hmakeV (hrun l i) 4) other).ref)]) ?_
      refine sp (.int .i64 (hgetE (hset (hset (hmake (hrun l i) (newO 4 0 ByteArray.empty [])) (hmakeV (hrun l i) 4) other (numV 5)) (hmakeV (hrun l i) 4) k v) (hmakeV (hrun l i) 4))) ?_
      refine s_alloc (.agg #[.int .i64 0, .int .i64 0, .int .i64 0, .string ByteArray.empty, .int .i64 0]) #[.int .i64 0, .int .i64 0, .int .i64 0, .string ByteArray.empty, .int .i64 0] (fun g31 => ?_)
      refine s_store 0 #[.int .i64 ((hgetV (hset (hset (hmake (hrun l i) (newO 4 0 ByteArray.empty [])) (hmakeV (hrun l i) 4) other (numV 5)) (hmakeV (hrun l i) 4) k v) (hmakeV (hrun l i) 4) other).kind), .int .i64 ((hgetV (hset (hset (hmake (hrun l i) (newO 4 0 ByteArray.empty [])) (hmakeV (hrun l i) 4) other (numV 5)) (hmakeV (hrun l i) 4) k v) (hmakeV (hrun l i) 4) other).p), .int .i64 ((hgetV (hset (hset (hmake (hrun l i) (newO 4 0 ByteArray.empty [])) (hmakeV (hrun l i) 4) other (numV 5)) (hmakeV (hrun l i) 4) k v) (hmakeV (hrun l i) 4) other).q), .string ((hgetV (hset (hset (hmake (hrun l i) (newO 4 0 ByteArray.empty [])) (hmakeV (hrun l i) 4) other (numV 5)) (hmakeV (hrun l i) 4) k v) (hmakeV (hrun l i) 4) other).str), .int .i64 ((hgetV (hset (hset (hmake (hrun l i) (newO 4 0 ByteArray.empty [])) (hmakeV (hrun l i) 4) other (numV 5)) (hmakeV (hrun l i) 4) k v) (hmakeV (hrun l i) 4) other).ref)] ?_
      refine sp (.int .i64 (hgetE (hset (hset (hmake (hrun l i) (newO 4 0 ByteArray.empty [])) (hmakeV (hrun l i) 4) other (numV 5)) (hmakeV (hrun l i) 4) k v) (hmakeV (hrun l i) 4))) ?_
      refine s_nt ?_
      refine k_seq ?_
      refine k_sr ?_
      refine sp (.int .i64 (hsetE (hset (hmake (hrun l i) (newO 4 0 ByteArray.empty [])) (hmakeV (hrun l i) 4) other (numV 5)) (hmakeV (hrun l i) 4) k v)) ?_
      refine s_lt (Lt.to t_cmp (congrArg Value.bool (decide_eq_false (fun h => hok ((kt1.setE k v).1 h)) : (decide ((hsetE (hset (hmake (hrun l i) (newO 4 0 ByteArray.empty [])) (hmakeV (hrun l i) 4) other (numV 5)) (hmakeV (hrun l i) 4) k v) = 0)) = false))) ?_
      refine sp (.bool false) ?_
      refine s_skip ?_
      refine s_skip ?_
      refine s_skip ?_
      refine sp (.bool false) ?_
      refine sp (.bool false) ?_
      refine s_lt (t_loadA 8 #[.int .i64 k.kind, .int .i64 k.p, .int .i64 k.q, .string k.str, .int .i64 k.ref]) ?_
      refine s_lt (t_loadA 6 #[.int .i64 other.kind, .int .i64 other.p, .int .i64 other.q, .string other.str, .int .i64 other.ref]) ?_
      refine s_lt (Lt.to (t_eqS (fun w => (eqVlT k other w).2)) (congrArg Value.bool ((congrArg Bool.not (decide_eq_true hko : (decide (k = other)) = true)).trans rfl : (!(decide (k = other))) = false))) ?_
      refine sp (.bool false) ?_
      refine s_skip ?_
      refine s_skip ?_
      refine s_skip ?_
      refine sp (.bool false) ?_
      refine sp (.bool false) ?_
      refine s_nt ?_
      refine k_false ?_
      refine k_st ?_
      refine k_seq ?_
      refine k_sr ?_
      refine sp (pB hb12 0) ?_
      refine sp (pB g22 4) ?_
      refine s_lt (t_load 4 (.int .i64 ((hmakeV (hrun l i) 4).ref))) ?_
      refine s_call [1] (hdrop_s (st := (hset (hset (hmake (hrun l i) (newO 4 0 ByteArray.empty [])) (hmakeV (hrun l i) 4) other (numV 5)) (hmakeV (hrun l i) 4) k v)) ((hmakeV (hrun l i) 4).ref)) ?_
      rintro _ _ ⟨rfl, rfl⟩
      have hi32 := drop_inv hi27 ((hmakeV (hrun l i) 4).ref)
      have hs33 := drop_sm hs28 ((hmakeV (hrun l i) 4).ref)
      have hw34 := drop_w hw29 ((hmakeV (hrun l i) 4).ref)
      refine s_lt (Lt.to t_cmp (congrArg Value.bool (decide_eq_false (fun h => h kt3.dropE) : (decide ((hdropE (hset (hset (hmake (hrun l i) (newO 4 0 ByteArray.empty [])) (hmakeV (hrun l i) 4) other (numV 5)) (hmakeV (hrun l i) 4) k v) ((hmakeV (hrun l i) 4).ref)) ≠ 0)) = false))) ?_
      refine s_nt ?_
      refine k_false ?_
      refine k_st ?_
      refine k_sr ?_
      refine sp (pB hb12 0) ?_
      refine s_lt (t_loadA 4 #[.int .i64 ((hmakeV (hrun l i) 4).kind), .int .i64 ((hmakeV (hrun l i) 4).p), .int .i64 ((hmakeV (hrun l i) 4).q), .string ((hmakeV (hrun l i) 4).str), .int .i64 ((hmakeV (hrun l i) 4).ref)]) ?_
      refine s_lt (t_loadA 8 #[.int .i64 k.kind, .int .i64 k.p, .int .i64 k.q, .string k.str, .int .i64 k.ref]) ?_
      refine s_call [0] (hget_s (st := (hdrop (hset (hset (hmake (hrun l i) (newO 4 0 ByteArray.empty [])) (hmakeV (hrun l i) 4) other (numV 5)) (hmakeV (hrun l i) 4) k v) ((hmakeV (hrun l i) 4).ref))) hs33 (by omega) (hmakeV (hrun l i) 4) k) ?_
      rintro _ _ ⟨rfl, rfl⟩
      refine sp (.tuple #[.agg #[.int .i64 ((hgetV (hdrop (hset (hset (hmake (hrun l i) (newO 4 0 ByteArray.empty [])) (hmakeV (hrun l i) 4) other (numV 5)) (hmakeV (hrun l i) 4) k v) ((hmakeV (hrun l i) 4).ref)) (hmakeV (hrun l i) 4) k).kind), .int .i64 ((hgetV (hdrop (hset (hset (hmake (hrun l i) (newO 4 0 ByteArray.empty [])) (hmakeV (hrun l i) 4) other (numV 5)) (hmakeV (hrun l i) 4) k v) ((hmakeV (hrun l i) 4).ref)) (hmakeV (hrun l i) 4) k).p), .int .i64 ((hgetV (hdrop (hset (hset (hmake (hrun l i) (newO 4 0 ByteArray.empty [])) (hmakeV (hrun l i) 4) other (numV 5)) (hmakeV (hrun l i) 4) k v) ((hmakeV (hrun l i) 4).ref)) (hmakeV (hrun l i) 4) k).q), .string ((hgetV (hdrop (hset (hset (hmake (hrun l i) (newO 4 0 ByteArray.empty [])) (hmakeV (hrun l i) 4) other (numV 5)) (hmakeV (hrun l i) 4) k v) ((hmakeV (hrun l i) 4).ref)) (hmakeV (hrun l i) 4) k).str), .int .i64 ((hgetV (hdrop (hset (hset (hmake (hrun l i) (newO 4 0 ByteArray.empty [])) (hmakeV (hrun l i) 4) other (numV 5)) (hmakeV (hrun l i) 4) k v) ((hmakeV (hrun l i) 4).ref)) (hmakeV (hrun l i) 4) k).ref)], .int .i64 (hgetE (hdrop (hset (hset (hmake (hrun l i) (newO 4 0 ByteArray.empty [])) (hmakeV (hrun l i) 4) other (numV 5)) (hmakeV (hrun l i) 4) k v) ((hmakeV (hrun l i) 4).ref)) (hmakeV (hrun l i) 4))]) ?_
      refine sp (.agg #[.int .i64 ((hgetV (hdrop (hset (hset (hmake (hrun l i) (newO 4 0 ByteArray.empty [])) (hmakeV (hrun l i) 4) other (numV 5)) (hmakeV (hrun l i) 4) k v) ((hmakeV (hrun l i) 4).ref)) (hmakeV (hrun l i) 4) k).kind), .int .i64 ((hgetV (hdrop (hset (hset (hmake (hrun l i) (newO 4 0 ByteArray.empty [])) (hmakeV (hrun l i) 4) other (numV 5)) (hmakeV (hrun l i) 4) k v) ((hmakeV (hrun l i) 4).ref)) (hmakeV (hrun l i) 4) k).p), .int .i64 ((hgetV (hdrop (hset (hset (hmake (hrun l i) (newO 4 0 ByteArray.empty [])) (hmakeV (hrun l i) 4) other (numV 5)) (hmakeV (hrun l i) 4) k v) ((hmakeV (hrun l i) 4).ref)) (hmakeV (hrun l i) 4) k).q), .string ((hgetV (hdrop (hset (hset (hmake (hrun l i) (newO 4 0 ByteArray.empty [])) (hmakeV (hrun l i) 4) other (numV 5)) (hmakeV (hrun l i) 4) k v) ((hmakeV (hrun l i) 4).ref)) (hmakeV (hrun l i) 4) k).str), .int .i64 ((hgetV (hdrop (hset (hset (hmake (hrun l i) (newO 4 0 ByteArray.empty [])) (hmakeV (hrun l i) 4) other (numV 5)) (hmakeV (hrun l i) 4) k v) ((hmakeV (hrun l i) 4).ref)) (hmakeV (hrun l i) 4) k).ref)]) ?_
      refine sp (.int .i64 (hgetE (hdrop (hset (hset (hmake (hrun l i) (newO 4 0 ByteArray.empty [])) (hmakeV (hrun l i) 4) other (numV 5)) (hmakeV (hrun l i) 4) k v) ((hmakeV (hrun l i) 4).ref)) (hmakeV (hrun l i) 4))) ?_
      refine s_alloc (.agg #[.int .i64 0, .int .i64 0, .int .i64 0, .string ByteArray.empty, .int .i64 0]) #[.int .i64 0, .int .i64 0, .int .i64 0, .string ByteArray.empty, .int .i64 0] (fun g35 => ?_)
      refine s_store 0 #[.int .i64 ((hgetV (hdrop (hset (hset (hmake (hrun l i) (newO 4 0 ByteArray.empty [])) (hmakeV (hrun l i) 4) other (numV 5)) (hmakeV (hrun l i) 4) k v) ((hmakeV (hrun l i) 4).ref)) (hmakeV (hrun l i) 4) k).kind), .int .i64 ((hgetV (hdrop (hset (hset (hmake (hrun l i) (newO 4 0 ByteArray.empty [])) (hmakeV (hrun l i) 4) other (numV 5)) (hmakeV (hrun l i) 4) k v) ((hmakeV (hrun l i) 4).ref)) (hmakeV (hrun l i) 4) k).p), .int .i64 ((hgetV (hdrop (hset (hset (hmake (hrun l i) (newO 4 0 ByteArray.empty [])) (hmakeV (hrun l i) 4) other (numV 5)) (hmakeV (hrun l i) 4) k v) ((hmakeV (hrun l i) 4).ref)) (hmakeV (hrun l i) 4) k).q), .string ((hgetV (hdrop (hset (hset (hmake (hrun l i) (newO 4 0 ByteArray.empty [])) (hmakeV (hrun l i) 4) other (numV 5)) (hmakeV (hrun l i) 4) k v) ((hmakeV (hrun l i) 4).ref)) (hmakeV (hrun l i) 4) k).str), .int .i64 ((hgetV (hdrop (hset (hset (hmake (hrun l i) (newO 4 0 ByteArray.empty [])) (hmakeV (hrun l i) 4) other (numV 5)) (hmakeV (hrun l i) 4) k v) ((hmakeV (hrun l i) 4).ref)) (hmakeV (hrun l i) 4) k).ref)] ?_
      refine sp (.int .i64 (hgetE (hdrop (hset (hset (hmake (hrun l i) (newO 4 0 ByteArray.empty [])) (hmakeV (hrun l i) 4) other (numV 5)) (hmakeV (hrun l i) 4) k v) ((hmakeV (hrun l i) 4).ref)) (hmakeV (hrun l i) 4))) ?_
      refine s_nr ?_
      refine sp (.int .i64 (hgetE (hdrop (hset (hset (hmake (hrun l i) (newO 4 0 ByteArray.empty [])) (hmakeV (hrun l i) 4) other (numV 5)) (hmakeV (hrun l i) 4) k v) ((hmakeV (hrun l i) 4).ref)) (hmakeV (hrun l i) 4))) ?_
      refine s_lt (Lt.to t_cmp (congrArg Value.bool (decide_eq_true kt3.gone : (decide ((hgetE (hdrop (hset (hset (hmake (hrun l i) (newO 4 0 ByteArray.empty [])) (hmakeV (hrun l i) 4) other (numV 5)) (hmakeV (hrun l i) 4) k v) ((hmakeV (hrun l i) 4).ref)) (hmakeV (hrun l i) 4)) = 8)) = true))) ?_
      refine sp (.bool true) ?_
      refine sp (pB hb12 0) ?_
      refine sp (pB g22 4) ?_
      refine s_lt (t_load 5 (.int .i64 ((hmakeV (hrun l i) 4).ref))) ?_
      refine s_call [1] (hdrop_s (st := (hdrop (hset (hset (hmake (hrun l i) (newO 4 0 ByteArray.empty [])) (hmakeV (hrun l i) 4) other (numV 5)) (hmakeV (hrun l i) 4) k v) ((hmakeV (hrun l i) 4).ref))) ((hmakeV (hrun l i) 4).ref)) ?_
      rintro _ _ ⟨rfl, rfl⟩
      have hi36 := drop_inv hi32 ((hmakeV (hrun l i) 4).ref)
      have hs37 := drop_sm hs33 ((hmakeV (hrun l i) 4).ref)
      have hw38 := drop_w hw34 ((hmakeV (hrun l i) 4).ref)
      refine s_lt (Lt.to t_cmp (congrArg Value.bool (decide_eq_true kt3.dead : (decide ((hdropE (hdrop (hset (hset (hmake (hrun l i) (newO 4 0 ByteArray.empty [])) (hmakeV (hrun l i) 4) other (numV 5)) (hmakeV (hrun l i) 4) k v) ((hmakeV (hrun l i) 4).ref)) ((hmakeV (hrun l i) 4).ref)) = 19)) = true))) ?_
      refine sp (.bool true) ?_
      refine sp (.bool true) ?_
      refine s_vcall (fun _ h => awake_s) ?_
      rintro _ rfl
      refine sp (.bool true) ?_
      refine sp (.bool true) ?_
      refine s_nt ?_
      refine k_ret ?_
      exact xs_fin [.bool true] [] (SI.tmp 8 SI.nil) (fun _ h => h.re [] [0, 0, 0, 0, 0, 0, 0, 0, 0, 0]) ⟨rfl, rfl⟩
     ·
      refine k_sr ?_
      refine sp (.int .i64 (hsetE (hset (hmake (hrun l i) (newO 4 0 ByteArray.empty [])) (hmakeV (hrun l i) 4) other (numV 5)) (hmakeV (hrun l i) 4) k v)) ?_
      refine s_lt (Lt.to t_cmp (congrArg Value.bool (decide_eq_false (fun h => hok ((kt1.setE k v).1 h)) : (decide ((hsetE (hset (hmake (hrun l i) (newO 4 0 ByteArray.empty [])) (hmakeV (hrun l i) 4) other (numV 5)) (hmakeV (hrun l i) 4) k v) = 0)) = false))) ?_
      refine sp (pB g1 0) ?_
      refine s_lt (t_load 6 (.int .i64 k.kind)) ?_
      refine s_lt (Lt.to t_cmp (congrArg Value.bool (decide_eq_false (fun h => h hk0) : (decide (k.kind ≠ 0)) = false))) ?_
      refine sp (.bool false) ?_
      refine s_skip ?_
      refine s_skip ?_
      refine sp (.bool false) ?_
      refine sp (.bool false) ?_
      refine s_skip ?_
      refine s_skip ?_
      refine sp (.bool false) ?_
      refine sp (.bool false) ?_
      refine s_nt ?_
      refine k_false ?_
      refine k_st ?_
      refine k_sr ?_
      refine sp (pB hb12 0) ?_
      refine s_lt (t_loadA 2 #[.int .i64 ((hmakeV (hrun l i) 4).kind), .int .i64 ((hmakeV (hrun l i) 4).p), .int .i64 ((hmakeV (hrun l i) 4).q), .string ((hmakeV (hrun l i) 4).str), .int .i64 ((hmakeV (hrun l i) 4).ref)]) ?_
      refine s_lt (t_loadA 6 #[.int .i64 k.kind, .int .i64 k.p, .int .i64 k.q, .string k.str, .int .i64 k.ref]) ?_
      refine s_call [0] (hget_s (st := (hset (hset (hmake (hrun l i) (newO 4 0 ByteArray.empty [])) (hmakeV (hrun l i) 4) other (numV 5)) (hmakeV (hrun l i) 4) k v)) hs28 (by omega) (hmakeV (hrun l i) 4) k) ?_
      rintro _ _ ⟨rfl, rfl⟩
      refine sp (.tuple #[.agg #[.int .i64 ((hgetV (hset (hset (hmake (hrun l i) (newO 4 0 ByteArray.empty [])) (hmakeV (hrun l i) 4) other (numV 5)) (hmakeV (hrun l i) 4) k v) (hmakeV (hrun l i) 4) k).kind), .int .i64 ((hgetV (hset (hset (hmake (hrun l i) (newO 4 0 ByteArray.empty [])) (hmakeV (hrun l i) 4) other (numV 5)) (hmakeV (hrun l i) 4) k v) (hmakeV (hrun l i) 4) k).p), .int .i64 ((hgetV (hset (hset (hmake (hrun l i) (newO 4 0 ByteArray.empty [])) (hmakeV (hrun l i) 4) other (numV 5)) (hmakeV (hrun l i) 4) k v) (hmakeV (hrun l i) 4) k).q), .string ((hgetV (hset (hset (hmake (hrun l i) (newO 4 0 ByteArray.empty [])) (hmakeV (hrun l i) 4) other (numV 5)) (hmakeV (hrun l i) 4) k v) (hmakeV (hrun l i) 4) k).str), .int .i64 ((hgetV (hset (hset (hmake (hrun l i) (newO 4 0 ByteArray.empty [])) (hmakeV (hrun l i) 4) other (numV 5)) (hmakeV (hrun l i) 4) k v) (hmakeV (hrun l i) 4) k).ref)], .int .i64 (hgetE (hset (hset (hmake (hrun l i) (newO 4 0 ByteArray.empty [])) (hmakeV (hrun l i) 4) other (numV 5)) (hmakeV (hrun l i) 4) k v) (hmakeV (hrun l i) 4))]) ?_
      refine sp (.agg #[.int .i64 ((hgetV (hset (hset (hmake (hrun l i) (newO 4 0 ByteArray.empty [])) (hmakeV (hrun l i) 4) other (numV 5)) (hmakeV (hrun l i) 4) k v) (hmakeV (hrun l i) 4) k).kind), .int .i64 ((hgetV (hset (hset (hmake (hrun l i) (newO 4 0 ByteArray.empty [])) (hmakeV (hrun l i) 4) other (numV 5)) (hmakeV (hrun l i) 4) k v) (hmakeV (hrun l i) 4) k).p), .int .i64 ((hgetV (hset (hset (hmake (hrun l i) (newO 4 0 ByteArray.empty [])) (hmakeV (hrun l i) 4) other (numV 5)) (hmakeV (hrun l i) 4) k v) (hmakeV (hrun l i) 4) k).q), .string ((hgetV (hset (hset (hmake (hrun l i) (newO 4 0 ByteArray.empty [])) (hmakeV (hrun l i) 4) other (numV 5)) (hmakeV (hrun l i) 4) k v) (hmakeV (hrun l i) 4) k).str), .int .i64 ((hgetV (hset (hset (hmake (hrun l i) (newO 4 0 ByteArray.empty [])) (hmakeV (hrun l i) 4) other (numV 5)) (hmakeV (hrun l i) 4) k v) (hmakeV (hrun l i) 4) k).ref)]) ?_
      refine sp (.int .i64 (hgetE (hset (hset (hmake (hrun l i) (newO 4 0 ByteArray.empty [])) (hmakeV (hrun l i) 4) other (numV 5)) (hmakeV (hrun l i) 4) k v) (hmakeV (hrun l i) 4))) ?_
      refine s_alloc (.agg #[.int .i64 0, .int .i64 0, .int .i64 0, .string ByteArray.empty, .int .i64 0]) #[.int .i64 0, .int .i64 0, .int .i64 0, .string ByteArray.empty, .int .i64 0] (fun g39 => ?_)
      refine s_store 0 #[.int .i64 ((hgetV (hset (hset (hmake (hrun l i) (newO 4 0 ByteArray.empty [])) (hmakeV (hrun l i) 4) other (numV 5)) (hmakeV (hrun l i) 4) k v) (hmakeV (hrun l i) 4) k).kind), .int .i64 ((hgetV (hset (hset (hmake (hrun l i) (newO 4 0 ByteArray.empty [])) (hmakeV (hrun l i) 4) other (numV 5)) (hmakeV (hrun l i) 4) k v) (hmakeV (hrun l i) 4) k).p), .int .i64 ((hgetV (hset (hset (hmake (hrun l i) (newO 4 0 ByteArray.empty [])) (hmakeV (hrun l i) 4) other (numV 5)) (hmakeV (hrun l i) 4) k v) (hmakeV (hrun l i) 4) k).q), .string ((hgetV (hset (hset (hmake (hrun l i) (newO 4 0 ByteArray.empty [])) (hmakeV (hrun l i) 4) other (numV 5)) (hmakeV (hrun l i) 4) k v) (hmakeV (hrun l i) 4) k).str), .int .i64 ((hgetV (hset (hset (hmake (hrun l i) (newO 4 0 ByteArray.empty [])) (hmakeV (hrun l i) 4) other (numV 5)) (hmakeV (hrun l i) 4) k v) (hmakeV (hrun l i) 4) k).ref)] ?_
      refine sp (.int .i64 (hgetE (hset (hset (hmake (hrun l i) (newO 4 0 ByteArray.empty [])) (hmakeV (hrun l i) 4) other (numV 5)) (hmakeV (hrun l i) 4) k v) (hmakeV (hrun l i) 4))) ?_
      refine s_nr ?_
      refine sp (pB hb12 0) ?_
      refine s_lt (t_loadA 3 #[.int .i64 ((hmakeV (hrun l i) 4).kind), .int .i64 ((hmakeV (hrun l i) 4).p), .int .i64 ((hmakeV (hrun l i) 4).q), .string ((hmakeV (hrun l i) 4).str), .int .i64 ((hmakeV (hrun l i) 4).ref)]) ?_
      refine s_lt (t_loadA 5 #[.int .i64 other.kind, .int .i64 other.p, .int .i64 other.q, .string other.str, .int .i64 other.ref]) ?_
      refine s_call [1] (hget_s (st := (hset (hset (hmake (hrun l i) (newO 4 0 ByteArray.empty [])) (hmakeV (hrun l i) 4) other (numV 5)) (hmakeV (hrun l i) 4) k v)) hs28 (by omega) (hmakeV (hrun l i) 4) other) ?_
      rintro _ _ ⟨rfl, rfl⟩
      refine sp (.tuple #[.agg #[.int .i64 ((hgetV (hset (hset (hmake (hrun l i) (newO 4 0 ByteArray.empty [])) (hmakeV (hrun l i) 4) other (numV 5)) (hmakeV (hrun l i) 4) k v) (hmakeV (hrun l i) 4) other).kind), .int .i64 ((hgetV (hset (hset (hmake (hrun l i) (newO 4 0 ByteArray.empty [])) (hmakeV (hrun l i) 4) other (numV 5)) (hmakeV (hrun l i) 4) k v) (hmakeV (hrun l i) 4) other).p), .int .i64 ((hgetV (hset (hset (hmake (hrun l i) (newO 4 0 ByteArray.empty [])) (hmakeV (hrun l i) 4) other (numV 5)) (hmakeV (hrun l i) 4) k v) (hmakeV (hrun l i) 4) other).q), .string ((hgetV (hset (hset (hmake (hrun l i) (newO 4 0 ByteArray.empty [])) (hmakeV (hrun l i) 4) other (numV 5)) (hmakeV (hrun l i) 4) k v) (hmakeV (hrun l i) 4) other).str), .int .i64 ((hgetV (hset (hset (hmake (hrun l i) (newO 4 0 ByteArray.empty [])) (hmakeV (hrun l i) 4) other (numV 5)) (hmakeV (hrun l i) 4) k v) (hmakeV (hrun l i) 4) other).ref)], .int .i64 (hgetE (hset (hset (hmake (hrun l i) (newO 4 0 ByteArray.empty [])) (hmakeV (hrun l i) 4) other (numV 5)) (hmakeV (hrun l i) 4) k v) (hmakeV (hrun l i) 4))]) ?_
      refine sp (.agg #[.int .i64 ((hgetV (hset (hset (hmake (hrun l i) (newO 4 0 ByteArray.empty [])) (hmakeV (hrun l i) 4) other (numV 5)) (hmakeV (hrun l i) 4) k v) (hmakeV (hrun l i) 4) other).kind), .int .i64 ((hgetV (hset (hset (hmake (hrun l i) (newO 4 0 ByteArray.empty [])) (hmakeV (hrun l i) 4) other (numV 5)) (hmakeV (hrun l i) 4) k v) (hmakeV (hrun l i) 4) other).p), .int .i64 ((hgetV (hset (hset (hmake (hrun l i) (newO 4 0 ByteArray.empty [])) (hmakeV (hrun l i) 4) other (numV 5)) (hmakeV (hrun l i) 4) k v) (hmakeV (hrun l i) 4) other).q), .string ((hgetV (hset (hset (hmake (hrun l i) (newO 4 0 ByteArray.empty [])) (hmakeV (hrun l i) 4) other (numV 5)) (hmakeV (hrun l i) 4) k v) (hmakeV (hrun l i) 4) other).str), .int .i64 ((hgetV (hset (hset (hmake (hrun l i) (newO 4 0 ByteArray.empty [])) (hmakeV (hrun l i) 4) other (numV 5)) (hmakeV (hrun l i) 4) k v) (hmakeV (hrun l i) 4) other).ref)]) ?_
      refine sp (.int .i64 (hgetE (hset (hset (hmake (hrun l i) (newO 4 0 ByteArray.empty [])) (hmakeV (hrun l i) 4) other (numV 5)) (hmakeV (hrun l i) 4) k v) (hmakeV (hrun l i) 4))) ?_
      refine s_alloc (.agg #[.int .i64 0, .int .i64 0, .int .i64 0, .string ByteArray.empty, .int .i64 0]) #[.int .i64 0, .int .i64 0, .int .i64 0, .string ByteArray.empty, .int .i64 0] (fun g40 => ?_)
      refine s_store 0 #[.int .i64 ((hgetV (hset (hset (hmake (hrun l i) (newO 4 0 ByteArray.empty [])) (hmakeV (hrun l i) 4) other (numV 5)) (hmakeV (hrun l i) 4) k v) (hmakeV (hrun l i) 4) other).kind), .int .i64 ((hgetV (hset (hset (hmake (hrun l i) (newO 4 0 ByteArray.empty [])) (hmakeV (hrun l i) 4) other (numV 5)) (hmakeV (hrun l i) 4) k v) (hmakeV (hrun l i) 4) other).p), .int .i64 ((hgetV (hset (hset (hmake (hrun l i) (newO 4 0 ByteArray.empty [])) (hmakeV (hrun l i) 4) other (numV 5)) (hmakeV (hrun l i) 4) k v) (hmakeV (hrun l i) 4) other).q), .string ((hgetV (hset (hset (hmake (hrun l i) (newO 4 0 ByteArray.empty [])) (hmakeV (hrun l i) 4) other (numV 5)) (hmakeV (hrun l i) 4) k v) (hmakeV (hrun l i) 4) other).str), .int .i64 ((hgetV (hset (hset (hmake (hrun l i) (newO 4 0 ByteArray.empty [])) (hmakeV (hrun l i) 4) other (numV 5)) (hmakeV (hrun l i) 4) k v) (hmakeV (hrun l i) 4) other).ref)] ?_
      refine sp (.int .i64 (hgetE (hset (hset (hmake (hrun l i) (newO 4 0 ByteArray.empty [])) (hmakeV (hrun l i) 4) other (numV 5)) (hmakeV (hrun l i) 4) k v) (hmakeV (hrun l i) 4))) ?_
      refine s_nt ?_
      refine k_seq ?_
      refine k_sr ?_
      refine sp (.int .i64 (hsetE (hset (hmake (hrun l i) (newO 4 0 ByteArray.empty [])) (hmakeV (hrun l i) 4) other (numV 5)) (hmakeV (hrun l i) 4) k v)) ?_
      refine s_lt (Lt.to t_cmp (congrArg Value.bool (decide_eq_false (fun h => hok ((kt1.setE k v).1 h)) : (decide ((hsetE (hset (hmake (hrun l i) (newO 4 0 ByteArray.empty [])) (hmakeV (hrun l i) 4) other (numV 5)) (hmakeV (hrun l i) 4) k v) = 0)) = false))) ?_
      refine sp (.bool false) ?_
      refine s_skip ?_
      refine s_skip ?_
      refine s_skip ?_
      refine sp (.bool false) ?_
      refine sp (.bool false) ?_
      refine s_lt (t_loadA 8 #[.int .i64 k.kind, .int .i64 k.p, .int .i64 k.q, .string k.str, .int .i64 k.ref]) ?_
      refine s_lt (t_loadA 6 #[.int .i64 other.kind, .int .i64 other.p, .int .i64 other.q, .string other.str, .int .i64 other.ref]) ?_
      refine s_lt (Lt.to (t_eqS (fun w => (eqVlT k other w).2)) (congrArg Value.bool ((congrArg Bool.not (decide_eq_false hko : (decide (k = other)) = false)).trans rfl : (!(decide (k = other))) = true))) ?_
      refine sp (.bool true) ?_
      refine s_lt (t_loadA 0 #[.int .i64 ((hgetV (hset (hset (hmake (hrun l i) (newO 4 0 ByteArray.empty [])) (hmakeV (hrun l i) 4) other (numV 5)) (hmakeV (hrun l i) 4) k v) (hmakeV (hrun l i) 4) other).kind), .int .i64 ((hgetV (hset (hset (hmake (hrun l i) (newO 4 0 ByteArray.empty [])) (hmakeV (hrun l i) 4) other (numV 5)) (hmakeV (hrun l i) 4) k v) (hmakeV (hrun l i) 4) other).p), .int .i64 ((hgetV (hset (hset (hmake (hrun l i) (newO 4 0 ByteArray.empty [])) (hmakeV (hrun l i) 4) other (numV 5)) (hmakeV (hrun l i) 4) k v) (hmakeV (hrun l i) 4) other).q), .string ((hgetV (hset (hset (hmake (hrun l i) (newO 4 0 ByteArray.empty [])) (hmakeV (hrun l i) 4) other (numV 5)) (hmakeV (hrun l i) 4) k v) (hmakeV (hrun l i) 4) other).str), .int .i64 ((hgetV (hset (hset (hmake (hrun l i) (newO 4 0 ByteArray.empty [])) (hmakeV (hrun l i) 4) other (numV 5)) (hmakeV (hrun l i) 4) k v) (hmakeV (hrun l i) 4) other).ref)]) ?_
      refine s_lt (t_loadA 3 #[.int .i64 ((hgetV (hset (hmake (hrun l i) (newO 4 0 ByteArray.empty [])) (hmakeV (hrun l i) 4) other (numV 5)) (hmakeV (hrun l i) 4) other).kind), .int .i64 ((hgetV (hset (hmake (hrun l i) (newO 4 0 ByteArray.empty [])) (hmakeV (hrun l i) 4) other (numV 5)) (hmakeV (hrun l i) 4) other).p), .int .i64 ((hgetV (hset (hmake (hrun l i) (newO 4 0 ByteArray.empty [])) (hmakeV (hrun l i) 4) other (numV 5)) (hmakeV (hrun l i) 4) other).q), .string ((hgetV (hset (hmake (hrun l i) (newO 4 0 ByteArray.empty [])) (hmakeV (hrun l i) 4) other (numV 5)) (hmakeV (hrun l i) 4) other).str), .int .i64 ((hgetV (hset (hmake (hrun l i) (newO 4 0 ByteArray.empty [])) (hmakeV (hrun l i) 4) other (numV 5)) (hmakeV (hrun l i) 4) other).ref)]) ?_
      refine s_lt (Lt.to (t_eqS (fun w => (eqVlT (hgetV (hset (hset (hmake (hrun l i) (newO 4 0 ByteArray.empty [])) (hmakeV (hrun l i) 4) other (numV 5)) (hmakeV (hrun l i) 4) k v) (hmakeV (hrun l i) 4) other) (hgetV (hset (hmake (hrun l i) (newO 4 0 ByteArray.empty [])) (hmakeV (hrun l i) 4) other (numV 5)) (hmakeV (hrun l i) 4) other) w).2)) (congrArg Value.bool ((congrArg Bool.not (decide_eq_true (kt1.get_bad hok other) : (decide ((hgetV (hset (hset (hmake (hrun l i) (newO 4 0 ByteArray.empty [])) (hmakeV (hrun l i) 4) other (numV 5)) (hmakeV (hrun l i) 4) k v) (hmakeV (hrun l i) 4) other) = (hgetV (hset (hmake (hrun l i) (newO 4 0 ByteArray.empty [])) (hmakeV (hrun l i) 4) other (numV 5)) (hmakeV (hrun l i) 4) other))) = true)).trans rfl : (!(decide ((hgetV (hset (hset (hmake (hrun l i) (newO 4 0 ByteArray.empty [])) (hmakeV (hrun l i) 4) other (numV 5)) (hmakeV (hrun l i) 4) k v) (hmakeV (hrun l i) 4) other) = (hgetV (hset (hmake (hrun l i) (newO 4 0 ByteArray.empty [])) (hmakeV (hrun l i) 4) other (numV 5)) (hmakeV (hrun l i) 4) other)))) = false))) ?_
      refine sp (.bool false) ?_
      refine sp (.bool false) ?_
      refine s_nt ?_
      refine k_false ?_
      refine k_st ?_
      refine k_seq ?_
      refine k_sr ?_
      refine sp (pB hb12 0) ?_
      refine sp (pB g22 4) ?_
      refine s_lt (t_load 4 (.int .i64 ((hmakeV (hrun l i) 4).ref))) ?_
      refine s_call [1] (hdrop_s (st := (hset (hset (hmake (hrun l i) (newO 4 0 ByteArray.empty [])) (hmakeV (hrun l i) 4) other (numV 5)) (hmakeV (hrun l i) 4) k v)) ((hmakeV (hrun l i) 4).ref)) ?_
      rintro _ _ ⟨rfl, rfl⟩
      have hi41 := drop_inv hi27 ((hmakeV (hrun l i) 4).ref)
      have hs42 := drop_sm hs28 ((hmakeV (hrun l i) 4).ref)
      have hw43 := drop_w hw29 ((hmakeV (hrun l i) 4).ref)
      refine s_lt (Lt.to t_cmp (congrArg Value.bool (decide_eq_false (fun h => h kt3.dropE) : (decide ((hdropE (hset (hset (hmake (hrun l i) (newO 4 0 ByteArray.empty [])) (hmakeV (hrun l i) 4) other (numV 5)) (hmakeV (hrun l i) 4) k v) ((hmakeV (hrun l i) 4).ref)) ≠ 0)) = false))) ?_
      refine s_nt ?_
      refine k_false ?_
      refine k_st ?_
      refine k_sr ?_
      refine sp (pB hb12 0) ?_
      refine s_lt (t_loadA 4 #[.int .i64 ((hmakeV (hrun l i) 4).kind), .int .i64 ((hmakeV (hrun l i) 4).p), .int .i64 ((hmakeV (hrun l i) 4).q), .string ((hmakeV (hrun l i) 4).str), .int .i64 ((hmakeV (hrun l i) 4).ref)]) ?_
      refine s_lt (t_loadA 8 #[.int .i64 k.kind, .int .i64 k.p, .int .i64 k.q, .string k.str, .int .i64 k.ref]) ?_
      refine s_call [0] (hget_s (st := (hdrop (hset (hset (hmake (hrun l i) (newO 4 0 ByteArray.empty [])) (hmakeV (hrun l i) 4) other (numV 5)) (hmakeV (hrun l i) 4) k v) ((hmakeV (hrun l i) 4).ref))) hs42 (by omega) (hmakeV (hrun l i) 4) k) ?_
      rintro _ _ ⟨rfl, rfl⟩
      refine sp (.tuple #[.agg #[.int .i64 ((hgetV (hdrop (hset (hset (hmake (hrun l i) (newO 4 0 ByteArray.empty [])) (hmakeV (hrun l i) 4) other (numV 5)) (hmakeV (hrun l i) 4) k v) ((hmakeV (hrun l i) 4).ref)) (hmakeV (hrun l i) 4) k).kind), .int .i64 ((hgetV (hdrop (hset (hset (hmake (hrun l i) (newO 4 0 ByteArray.empty [])) (hmakeV (hrun l i) 4) other (numV 5)) (hmakeV (hrun l i) 4) k v) ((hmakeV (hrun l i) 4).ref)) (hmakeV (hrun l i) 4) k).p), .int .i64 ((hgetV (hdrop (hset (hset (hmake (hrun l i) (newO 4 0 ByteArray.empty [])) (hmakeV (hrun l i) 4) other (numV 5)) (hmakeV (hrun l i) 4) k v) ((hmakeV (hrun l i) 4).ref)) (hmakeV (hrun l i) 4) k).q), .string ((hgetV (hdrop (hset (hset (hmake (hrun l i) (newO 4 0 ByteArray.empty [])) (hmakeV (hrun l i) 4) other (numV 5)) (hmakeV (hrun l i) 4) k v) ((hmakeV (hrun l i) 4).ref)) (hmakeV (hrun l i) 4) k).str), .int .i64 ((hgetV (hdrop (hset (hset (hmake (hrun l i) (newO 4 0 ByteArray.empty [])) (hmakeV (hrun l i) 4) other (numV 5)) (hmakeV (hrun l i) 4) k v) ((hmakeV (hrun l i) 4).ref)) (hmakeV (hrun l i) 4) k).ref)], .int .i64 (hgetE (hdrop (hset (hset (hmake (hrun l i) (newO 4 0 ByteArray.empty [])) (hmakeV (hrun l i) 4) other (numV 5)) (hmakeV (hrun l i) 4) k v) ((hmakeV (hrun l i) 4).ref)) (hmakeV (hrun l i) 4))]) ?_
      refine sp (.agg #[.int .i64 ((hgetV (hdrop (hset (hset (hmake (hrun l i) (newO 4 0 ByteArray.empty [])) (hmakeV (hrun l i) 4) other (numV 5)) (hmakeV (hrun l i) 4) k v) ((hmakeV (hrun l i) 4).ref)) (hmakeV (hrun l i) 4) k).kind), .int .i64 ((hgetV (hdrop (hset (hset (hmake (hrun l i) (newO 4 0 ByteArray.empty [])) (hmakeV (hrun l i) 4) other (numV 5)) (hmakeV (hrun l i) 4) k v) ((hmakeV (hrun l i) 4).ref)) (hmakeV (hrun l i) 4) k).p), .int .i64 ((hgetV (hdrop (hset (hset (hmake (hrun l i) (newO 4 0 ByteArray.empty [])) (hmakeV (hrun l i) 4) other (numV 5)) (hmakeV (hrun l i) 4) k v) ((hmakeV (hrun l i) 4).ref)) (hmakeV (hrun l i) 4) k).q), .string ((hgetV (hdrop (hset (hset (hmake (hrun l i) (newO 4 0 ByteArray.empty [])) (hmakeV (hrun l i) 4) other (numV 5)) (hmakeV (hrun l i) 4) k v) ((hmakeV (hrun l i) 4).ref)) (hmakeV (hrun l i) 4) k).str), .int .i64 ((hgetV (hdrop (hset (hset (hmake (hrun l i) (newO 4 0 ByteArray.empty [])) (hmakeV (hrun l i) 4) other (numV 5)) (hmakeV (hrun l i) 4) k v) ((hmakeV (hrun l i) 4).ref)) (hmakeV (hrun l i) 4) k).ref)]) ?_
      refine sp (.int .i64 (hgetE (hdrop (hset (hset (hmake (hrun l i) (newO 4 0 ByteArray.empty [])) (hmakeV (hrun l i) 4) other (numV 5)) (hmakeV (hrun l i) 4) k v) ((hmakeV (hrun l i) 4).ref)) (hmakeV (hrun l i) 4))) ?_
      refine s_alloc (.agg #[.int .i64 0, .int .i64 0, .int .i64 0, .string ByteArray.empty, .int .i64 0]) #[.int .i64 0, .int .i64 0, .int .i64 0, .string ByteArray.empty, .int .i64 0] (fun g44 => ?_)
      refine s_store 0 #[.int .i64 ((hgetV (hdrop (hset (hset (hmake (hrun l i) (newO 4 0 ByteArray.empty [])) (hmakeV (hrun l i) 4) other (numV 5)) (hmakeV (hrun l i) 4) k v) ((hmakeV (hrun l i) 4).ref)) (hmakeV (hrun l i) 4) k).kind), .int .i64 ((hgetV (hdrop (hset (hset (hmake (hrun l i) (newO 4 0 ByteArray.empty [])) (hmakeV (hrun l i) 4) other (numV 5)) (hmakeV (hrun l i) 4) k v) ((hmakeV (hrun l i) 4).ref)) (hmakeV (hrun l i) 4) k).p), .int .i64 ((hgetV (hdrop (hset (hset (hmake (hrun l i) (newO 4 0 ByteArray.empty [])) (hmakeV (hrun l i) 4) other (numV 5)) (hmakeV (hrun l i) 4) k v) ((hmakeV (hrun l i) 4).ref)) (hmakeV (hrun l i) 4) k).q), .string ((hgetV (hdrop (hset (hset (hmake (hrun l i) (newO 4 0 ByteArray.empty [])) (hmakeV (hrun l i) 4) other (numV 5)) (hmakeV (hrun l i) 4) k v) ((hmakeV (hrun l i) 4).ref)) (hmakeV (hrun l i) 4) k).str), .int .i64 ((hgetV (hdrop (hset (hset (hmake (hrun l i) (newO 4 0 ByteArray.empty [])) (hmakeV (hrun l i) 4) other (numV 5)) (hmakeV (hrun l i) 4) k v) ((hmakeV (hrun l i) 4).ref)) (hmakeV (hrun l i) 4) k).ref)] ?_
      refine sp (.int .i64 (hgetE (hdrop (hset (hset (hmake (hrun l i) (newO 4 0 ByteArray.empty [])) (hmakeV (hrun l i) 4) other (numV 5)) (hmakeV (hrun l i) 4) k v) ((hmakeV (hrun l i) 4).ref)) (hmakeV (hrun l i) 4))) ?_
      refine s_nr ?_
      refine sp (.int .i64 (hgetE (hdrop (hset (hset (hmake (hrun l i) (newO 4 0 ByteArray.empty [])) (hmakeV (hrun l i) 4) other (numV 5)) (hmakeV (hrun l i) 4) k v) ((hmakeV (hrun l i) 4).ref)) (hmakeV (hrun l i) 4))) ?_
      refine s_lt (Lt.to t_cmp (congrArg Value.bool (decide_eq_true kt3.gone : (decide ((hgetE (hdrop (hset (hset (hmake (hrun l i) (newO 4 0 ByteArray.empty [])) (hmakeV (hrun l i) 4) other (numV 5)) (hmakeV (hrun l i) 4) k v) ((hmakeV (hrun l i) 4).ref)) (hmakeV (hrun l i) 4)) = 8)) = true))) ?_
      refine sp (.bool true) ?_
      refine sp (pB hb12 0) ?_
      refine sp (pB g22 4) ?_
      refine s_lt (t_load 5 (.int .i64 ((hmakeV (hrun l i) 4).ref))) ?_
      refine s_call [1] (hdrop_s (st := (hdrop (hset (hset (hmake (hrun l i) (newO 4 0 ByteArray.empty [])) (hmakeV (hrun l i) 4) other (numV 5)) (hmakeV (hrun l i) 4) k v) ((hmakeV (hrun l i) 4).ref))) ((hmakeV (hrun l i) 4).ref)) ?_
      rintro _ _ ⟨rfl, rfl⟩
      have hi45 := drop_inv hi41 ((hmakeV (hrun l i) 4).ref)
      have hs46 := drop_sm hs42 ((hmakeV (hrun l i) 4).ref)
      have hw47 := drop_w hw43 ((hmakeV (hrun l i) 4).ref)
      refine s_lt (Lt.to t_cmp (congrArg Value.bool (decide_eq_true kt3.dead : (decide ((hdropE (hdrop (hset (hset (hmake (hrun l i) (newO 4 0 ByteArray.empty [])) (hmakeV (hrun l i) 4) other (numV 5)) (hmakeV (hrun l i) 4) k v) ((hmakeV (hrun l i) 4).ref)) ((hmakeV (hrun l i) 4).ref)) = 19)) = true))) ?_
      refine sp (.bool true) ?_
      refine sp (.bool true) ?_
      refine s_vcall (fun _ h => awake_s) ?_
      rintro _ rfl
      refine sp (.bool true) ?_
      refine sp (.bool true) ?_
      refine s_nt ?_
      refine k_ret ?_
      exact xs_fin [.bool true] [] (SI.tmp 8 SI.nil) (fun _ h => h.re [] [0, 0, 0, 0, 0, 0, 0, 0, 0, 0]) ⟨rfl, rfl⟩
    ·
     rcases hvk : validB k with _ | _
     ·
      have hok : ¬ (okKey k = true ∧ validB v = true) := by rintro ⟨h1, _⟩; rw [(okKey_iff.1 h1).1] at hvk; cases hvk
      by_cases hko : k = other
      ·
       refine k_sr ?_
       refine sp (.int .i64 (hsetE (hset (hmake (hrun l i) (newO 4 0 ByteArray.empty [])) (hmakeV (hrun l i) 4) other (numV 5)) (hmakeV (hrun l i) 4) k v)) ?_
       refine s_lt (Lt.to t_cmp (congrArg Value.bool (decide_eq_false (fun h => hok ((kt1.setE k v).1 h)) : (decide ((hsetE (hset (hmake (hrun l i) (newO 4 0 ByteArray.empty [])) (hmakeV (hrun l i) 4) other (numV 5)) (hmakeV (hrun l i) 4) k v) = 0)) = false))) ?_
       refine sp (pB g1 0) ?_
       refine s_lt (t_load 6 (.int .i64 k.kind)) ?_
       refine s_lt (Lt.to t_cmp (congrArg Value.bool (decide_eq_true hk0 : (decide (k.kind ≠ 0)) = true))) ?_
       refine sp (.bool true) ?_
       refine s_lt (t_loadA 6 #[.int .i64 k.kind, .int .i64 k.p, .int .i64 k.q, .string k.str, .int .i64 k.ref]) ?_
       refine s_vcall (fun _ h => rvalid_s k) ?_
       rintro u49 e48
       obtain rfl : u49 = .bool false := e48.trans (congrArg Value.bool (hvk))
       refine sp (.bool false) ?_
       refine sp (.bool false) ?_
       refine s_skip ?_
       refine s_skip ?_
       refine sp (.bool false) ?_
       refine sp (.bool false) ?_
       refine s_nt ?_
       refine k_false ?_
       refine k_st ?_
       refine k_sr ?_
       refine sp (pB hb12 0) ?_
       refine s_lt (t_loadA 2 #[.int .i64 ((hmakeV (hrun l i) 4).kind), .int .i64 ((hmakeV (hrun l i) 4).p), .int .i64 ((hmakeV (hrun l i) 4).q), .string ((hmakeV (hrun l i) 4).str), .int .i64 ((hmakeV (hrun l i) 4).ref)]) ?_
       refine s_lt (t_loadA 6 #[.int .i64 k.kind, .int .i64 k.p, .int .i64 k.q, .string k.str, .int .i64 k.ref]) ?_
       refine s_call [0] (hget_s (st := (hset (hset (hmake (hrun l i) (newO 4 0 ByteArray.empty [])) (hmakeV (hrun l i) 4) other (numV 5)) (hmakeV (hrun l i) 4) k v)) hs28 (by omega) (hmakeV (hrun l i) 4) k) ?_
       rintro _ _ ⟨rfl, rfl⟩
       refine sp (.tuple #[.agg #[.int .i64 ((hgetV (hset (hset (hmake (hrun l i) (newO 4 0 ByteArray.empty [])) (hmakeV (hrun l i) 4) other (numV 5)) (hmakeV (hrun l i) 4) k v) (hmakeV (hrun l i) 4) k).kind), .int .i64 ((hgetV (hset (hset (hmake (hrun l i) (newO 4 0 ByteArray.empty [])) (hmakeV (hrun l i) 4) other (numV 5)) (hmakeV (hrun l i) 4) k v) (hmakeV (hrun l i) 4) k).p), .int .i64 ((hgetV (hset (hset (hmake (hrun l i) (newO 4 0 ByteArray.empty [])) (hmakeV (hrun l i) 4) other (numV 5)) (hmakeV (hrun l i) 4) k v) (hmakeV (hrun l i) 4) k).q), .string ((hgetV (hset (hset (hmake (hrun l i) (newO 4 0 ByteArray.empty [])) (hmakeV (hrun l i) 4) other (numV 5)) (hmakeV (hrun l i) 4) k v) (hmakeV (hrun l i) 4) k).str), .int .i64 ((hgetV (hset (hset (hmake (hrun l i) (newO 4 0 ByteArray.empty [])) (hmakeV (hrun l i) 4) other (numV 5)) (hmakeV (hrun l i) 4) k v) (hmakeV (hrun l i) 4) k).ref)], .int .i64 (hgetE (hset (hset (hmake (hrun l i) (newO 4 0 ByteArray.empty [])) (hmakeV (hrun l i) 4) other (numV 5)) (hmakeV (hrun l i) 4) k v) (hmakeV (hrun l i) 4))]) ?_
       refine sp (.agg #[.int .i64 ((hgetV (hset (hset (hmake (hrun l i) (newO 4 0 ByteArray.empty [])) (hmakeV (hrun l i) 4) other (numV 5)) (hmakeV (hrun l i) 4) k v) (hmakeV (hrun l i) 4) k).kind), .int .i64 ((hgetV (hset (hset (hmake (hrun l i) (newO 4 0 ByteArray.empty [])) (hmakeV (hrun l i) 4) other (numV 5)) (hmakeV (hrun l i) 4) k v) (hmakeV (hrun l i) 4) k).p), .int .i64 ((hgetV (hset (hset (hmake (hrun l i) (newO 4 0 ByteArray.empty [])) (hmakeV (hrun l i) 4) other (numV 5)) (hmakeV (hrun l i) 4) k v) (hmakeV (hrun l i) 4) k).q), .string ((hgetV (hset (hset (hmake (hrun l i) (newO 4 0 ByteArray.empty [])) (hmakeV (hrun l i) 4) other (numV 5)) (hmakeV (hrun l i) 4) k v) (hmakeV (hrun l i) 4) k).str), .int .i64 ((hgetV (hset (hset (hmake (hrun l i) (newO 4 0 ByteArray.empty [])) (hmakeV (hrun l i) 4) other (numV 5)) (hmakeV (hrun l i) 4) k v) (hmakeV (hrun l i) 4) k).ref)]) ?_
       refine sp (.int .i64 (hgetE (hset (hset (hmake (hrun l i) (newO 4 0 ByteArray.empty [])) (hmakeV (hrun l i) 4) other (numV 5)) (hmakeV (hrun l i) 4) k v) (hmakeV (hrun l i) 4))) ?_
       refine s_alloc (.agg #[.int .i64 0, .int .i64 0, .int .i64 0, .string ByteArray.empty, .int .i64 0]) #[.int .i64 0, .int .i64 0, .int .i64 0, .string ByteArray.empty, .int .i64 0] (fun g50 => ?_)
       refine s_store 0 #[.int .i64 ((hgetV (hset (hset (hmake (hrun l i) (newO 4 0 ByteArray.empty [])) (hmakeV (hrun l i) 4) other (numV 5)) (hmakeV (hrun l i) 4) k v) (hmakeV (hrun l i) 4) k).kind), .int .i64 ((hgetV (hset (hset (hmake (hrun l i) (newO 4 0 ByteArray.empty [])) (hmakeV (hrun l i) 4) other (numV 5)) (hmakeV (hrun l i) 4) k v) (hmakeV (hrun l i) 4) k).p), .int .i64 ((hgetV (hset (hset (hmake (hrun l i) (newO 4 0 ByteArray.empty [])) (hmakeV (hrun l i) 4) other (numV 5)) (hmakeV (hrun l i) 4) k v) (hmakeV (hrun l i) 4) k).q), .string ((hgetV (hset (hset (hmake (hrun l i) (newO 4 0 ByteArray.empty [])) (hmakeV (hrun l i) 4) other (numV 5)) (hmakeV (hrun l i) 4) k v) (hmakeV (hrun l i) 4) k).str), .int .i64 ((hgetV (hset (hset (hmake (hrun l i) (newO 4 0 ByteArray.empty [])) (hmakeV (hrun l i) 4) other (numV 5)) (hmakeV (hrun l i) 4) k v) (hmakeV (hrun l i) 4) k).ref)] ?_
       refine sp (.int .i64 (hgetE (hset (hset (hmake (hrun l i) (newO 4 0 ByteArray.empty [])) (hmakeV (hrun l i) 4) other (numV 5)) (hmakeV (hrun l i) 4) k v) (hmakeV (hrun l i) 4))) ?_
       refine s_nr ?_
       refine sp (pB hb12 0) ?_
       refine s_lt (t_loadA 3 #[.int .i64 ((hmakeV (hrun l i) 4).kind), .int .i64 ((hmakeV (hrun l i) 4).p), .int .i64 ((hmakeV (hrun l i) 4).q), .string ((hmakeV (hrun l i) 4).str), .int .i64 ((hmakeV (hrun l i) 4).ref)]) ?_
       refine s_lt (t_loadA 5 #[.int .i64 other.kind, .int .i64 other.p, .int .i64 other.q, .string other.str, .int .i64 other.ref]) ?_
       refine s_call [1] (hget_s (st := (hset (hset (hmake (hrun l i) (newO 4 0 ByteArray.empty [])) (hmakeV (hrun l i) 4) other (numV 5)) (hmakeV (hrun l i) 4) k v)) hs28 (by omega) (hmakeV (hrun l i) 4) other) ?_
       rintro _ _ ⟨rfl, rfl⟩
       refine sp (.tuple #[.agg #[.int .i64 ((hgetV (hset (hset (hmake (hrun l i) (newO 4 0 ByteArray.empty [])) (hmakeV (hrun l i) 4) other (numV 5)) (hmakeV (hrun l i) 4) k v) (hmakeV (hrun l i) 4) other).kind), .int .i64 ((hgetV (hset (hset (hmake (hrun l i) (newO 4 0 ByteArray.empty [])) (hmakeV (hrun l i) 4) other (numV 5)) (hmakeV (hrun l i) 4) k v) (hmakeV (hrun l i) 4) other).p), .int .i64 ((hgetV (hset (hset (hmake (hrun l i) (newO 4 0 ByteArray.empty [])) (hmakeV (hrun l i) 4) other (numV 5)) (hmakeV (hrun l i) 4) k v) (hmakeV (hrun l i) 4) other).q), .string ((hgetV (hset (hset (hmake (hrun l i) (newO 4 0 ByteArray.empty [])) (hmakeV (hrun l i) 4) other (numV 5)) (hmakeV (hrun l i) 4) k v) (hmakeV (hrun l i) 4) other).str), .int .i64 ((hgetV (hset (hset (hmake (hrun l i) (newO 4 0 ByteArray.empty [])) (hmakeV (hrun l i) 4) other (numV 5)) (hmakeV (hrun l i) 4) k v) (hmakeV (hrun l i) 4) other).ref)], .int .i64 (hgetE (hset (hset (hmake (hrun l i) (newO 4 0 ByteArray.empty [])) (hmakeV (hrun l i) 4) other (numV 5)) (hmakeV (hrun l i) 4) k v) (hmakeV (hrun l i) 4))]) ?_
       refine sp (.agg #[.int .i64 ((hgetV (hset (hset (hmake (hrun l i) (newO 4 0 ByteArray.empty [])) (hmakeV (hrun l i) 4) other (numV 5)) (hmakeV (hrun l i) 4) k v) (hmakeV (hrun l i) 4) other).kind), .int .i64 ((hgetV (hset (hset (hmake (hrun l i) (newO 4 0 ByteArray.empty [])) (hmakeV (hrun l i) 4) other (numV 5)) (hmakeV (hrun l i) 4) k v) (hmakeV (hrun l i) 4) other).p), .int .i64 ((hgetV (hset (hset (hmake (hrun l i) (newO 4 0 ByteArray.empty [])) (hmakeV (hrun l i) 4) other (numV 5)) (hmakeV (hrun l i) 4) k v) (hmakeV (hrun l i) 4) other).q), .string ((hgetV (hset (hset (hmake (hrun l i) (newO 4 0 ByteArray.empty [])) (hmakeV (hrun l i) 4) other (numV 5)) (hmakeV (hrun l i) 4) k v) (hmakeV (hrun l i) 4) other).str), .int .i64 ((hgetV (hset (hset (hmake (hrun l i) (newO 4 0 ByteArray.empty [])) (hmakeV (hrun l i) 4) other (numV 5)) (hmakeV (hrun l i) 4) k v) (hmakeV (hrun l i) 4) other).ref)]) ?_
       refine sp (.int .i64 (hgetE (hset (hset (hmake (hrun l i) (newO 4 0 ByteArray.empty [])) (hmakeV (hrun l i) 4) other (numV 5)) (hmakeV (hrun l i) 4) k v) (hmakeV (hrun l i) 4))) ?_
       refine s_alloc (.agg #[.int .i64 0, .int .i64 0, .int .i64 0, .string ByteArray.empty, .int .i64 0]) #[.int .i64 0, .int .i64 0, .int .i64 0, .string ByteArray.empty, .int .i64 0] (fun g51 => ?_)
       refine s_store 0 #[.int .i64 ((hgetV (hset (hset (hmake (hrun l i) (newO 4 0 ByteArray.empty [])) (hmakeV (hrun l i) 4) other (numV 5)) (hmakeV (hrun l i) 4) k v) (hmakeV (hrun l i) 4) other).kind), .int .i64 ((hgetV (hset (hset (hmake (hrun l i) (newO 4 0 ByteArray.empty [])) (hmakeV (hrun l i) 4) other (numV 5)) (hmakeV (hrun l i) 4) k v) (hmakeV (hrun l i) 4) other).p), .int .i64 ((hgetV (hset (hset (hmake (hrun l i) (newO 4 0 ByteArray.empty [])) (hmakeV (hrun l i) 4) other (numV 5)) (hmakeV (hrun l i) 4) k v) (hmakeV (hrun l i) 4) other).q), .string ((hgetV (hset (hset (hmake (hrun l i) (newO 4 0 ByteArray.empty [])) (hmakeV (hrun l i) 4) other (numV 5)) (hmakeV (hrun l i) 4) k v) (hmakeV (hrun l i) 4) other).str), .int .i64 ((hgetV (hset (hset (hmake (hrun l i) (newO 4 0 ByteArray.empty [])) (hmakeV (hrun l i) 4) other (numV 5)) (hmakeV (hrun l i) 4) k v) (hmakeV (hrun l i) 4) other).ref)] ?_
       refine sp (.int .i64 (hgetE (hset (hset (hmake (hrun l i) (newO 4 0 ByteArray.empty [])) (hmakeV (hrun l i) 4) other (numV 5)) (hmakeV (hrun l i) 4) k v) (hmakeV (hrun l i) 4))) ?_
       refine s_nt ?_
       refine k_seq ?_
       refine k_sr ?_
       refine sp (.int .i64 (hsetE (hset (hmake (hrun l i) (newO 4 0 ByteArray.empty [])) (hmakeV (hrun l i) 4) other (numV 5)) (hmakeV (hrun l i) 4) k v)) ?_
       refine s_lt (Lt.to t_cmp (congrArg Value.bool (decide_eq_false (fun h => hok ((kt1.setE k v).1 h)) : (decide ((hsetE (hset (hmake (hrun l i) (newO 4 0 ByteArray.empty [])) (hmakeV (hrun l i) 4) other (numV 5)) (hmakeV (hrun l i) 4) k v) = 0)) = false))) ?_
       refine sp (.bool false) ?_
       refine s_skip ?_
       refine s_skip ?_
       refine s_skip ?_
       refine sp (.bool false) ?_
       refine sp (.bool false) ?_
       refine s_lt (t_loadA 8 #[.int .i64 k.kind, .int .i64 k.p, .int .i64 k.q, .string k.str, .int .i64 k.ref]) ?_
       refine s_lt (t_loadA 6 #[.int .i64 other.kind, .int .i64 other.p, .int .i64 other.q, .string other.str, .int .i64 other.ref]) ?_
       refine s_lt (Lt.to (t_eqS (fun w => (eqVlT k other w).2)) (congrArg Value.bool ((congrArg Bool.not (decide_eq_true hko : (decide (k = other)) = true)).trans rfl : (!(decide (k = other))) = false))) ?_
       refine sp (.bool false) ?_
       refine s_skip ?_
       refine s_skip ?_
       refine s_skip ?_
       refine sp (.bool false) ?_
       refine sp (.bool false) ?_
       refine s_nt ?_
       refine k_false ?_
       refine k_st ?_
       refine k_seq ?_
       refine k_sr ?_
       refine sp (pB hb12 0) ?_
       refine sp (pB g22 4) ?_
       refine s_lt (t_load 4 (.int .i64 ((hmakeV (hrun l i) 4).ref))) ?_
       refine s_call [1] (hdrop_s (st := (hset (hset (hmake (hrun l i) (newO 4 0 ByteArray.empty [])) (hmakeV (hrun l i) 4) other (numV 5)) (hmakeV (hrun l i) 4) k v)) ((hmakeV (hrun l i) 4).ref)) ?_
       rintro _ _ ⟨rfl, rfl⟩
       have hi52 := drop_inv hi27 ((hmakeV (hrun l i) 4).ref)
       have hs53 := drop_sm hs28 ((hmakeV (hrun l i) 4).ref)
       have hw54 := drop_w hw29 ((hmakeV (hrun l i) 4).ref)
       refine s_lt (Lt.to t_cmp (congrArg Value.bool (decide_eq_false (fun h => h kt3.dropE) : (decide ((hdropE (hset (hset (hmake (hrun l i) (newO 4 0 ByteArray.empty [])) (hmakeV (hrun l i) 4) other (numV 5)) (hmakeV (hrun l i) 4) k v) ((hmakeV (hrun l i) 4).ref)) ≠ 0)) = false))) ?_
       refine s_nt ?_
       refine k_false ?_
       refine k_st ?_
       refine k_sr ?_
       refine sp (pB hb12 0) ?_
       refine s_lt (t_loadA 4 #[.int .i64 ((hmakeV (hrun l i) 4).kind), .int .i64 ((hmakeV (hrun l i) 4).p), .int .i64 ((hmakeV (hrun l i) 4).q), .string ((hmakeV (hrun l i) 4).str), .int .i64 ((hmakeV (hrun l i) 4).ref)]) ?_
       refine s_lt (t_loadA 8 #[.int .i64 k.kind, .int .i64 k.p, .int .i64 k.q, .string k.str, .int .i64 k.ref]) ?_
       refine s_call [0] (hget_s (st := (hdrop (hset (hset (hmake (hrun l i) (newO 4 0 ByteArray.empty [])) (hmakeV (hrun l i) 4) other (numV 5)) (hmakeV (hrun l i) 4) k v) ((hmakeV (hrun l i) 4).ref))) hs53 (by omega) (hmakeV (hrun l i) 4) k) ?_
       rintro _ _ ⟨rfl, rfl⟩
       refine sp (.tuple #[.agg #[.int .i64 ((hgetV (hdrop (hset (hset (hmake (hrun l i) (newO 4 0 ByteArray.empty [])) (hmakeV (hrun l i) 4) other (numV 5)) (hmakeV (hrun l i) 4) k v) ((hmakeV (hrun l i) 4).ref)) (hmakeV (hrun l i) 4) k).kind), .int .i64 ((hgetV (hdrop (hset (hset (hmake (hrun l i) (newO 4 0 ByteArray.empty [])) (hmakeV (hrun l i) 4) other (numV 5)) (hmakeV (hrun l i) 4) k v) ((hmakeV (hrun l i) 4).ref)) (hmakeV (hrun l i) 4) k).p), .int .i64 ((hgetV (hdrop (hset (hset (hmake (hrun l i) (newO 4 0 ByteArray.empty [])) (hmakeV (hrun l i) 4) other (numV 5)) (hmakeV (hrun l i) 4) k v) ((hmakeV (hrun l i) 4).ref)) (hmakeV (hrun l i) 4) k).q), .string ((hgetV (hdrop (hset (hset (hmake (hrun l i) (newO 4 0 ByteArray.empty [])) (hmakeV (hrun l i) 4) other (numV 5)) (hmakeV (hrun l i) 4) k v) ((hmakeV (hrun l i) 4).ref)) (hmakeV (hrun l i) 4) k).str), .int .i64 ((hgetV (hdrop (hset (hset (hmake (hrun l i) (newO 4 0 ByteArray.empty [])) (hmakeV (hrun l i) 4) other (numV 5)) (hmakeV (hrun l i) 4) k v) ((hmakeV (hrun l i) 4).ref)) (hmakeV (hrun l i) 4) k).ref)], .int .i64 (hgetE (hdrop (hset (hset (hmake (hrun l i) (newO 4 0 ByteArray.empty [])) (hmakeV (hrun l i) 4) other (numV 5)) (hmakeV (hrun l i) 4) k v) ((hmakeV (hrun l i) 4).ref)) (hmakeV (hrun l i) 4))]) ?_
       refine sp (.agg #[.int .i64 ((hgetV (hdrop (hset (hset (hmake (hrun l i) (newO 4 0 ByteArray.empty [])) (hmakeV (hrun l i) 4) other (numV 5)) (hmakeV (hrun l i) 4) k v) ((hmakeV (hrun l i) 4).ref)) (hmakeV (hrun l i) 4) k).kind), .int .i64 ((hgetV (hdrop (hset (hset (hmake (hrun l i) (newO 4 0 ByteArray.empty [])) (hmakeV (hrun l i) 4) other (numV 5)) (hmakeV (hrun l i) 4) k v) ((hmakeV (hrun l i) 4).ref)) (hmakeV (hrun l i) 4) k).p), .int .i64 ((hgetV (hdrop (hset (hset (hmake (hrun l i) (newO 4 0 ByteArray.empty [])) (hmakeV (hrun l i) 4) other (numV 5)) (hmakeV (hrun l i) 4) k v) ((hmakeV (hrun l i) 4).ref)) (hmakeV (hrun l i) 4) k).q), .string ((hgetV (hdrop (hset (hset (hmake (hrun l i) (newO 4 0 ByteArray.empty [])) (hmakeV (hrun l i) 4) other (numV 5)) (hmakeV (hrun l i) 4) k v) ((hmakeV (hrun l i) 4).ref)) (hmakeV (hrun l i) 4) k).str), .int .i64 ((hgetV (hdrop (hset (hset (hmake (hrun l i) (newO 4 0 ByteArray.empty [])) (hmakeV (hrun l i) 4) other (numV 5)) (hmakeV (hrun l i) 4) k v) ((hmakeV (hrun l i) 4).ref)) (hmakeV (hrun l i) 4) k).ref)]) ?_
       refine sp (.int .i64 (hgetE (hdrop (hset (hset (hmake (hrun l i) (newO 4 0 ByteArray.empty [])) (hmakeV (hrun l i) 4) other (numV 5)) (hmakeV (hrun l i) 4) k v) ((hmakeV (hrun l i) 4).ref)) (hmakeV (hrun l i) 4))) ?_
       refine s_alloc (.agg #[.int .i64 0, .int .i64 0, .int .i64 0, .string ByteArray.empty, .int .i64 0]) #[.int .i64 0, .int .i64 0, .int .i64 0, .string ByteArray.empty, .int .i64 0] (fun g55 => ?_)
       refine s_store 0 #[.int .i64 ((hgetV (hdrop (hset (hset (hmake (hrun l i) (newO 4 0 ByteArray.empty [])) (hmakeV (hrun l i) 4) other (numV 5)) (hmakeV (hrun l i) 4) k v) ((hmakeV (hrun l i) 4).ref)) (hmakeV (hrun l i) 4) k).kind), .int .i64 ((hgetV (hdrop (hset (hset (hmake (hrun l i) (newO 4 0 ByteArray.empty [])) (hmakeV (hrun l i) 4) other (numV 5)) (hmakeV (hrun l i) 4) k v) ((hmakeV (hrun l i) 4).ref)) (hmakeV (hrun l i) 4) k).p), .int .i64 ((hgetV (hdrop (hset (hset (hmake (hrun l i) (newO 4 0 ByteArray.empty [])) (hmakeV (hrun l i) 4) other (numV 5)) (hmakeV (hrun l i) 4) k v) ((hmakeV (hrun l i) 4).ref)) (hmakeV (hrun l i) 4) k).q), .string ((hgetV (hdrop (hset (hset (hmake (hrun l i) (newO 4 0 ByteArray.empty [])) (hmakeV (hrun l i) 4) other (numV 5)) (hmakeV (hrun l i) 4) k v) ((hmakeV (hrun l i) 4).ref)) (hmakeV (hrun l i) 4) k).str), .int .i64 ((hgetV (hdrop (hset (hset (hmake (hrun l i) (newO 4 0 ByteArray.empty [])) (hmakeV (hrun l i) 4) other (numV 5)) (hmakeV (hrun l i) 4) k v) ((hmakeV (hrun l i) 4).ref)) (hmakeV (hrun l i) 4) k).ref)] ?_
       refine sp (.int .i64 (hgetE (hdrop (hset (hset (hmake (hrun l i) (newO 4 0 ByteArray.empty [])) (hmakeV (hrun l i) 4) other (numV 5)) (hmakeV (hrun l i) 4) k v) ((hmakeV (hrun l i) 4).ref)) (hmakeV (hrun l i) 4))) ?_
       refine s_nr ?_
       refine sp (.int .i64 (hgetE (hdrop (hset (hset (hmake (hrun l i) (newO 4 0 ByteArray.empty [])) (hmakeV (hrun l i) 4) other (numV 5)) (hmakeV (hrun l i) 4) k v) ((hmakeV (hrun l i) 4).ref)) (hmakeV (hrun l i) 4))) ?_
       refine s_lt (Lt.to t_cmp (congrArg Value.bool (decide_eq_true kt3.gone : (decide ((hgetE (hdrop (hset (hset (hmake (hrun l i) (newO 4 0 ByteArray.empty [])) (hmakeV (hrun l i) 4) other (numV 5)) (hmakeV (hrun l i) 4) k v) ((hmakeV (hrun l i) 4).ref)) (hmakeV (hrun l i) 4)) = 8)) = true))) ?_
       refine sp (.bool true) ?_
       refine sp (pB hb12 0) ?_
       refine sp (pB g22 4) ?_
       refine s_lt (t_load 5 (.int .i64 ((hmakeV (hrun l i) 4).ref))) ?_
       refine s_call [1] (hdrop_s (st := (hdrop (hset (hset (hmake (hrun l i) (newO 4 0 ByteArray.empty [])) (hmakeV (hrun l i) 4) other (numV 5)) (hmakeV (hrun l i) 4) k v) ((hmakeV (hrun l i) 4).ref))) ((hmakeV (hrun l i) 4).ref)) ?_
       rintro _ _ ⟨rfl, rfl⟩
       have hi56 := drop_inv hi52 ((hmakeV (hrun l i) 4).ref)
       have hs57 := drop_sm hs53 ((hmakeV (hrun l i) 4).ref)
       have hw58 := drop_w hw54 ((hmakeV (hrun l i) 4).ref)
       refine s_lt (Lt.to t_cmp (congrArg Value.bool (decide_eq_true kt3.dead : (decide ((hdropE (hdrop (hset (hset (hmake (hrun l i) (newO 4 0 ByteArray.empty [])) (hmakeV (hrun l i) 4) other (numV 5)) (hmakeV (hrun l i) 4) k v) ((hmakeV (hrun l i) 4).ref)) ((hmakeV (hrun l i) 4).ref)) = 19)) = true))) ?_
       refine sp (.bool true) ?_
       refine sp (.bool true) ?_
       refine s_vcall (fun _ h => awake_s) ?_
       rintro _ rfl
       refine sp (.bool true) ?_
       refine sp (.bool true) ?_
       refine s_nt ?_
       refine k_ret ?_
       exact xs_fin [.bool true] [] (SI.tmp 8 SI.nil) (fun _ h => h.re [] [0, 0, 0, 0, 0, 0, 0, 0, 0, 0]) ⟨rfl, rfl⟩
      ·
       refine k_sr ?_
       refine sp (.int .i64 (hsetE (hset (hmake (hrun l i) (newO 4 0 ByteArray.empty [])) (hmakeV (hrun l i) 4) other (numV 5)) (hmakeV (hrun l i) 4) k v)) ?_
       refine s_lt (Lt.to t_cmp (congrArg Value.bool (decide_eq_false (fun h => hok ((kt1.setE k v).1 h)) : (decide ((hsetE (hset (hmake (hrun l i) (newO 4 0 ByteArray.empty [])) (hmakeV (hrun l i) 4) other (numV 5)) (hmakeV (hrun l i) 4) k v) = 0)) = false))) ?_
       refine sp (pB g1 0) ?_
       refine s_lt (t_load 6 (.int .i64 k.kind)) ?_
       refine s_lt (Lt.to t_cmp (congrArg Value.bool (decide_eq_true hk0 : (decide (k.kind ≠ 0)) = true))) ?_
       refine sp (.bool true) ?_
       refine s_lt (t_loadA 6 #[.int .i64 k.kind, .int .i64 k.p, .int .i64 k.q, .string k.str, .int .i64 k.ref]) ?_
       refine s_vcall (fun _ h => rvalid_s k) ?_
       rintro u60 e59
       obtain rfl : u60 = .bool false := e59.trans (congrArg Value.bool (hvk))
       refine sp (.bool false) ?_
       refine sp (.bool false) ?_
       refine s_skip ?_
       refine s_skip ?_
       refine sp (.bool false) ?_
       refine sp (.bool false) ?_
       refine s_nt ?_
       refine k_false ?_
       refine k_st ?_
       refine k_sr ?_
       refine sp (pB hb12 0) ?_
       refine s_lt (t_loadA 2 #[.int .i64 ((hmakeV (hrun l i) 4).kind), .int .i64 ((hmakeV (hrun l i) 4).p), .int .i64 ((hmakeV (hrun l i) 4).q), .string ((hmakeV (hrun l i) 4).str), .int .i64 ((hmakeV (hrun l i) 4).ref)]) ?_
       refine s_lt (t_loadA 6 #[.int .i64 k.kind, .int .i64 k.p, .int .i64 k.q, .string k.str, .int .i64 k.ref]) ?_
       refine s_call [0] (hget_s (st := (hset (hset (hmake (hrun l i) (newO 4 0 ByteArray.empty [])) (hmakeV (hrun l i) 4) other (numV 5)) (hmakeV (hrun l i) 4) k v)) hs28 (by omega) (hmakeV (hrun l i) 4) k) ?_
       rintro _ _ ⟨rfl, rfl⟩
       refine sp (.tuple #[.agg #[.int .i64 ((hgetV (hset (hset (hmake (hrun l i) (newO 4 0 ByteArray.empty [])) (hmakeV (hrun l i) 4) other (numV 5)) (hmakeV (hrun l i) 4) k v) (hmakeV (hrun l i) 4) k).kind), .int .i64 ((hgetV (hset (hset (hmake (hrun l i) (newO 4 0 ByteArray.empty [])) (hmakeV (hrun l i) 4) other (numV 5)) (hmakeV (hrun l i) 4) k v) (hmakeV (hrun l i) 4) k).p), .int .i64 ((hgetV (hset (hset (hmake (hrun l i) (newO 4 0 ByteArray.empty [])) (hmakeV (hrun l i) 4) other (numV 5)) (hmakeV (hrun l i) 4) k v) (hmakeV (hrun l i) 4) k).q), .string ((hgetV (hset (hset (hmake (hrun l i) (newO 4 0 ByteArray.empty [])) (hmakeV (hrun l i) 4) other (numV 5)) (hmakeV (hrun l i) 4) k v) (hmakeV (hrun l i) 4) k).str), .int .i64 ((hgetV (hset (hset (hmake (hrun l i) (newO 4 0 ByteArray.empty [])) (hmakeV (hrun l i) 4) other (numV 5)) (hmakeV (hrun l i) 4) k v) (hmakeV (hrun l i) 4) k).ref)], .int .i64 (hgetE (hset (hset (hmake (hrun l i) (newO 4 0 ByteArray.empty [])) (hmakeV (hrun l i) 4) other (numV 5)) (hmakeV (hrun l i) 4) k v) (hmakeV (hrun l i) 4))]) ?_
       refine sp (.agg #[.int .i64 ((hgetV (hset (hset (hmake (hrun l i) (newO 4 0 ByteArray.empty [])) (hmakeV (hrun l i) 4) other (numV 5)) (hmakeV (hrun l i) 4) k v) (hmakeV (hrun l i) 4) k).kind), .int .i64 ((hgetV (hset (hset (hmake (hrun l i) (newO 4 0 ByteArray.empty [])) (hmakeV (hrun l i) 4) other (numV 5)) (hmakeV (hrun l i) 4) k v) (hmakeV (hrun l i) 4) k).p), .int .i64 ((hgetV (hset (hset (hmake (hrun l i) (newO 4 0 ByteArray.empty [])) (hmakeV (hrun l i) 4) other (numV 5)) (hmakeV (hrun l i) 4) k v) (hmakeV (hrun l i) 4) k).q), .string ((hgetV (hset (hset (hmake (hrun l i) (newO 4 0 ByteArray.empty [])) (hmakeV (hrun l i) 4) other (numV 5)) (hmakeV (hrun l i) 4) k v) (hmakeV (hrun l i) 4) k).str), .int .i64 ((hgetV (hset (hset (hmake (hrun l i) (newO 4 0 ByteArray.empty [])) (hmakeV (hrun l i) 4) other (numV 5)) (hmakeV (hrun l i) 4) k v) (hmakeV (hrun l i) 4) k).ref)]) ?_
       refine sp (.int .i64 (hgetE (hset (hset (hmake (hrun l i) (newO 4 0 ByteArray.empty [])) (hmakeV (hrun l i) 4) other (numV 5)) (hmakeV (hrun l i) 4) k v) (hmakeV (hrun l i) 4))) ?_
       refine s_alloc (.agg #[.int .i64 0, .int .i64 0, .int .i64 0, .string ByteArray.empty, .int .i64 0]) #[.int .i64 0, .int .i64 0, .int .i64 0, .string ByteArray.empty, .int .i64 0] (fun g61 => ?_)
       refine s_store 0 #[.int .i64 ((hgetV (hset (hset (hmake (hrun l i) (newO 4 0 ByteArray.empty [])) (hmakeV (hrun l i) 4) other (numV 5)) (hmakeV (hrun l i) 4) k v) (hmakeV (hrun l i) 4) k).kind), .int .i64 ((hgetV (hset (hset (hmake (hrun l i) (newO 4 0 ByteArray.empty [])) (hmakeV (hrun l i) 4) other (numV 5)) (hmakeV (hrun l i) 4) k v) (hmakeV (hrun l i) 4) k).p), .int .i64 ((hgetV (hset (hset (hmake (hrun l i) (newO 4 0 ByteArray.empty [])) (hmakeV (hrun l i) 4) other (numV 5)) (hmakeV (hrun l i) 4) k v) (hmakeV (hrun l i) 4) k).q), .string ((hgetV (hset (hset (hmake (hrun l i) (newO 4 0 ByteArray.empty [])) (hmakeV (hrun l i) 4) other (numV 5)) (hmakeV (hrun l i) 4) k v) (hmakeV (hrun l i) 4) k).str), .int .i64 ((hgetV (hset (hset (hmake (hrun l i) (newO 4 0 ByteArray.empty [])) (hmakeV (hrun l i) 4) other (numV 5)) (hmakeV (hrun l i) 4) k v) (hmakeV (hrun l i) 4) k).ref)] ?_
       refine sp (.int .i64 (hgetE (hset (hset (hmake (hrun l i) (newO 4 0 ByteArray.empty [])) (hmakeV (hrun l i) 4) other (numV 5)) (hmakeV (hrun l i) 4) k v) (hmakeV (hrun l i) 4))) ?_
       refine s_nr ?_
       refine sp (pB hb12 0) ?_
       refine s_lt (t_loadA 3 #[.int .i64 ((hmakeV (hrun l i) 4).kind), .int .i64 ((hmakeV (hrun l i) 4).p), .int .i64 ((hmakeV (hrun l i) 4).q), .string ((hmakeV (hrun l i) 4).str), .int .i64 ((hmakeV (hrun l i) 4).ref)]) ?_
       refine s_lt (t_loadA 5 #[.int .i64 other.kind, .int .i64 other.p, .int .i64 other.q, .string other.str, .int .i64 other.ref]) ?_
       refine s_call [1] (hget_s (st := (hset (hset (hmake (hrun l i) (newO 4 0 ByteArray.empty [])) (hmakeV (hrun l i) 4) other (numV 5)) (hmakeV (hrun l i) 4) k v)) hs28 (by omega) (hmakeV (hrun l i) 4) other) ?_
       rintro _ _ ⟨rfl, rfl⟩
       refine sp (.tuple #[.agg #[.int .i64 ((hgetV (hset (hset (hmake (hrun l i) (newO 4 0 ByteArray.empty [])) (hmakeV (hrun l i) 4) other (numV 5)) (hmakeV (hrun l i) 4) k v) (hmakeV (hrun l i) 4) other).kind), .int .i64 ((hgetV (hset (hset (hmake (hrun l i) (newO 4 0 ByteArray.empty [])) (hmakeV (hrun l i) 4) other (numV 5)) (hmakeV (hrun l i) 4) k v) (hmakeV (hrun l i) 4) other).p), .int .i64 ((hgetV (hset (hset (hmake (hrun l i) (newO 4 0 ByteArray.empty [])) (hmakeV (hrun l i) 4) other (numV 5)) (hmakeV (hrun l i) 4) k v) (hmakeV (hrun l i) 4) other).q), .string ((hgetV (hset (hset (hmake (hrun l i) (newO 4 0 ByteArray.empty [])) (hmakeV (hrun l i) 4) other (numV 5)) (hmakeV (hrun l i) 4) k v) (hmakeV (hrun l i) 4) other).str), .int .i64 ((hgetV (hset (hset (hmake (hrun l i) (newO 4 0 ByteArray.empty [])) (hmakeV (hrun l i) 4) other (numV 5)) (hmakeV (hrun l i) 4) k v) (hmakeV (hrun l i) 4) other).ref)], .int .i64 (hgetE (hset (hset (hmake (hrun l i) (newO 4 0 ByteArray.empty [])) (hmakeV (hrun l i) 4) other (numV 5)) (hmakeV (hrun l i) 4) k v) (hmakeV (hrun l i) 4))]) ?_
       refine sp (.agg #[.int .i64 ((hgetV (hset (hset (hmake (hrun l i) (newO 4 0 ByteArray.empty [])) (hmakeV (hrun l i) 4) other (numV 5)) (hmakeV (hrun l i) 4) k v) (hmakeV (hrun l i) 4) other).kind), .int .i64 ((hgetV (hset (hset (hmake (hrun l i) (newO 4 0 ByteArray.empty [])) (hmakeV (hrun l i) 4) other (numV 5)) (hmakeV (hrun l i) 4) k v) (hmakeV (hrun l i) 4) other).p), .int .i64 ((hgetV (hset (hset (hmake (hrun l i) (newO 4 0 ByteArray.empty [])) (hmakeV (hrun l i) 4) other (numV 5)) (hmakeV (hrun l i) 4) k v) (hmakeV (hrun l i) 4) other).q), .string ((hgetV (hset (hset (hmake (hrun l i) (newO 4 0 ByteArray.empty [])) (hmakeV (hrun l i) 4) other (numV 5)) (hmakeV (hrun l i) 4) k v) (hmakeV (hrun l i) 4) other).str), .int .i64 ((hgetV (hset (hset (hmake (hrun l i) (newO 4 0 ByteArray.empty [])) (hmakeV (hrun l i) 4) other (numV 5)) (hmakeV (hrun l i) 4) k v) (hmakeV (hrun l i) 4) other).ref)]) ?_
       refine sp (.int .i64 (hgetE (hset (hset (hmake (hrun l i) (newO 4 0 ByteArray.empty [])) (hmakeV (hrun l i) 4) other (numV 5)) (hmakeV (hrun l i) 4) k v) (hmakeV (hrun l i) 4))) ?_
       refine s_alloc (.agg #[.int .i64 0, .int .i64 0, .int .i64 0, .string ByteArray.empty, .int .i64 0]) #[.int .i64 0, .int .i64 0, .int .i64 0, .string ByteArray.empty, .int .i64 0] (fun g62 => ?_)
       refine s_store 0 #[.int .i64 ((hgetV (hset (hset (hmake (hrun l i) (newO 4 0 ByteArray.empty [])) (hmakeV (hrun l i) 4) other (numV 5)) (hmakeV (hrun l i) 4) k v) (hmakeV (hrun l i) 4) other).kind), .int .i64 ((hgetV (hset (hset (hmake (hrun l i) (newO 4 0 ByteArray.empty [])) (hmakeV (hrun l i) 4) other (numV 5)) (hmakeV (hrun l i) 4) k v) (hmakeV (hrun l i) 4) other).p), .int .i64 ((hgetV (hset (hset (hmake (hrun l i) (newO 4 0 ByteArray.empty [])) (hmakeV (hrun l i) 4) other (numV 5)) (hmakeV (hrun l i) 4) k v) (hmakeV (hrun l i) 4) other).q), .string ((hgetV (hset (hset (hmake (hrun l i) (newO 4 0 ByteArray.empty [])) (hmakeV (hrun l i) 4) other (numV 5)) (hmakeV (hrun l i) 4) k v) (hmakeV (hrun l i) 4) other).str), .int .i64 ((hgetV (hset (hset (hmake (hrun l i) (newO 4 0 ByteArray.empty [])) (hmakeV (hrun l i) 4) other (numV 5)) (hmakeV (hrun l i) 4) k v) (hmakeV (hrun l i) 4) other).ref)] ?_
       refine sp (.int .i64 (hgetE (hset (hset (hmake (hrun l i) (newO 4 0 ByteArray.empty [])) (hmakeV (hrun l i) 4) other (numV 5)) (hmakeV (hrun l i) 4) k v) (hmakeV (hrun l i) 4))) ?_
       refine s_nt ?_
       refine k_seq ?_
       refine k_sr ?_
       refine sp (.int .i64 (hsetE (hset (hmake (hrun l i) (newO 4 0 ByteArray.empty [])) (hmakeV (hrun l i) 4) other (numV 5)) (hmakeV (hrun l i) 4) k v)) ?_
       refine s_lt (Lt.to t_cmp (congrArg Value.bool (decide_eq_false (fun h => hok ((kt1.setE k v).1 h)) : (decide ((hsetE (hset (hmake (hrun l i) (newO 4 0 ByteArray.empty [])) (hmakeV (hrun l i) 4) other (numV 5)) (hmakeV (hrun l i) 4) k v) = 0)) = false))) ?_
       refine sp (.bool false) ?_
       refine s_skip ?_
       refine s_skip ?_
       refine s_skip ?_
       refine sp (.bool false) ?_
       refine sp (.bool false) ?_
       refine s_lt (t_loadA 8 #[.int .i64 k.kind, .int .i64 k.p, .int .i64 k.q, .string k.str, .int .i64 k.ref]) ?_
       refine s_lt (t_loadA 6 #[.int .i64 other.kind, .int .i64 other.p, .int .i64 other.q, .string other.str, .int .i64 other.ref]) ?_
       refine s_lt (Lt.to (t_eqS (fun w => (eqVlT k other w).2)) (congrArg Value.bool ((congrArg Bool.not (decide_eq_false hko : (decide (k = other)) = false)).trans rfl : (!(decide (k = other))) = true))) ?_
       refine sp (.bool true) ?_
       refine s_lt (t_loadA 0 #[.int .i64 ((hgetV (hset (hset (hmake (hrun l i) (newO 4 0 ByteArray.empty [])) (hmakeV (hrun l i) 4) other (numV 5)) (hmakeV (hrun l i) 4) k v) (hmakeV (hrun l i) 4) other).kind), .int .i64 ((hgetV (hset (hset (hmake (hrun l i) (newO 4 0 ByteArray.empty [])) (hmakeV (hrun l i) 4) other (numV 5)) (hmakeV (hrun l i) 4) k v) (hmakeV (hrun l i) 4) other).p), .int .i64 ((hgetV (hset (hset (hmake (hrun l i) (newO 4 0 ByteArray.empty [])) (hmakeV (hrun l i) 4) other (numV 5)) (hmakeV (hrun l i) 4) k v) (hmakeV (hrun l i) 4) other).q), .string ((hgetV (hset (hset (hmake (hrun l i) (newO 4 0 ByteArray.empty [])) (hmakeV (hrun l i) 4) other (numV 5)) (hmakeV (hrun l i) 4) k v) (hmakeV (hrun l i) 4) other).str), .int .i64 ((hgetV (hset (hset (hmake (hrun l i) (newO 4 0 ByteArray.empty [])) (hmakeV (hrun l i) 4) other (numV 5)) (hmakeV (hrun l i) 4) k v) (hmakeV (hrun l i) 4) other).ref)]) ?_
       refine s_lt (t_loadA 3 #[.int .i64 ((hgetV (hset (hmake (hrun l i) (newO 4 0 ByteArray.empty [])) (hmakeV (hrun l i) 4) other (numV 5)) (hmakeV (hrun l i) 4) other).kind), .int .i64 ((hgetV (hset (hmake (hrun l i) (newO 4 0 ByteArray.empty [])) (hmakeV (hrun l i) 4) other (numV 5)) (hmakeV (hrun l i) 4) other).p), .int .i64 ((hgetV (hset (hmake (hrun l i) (newO 4 0 ByteArray.empty [])) (hmakeV (hrun l i) 4) other (numV 5)) (hmakeV (hrun l i) 4) other).q), .string ((hgetV (hset (hmake (hrun l i) (newO 4 0 ByteArray.empty [])) (hmakeV (hrun l i) 4) other (numV 5)) (hmakeV (hrun l i) 4) other).str), .int .i64 ((hgetV (hset (hmake (hrun l i) (newO 4 0 ByteArray.empty [])) (hmakeV (hrun l i) 4) other (numV 5)) (hmakeV (hrun l i) 4) other).ref)]) ?_
       refine s_lt (Lt.to (t_eqS (fun w => (eqVlT (hgetV (hset (hset (hmake (hrun l i) (newO 4 0 ByteArray.empty [])) (hmakeV (hrun l i) 4) other (numV 5)) (hmakeV (hrun l i) 4) k v) (hmakeV (hrun l i) 4) other) (hgetV (hset (hmake (hrun l i) (newO 4 0 ByteArray.empty [])) (hmakeV (hrun l i) 4) other (numV 5)) (hmakeV (hrun l i) 4) other) w).2)) (congrArg Value.bool ((congrArg Bool.not (decide_eq_true (kt1.get_bad hok other) : (decide ((hgetV (hset (hset (hmake (hrun l i) (newO 4 0 ByteArray.empty [])) (hmakeV (hrun l i) 4) other (numV 5)) (hmakeV (hrun l i) 4) k v) (hmakeV (hrun l i) 4) other) = (hgetV (hset (hmake (hrun l i) (newO 4 0 ByteArray.empty [])) (hmakeV (hrun l i) 4) other (numV 5)) (hmakeV (hrun l i) 4) other))) = true)).trans rfl : (!(decide ((hgetV (hset (hset (hmake (hrun l i) (newO 4 0 ByteArray.empty [])) (hmakeV (hrun l i) 4) other (numV 5)) (hmakeV (hrun l i) 4) k v) (hmakeV (hrun l i) 4) other) = (hgetV (hset (hmake (hrun l i) (newO 4 0 ByteArray.empty [])) (hmakeV (hrun l i) 4) other (numV 5)) (hmakeV (hrun l i) 4) other)))) = false))) ?_
       refine sp (.bool false) ?_
       refine sp (.bool false) ?_
       refine s_nt ?_
       refine k_false ?_
       refine k_st ?_
       refine k_seq ?_
       refine k_sr ?_
       refine sp (pB hb12 0) ?_
       refine sp (pB g22 4) ?_
       refine s_lt (t_load 4 (.int .i64 ((hmakeV (hrun l i) 4).ref))) ?_
       refine s_call [1] (hdrop_s (st := (hset (hset (hmake (hrun l i) (newO 4 0 ByteArray.empty [])) (hmakeV (hrun l i) 4) other (numV 5)) (hmakeV (hrun l i) 4) k v)) ((hmakeV (hrun l i) 4).ref)) ?_
       rintro _ _ ⟨rfl, rfl⟩
       have hi63 := drop_inv hi27 ((hmakeV (hrun l i) 4).ref)
       have hs64 := drop_sm hs28 ((hmakeV (hrun l i) 4).ref)
       have hw65 := drop_w hw29 ((hmakeV (hrun l i) 4).ref)
       refine s_lt (Lt.to t_cmp (congrArg Value.bool (decide_eq_false (fun h => h kt3.dropE) : (decide ((hdropE (hset (hset (hmake (hrun l i) (newO 4 0 ByteArray.empty [])) (hmakeV (hrun l i) 4) other (numV 5)) (hmakeV (hrun l i) 4) k v) ((hmakeV (hrun l i) 4).ref)) ≠ 0)) = false))) ?_
       refine s_nt ?_
       refine k_false ?_
       refine k_st ?_
       refine k_sr ?_
       refine sp (pB hb12 0) ?_
       refine s_lt (t_loadA 4 #[.int .i64 ((hmakeV (hrun l i) 4).kind), .int .i64 ((hmakeV (hrun l i) 4).p), .int .i64 ((hmakeV (hrun l i) 4).q), .string ((hmakeV (hrun l i) 4).str), .int .i64 ((hmakeV (hrun l i) 4).ref)]) ?_
       refine s_lt (t_loadA 8 #[.int .i64 k.kind, .int .i64 k.p, .int .i64 k.q, .string k.str, .int .i64 k.ref]) ?_
       refine s_call [0] (hget_s (st := (hdrop (hset (hset (hmake (hrun l i) (newO 4 0 ByteArray.empty [])) (hmakeV (hrun l i) 4) other (numV 5)) (hmakeV (hrun l i) 4) k v) ((hmakeV (hrun l i) 4).ref))) hs64 (by omega) (hmakeV (hrun l i) 4) k) ?_
       rintro _ _ ⟨rfl, rfl⟩
       refine sp (.tuple #[.agg #[.int .i64 ((hgetV (hdrop (hset (hset (hmake (hrun l i) (newO 4 0 ByteArray.empty [])) (hmakeV (hrun l i) 4) other (numV 5)) (hmakeV (hrun l i) 4) k v) ((hmakeV (hrun l i) 4).ref)) (hmakeV (hrun l i) 4) k).kind), .int .i64 ((hgetV (hdrop (hset (hset (hmake (hrun l i) (newO 4 0 ByteArray.empty [])) (hmakeV (hrun l i) 4) other (numV 5)) (hmakeV (hrun l i) 4) k v) ((hmakeV (hrun l i) 4).ref)) (hmakeV (hrun l i) 4) k).p), .int .i64 ((hgetV (hdrop (hset (hset (hmake (hrun l i) (newO 4 0 ByteArray.empty [])) (hmakeV (hrun l i) 4) other (numV 5)) (hmakeV (hrun l i) 4) k v) ((hmakeV (hrun l i) 4).ref)) (hmakeV (hrun l i) 4) k).q), .string ((hgetV (hdrop (hset (hset (hmake (hrun l i) (newO 4 0 ByteArray.empty [])) (hmakeV (hrun l i) 4) other (numV 5)) (hmakeV (hrun l i) 4) k v) ((hmakeV (hrun l i) 4).ref)) (hmakeV (hrun l i) 4) k).str), .int .i64 ((hgetV (hdrop (hset (hset (hmake (hrun l i) (newO 4 0 ByteArray.empty [])) (hmakeV (hrun l i) 4) other (numV 5)) (hmakeV (hrun l i) 4) k v) ((hmakeV (hrun l i) 4).ref)) (hmakeV (hrun l i) 4) k).ref)], .int .i64 (hgetE (hdrop (hset (hset (hmake (hrun l i) (newO 4 0 ByteArray.empty [])) (hmakeV (hrun l i) 4) other (numV 5)) (hmakeV (hrun l i) 4) k v) ((hmakeV (hrun l i) 4).ref)) (hmakeV (hrun l i) 4))]) ?_
       refine sp (.agg #[.int .i64 ((hgetV (hdrop (hset (hset (hmake (hrun l i) (newO 4 0 ByteArray.empty [])) (hmakeV (hrun l i) 4) other (numV 5)) (hmakeV (hrun l i) 4) k v) ((hmakeV (hrun l i) 4).ref)) (hmakeV (hrun l i) 4) k).kind), .int .i64 ((hgetV (hdrop (hset (hset (hmake (hrun l i) (newO 4 0 ByteArray.empty [])) (hmakeV (hrun l i) 4) other (numV 5)) (hmakeV (hrun l i) 4) k v) ((hmakeV (hrun l i) 4).ref)) (hmakeV (hrun l i) 4) k).p), .int .i64 ((hgetV (hdrop (hset (hset (hmake (hrun l i) (newO 4 0 ByteArray.empty [])) (hmakeV (hrun l i) 4) other (numV 5)) (hmakeV (hrun l i) 4) k v) ((hmakeV (hrun l i) 4).ref)) (hmakeV (hrun l i) 4) k).q), .string ((hgetV (hdrop (hset (hset (hmake (hrun l i) (newO 4 0 ByteArray.empty [])) (hmakeV (hrun l i) 4) other (numV 5)) (hmakeV (hrun l i) 4) k v) ((hmakeV (hrun l i) 4).ref)) (hmakeV (hrun l i) 4) k).str), .int .i64 ((hgetV (hdrop (hset (hset (hmake (hrun l i) (newO 4 0 ByteArray.empty [])) (hmakeV (hrun l i) 4) other (numV 5)) (hmakeV (hrun l i) 4) k v) ((hmakeV (hrun l i) 4).ref)) (hmakeV (hrun l i) 4) k).ref)]) ?_
       refine sp (.int .i64 (hgetE (hdrop (hset (hset (hmake (hrun l i) (newO 4 0 ByteArray.empty [])) (hmakeV (hrun l i) 4) other (numV 5)) (hmakeV (hrun l i) 4) k v) ((hmakeV (hrun l i) 4).ref)) (hmakeV (hrun l i) 4))) ?_
       refine s_alloc (.agg #[.int .i64 0, .int .i64 0, .int .i64 0, .string ByteArray.empty, .int .i64 0]) #[.int .i64 0, .int .i64 0, .int .i64 0, .string ByteArray.empty, .int .i64 0] (fun g66 => ?_)
       refine s_store 0 #[.int .i64 ((hgetV (hdrop (hset (hset (hmake (hrun l i) (newO 4 0 ByteArray.empty [])) (hmakeV (hrun l i) 4) other (numV 5)) (hmakeV (hrun l i) 4) k v) ((hmakeV (hrun l i) 4).ref)) (hmakeV (hrun l i) 4) k).kind), .int .i64 ((hgetV (hdrop (hset (hset (hmake (hrun l i) (newO 4 0 ByteArray.empty [])) (hmakeV (hrun l i) 4) other (numV 5)) (hmakeV (hrun l i) 4) k v) ((hmakeV (hrun l i) 4).ref)) (hmakeV (hrun l i) 4) k).p), .int .i64 ((hgetV (hdrop (hset (hset (hmake (hrun l i) (newO 4 0 ByteArray.empty [])) (hmakeV (hrun l i) 4) other (numV 5)) (hmakeV (hrun l i) 4) k v) ((hmakeV (hrun l i) 4).ref)) (hmakeV (hrun l i) 4) k).q), .string ((hgetV (hdrop (hset (hset (hmake (hrun l i) (newO 4 0 ByteArray.empty [])) (hmakeV (hrun l i) 4) other (numV 5)) (hmakeV (hrun l i) 4) k v) ((hmakeV (hrun l i) 4).ref)) (hmakeV (hrun l i) 4) k).str), .int .i64 ((hgetV (hdrop (hset (hset (hmake (hrun l i) (newO 4 0 ByteArray.empty [])) (hmakeV (hrun l i) 4) other (numV 5)) (hmakeV (hrun l i) 4) k v) ((hmakeV (hrun l i) 4).ref)) (hmakeV (hrun l i) 4) k).ref)] ?_
       refine sp (.int .i64 (hgetE (hdrop (hset (hset (hmake (hrun l i) (newO 4 0 ByteArray.empty [])) (hmakeV (hrun l i) 4) other (numV 5)) (hmakeV (hrun l i) 4) k v) ((hmakeV (hrun l i) 4).ref)) (hmakeV (hrun l i) 4))) ?_
       refine s_nr ?_
       refine sp (.int .i64 (hgetE (hdrop (hset (hset (hmake (hrun l i) (newO 4 0 ByteArray.empty [])) (hmakeV (hrun l i) 4) other (numV 5)) (hmakeV (hrun l i) 4) k v) ((hmakeV (hrun l i) 4).ref)) (hmakeV (hrun l i) 4))) ?_
       refine s_lt (Lt.to t_cmp (congrArg Value.bool (decide_eq_true kt3.gone : (decide ((hgetE (hdrop (hset (hset (hmake (hrun l i) (newO 4 0 ByteArray.empty [])) (hmakeV (hrun l i) 4) other (numV 5)) (hmakeV (hrun l i) 4) k v) ((hmakeV (hrun l i) 4).ref)) (hmakeV (hrun l i) 4)) = 8)) = true))) ?_
       refine sp (.bool true) ?_
       refine sp (pB hb12 0) ?_
       refine sp (pB g22 4) ?_
       refine s_lt (t_load 5 (.int .i64 ((hmakeV (hrun l i) 4).ref))) ?_
       refine s_call [1] (hdrop_s (st := (hdrop (hset (hset (hmake (hrun l i) (newO 4 0 ByteArray.empty [])) (hmakeV (hrun l i) 4) other (numV 5)) (hmakeV (hrun l i) 4) k v) ((hmakeV (hrun l i) 4).ref))) ((hmakeV (hrun l i) 4).ref)) ?_
       rintro _ _ ⟨rfl, rfl⟩
       have hi67 := drop_inv hi63 ((hmakeV (hrun l i) 4).ref)
       have hs68 := drop_sm hs64 ((hmakeV (hrun l i) 4).ref)
       have hw69 := drop_w hw65 ((hmakeV (hrun l i) 4).ref)
       refine s_lt (Lt.to t_cmp (congrArg Value.bool (decide_eq_true kt3.dead : (decide ((hdropE (hdrop (hset (hset (hmake (hrun l i) (newO 4 0 ByteArray.empty [])) (hmakeV (hrun l i) 4) other (numV 5)) (hmakeV (hrun l i) 4) k v) ((hmakeV (hrun l i) 4).ref)) ((hmakeV (hrun l i) 4).ref)) = 19)) = true))) ?_
       refine sp (.bool true) ?_
       refine sp (.bool true) ?_
       refine s_vcall (fun _ h => awake_s) ?_
       rintro _ rfl
       refine sp (.bool true) ?_
       refine sp (.bool true) ?_
       refine s_nt ?_
       refine k_ret ?_
       exact xs_fin [.bool true] [] (SI.tmp 8 SI.nil) (fun _ h => h.re [] [0, 0, 0, 0, 0, 0, 0, 0, 0, 0]) ⟨rfl, rfl⟩
     ·
      rcases hvv : validB v with _ | _
      ·
       have hok : ¬ (okKey k = true ∧ validB v = true) := by rintro ⟨_, h1⟩; rw [h1] at hvv; cases hvv
       by_cases hko : k = other
       ·
        refine k_sr ?_
        refine sp (.int .i64 (hsetE (hset (hmake (hrun l i) (newO 4 0 ByteArray.empty [])) (hmakeV (hrun l i) 4) other (numV 5)) (hmakeV (hrun l i) 4) k v)) ?_
        refine s_lt (Lt.to t_cmp (congrArg Value.bool (decide_eq_false (fun h => hok ((kt1.setE k v).1 h)) : (decide ((hsetE (hset (hmake (hrun l i) (newO 4 0 ByteArray.empty [])) (hmakeV (hrun l i) 4) other (numV 5)) (hmakeV (hrun l i) 4) k v) = 0)) = false))) ?_
        refine sp (pB g1 0) ?_
        refine s_lt (t_load 6 (.int .i64 k.kind)) ?_
        refine s_lt (Lt.to t_cmp (congrArg Value.bool (decide_eq_true hk0 : (decide (k.kind ≠ 0)) = true))) ?_
        refine sp (.bool true) ?_
        refine s_lt (t_loadA 6 #[.int .i64 k.kind, .int .i64 k.p, .int .i64 k.q, .string k.str, .int .i64 k.ref]) ?_
        refine s_vcall (fun _ h => rvalid_s k) ?_
        rintro u71 e70
        obtain rfl : u71 = .bool true := e70.trans (congrArg Value.bool (hvk))
        refine sp (.bool true) ?_
        refine sp (.bool true) ?_
        refine s_lt (t_loadA 5 #[.int .i64 v.kind, .int .i64 v.p, .int .i64 v.q, .string v.str, .int .i64 v.ref]) ?_
        refine s_vcall (fun _ h => rvalid_s v) ?_
        rintro u73 e72
        obtain rfl : u73 = .bool false := e72.trans (congrArg Value.bool (hvv))
        refine sp (.bool false) ?_
        refine sp (.bool false) ?_
        refine s_nt ?_
        refine k_false ?_
        refine k_st ?_
        refine k_sr ?_
        refine sp (pB hb12 0) ?_
        refine s_lt (t_loadA 2 #[.int .i64 ((hmakeV (hrun l i) 4).kind), .int .i64 ((hmakeV (hrun l i) 4).p), .int .i64 ((hmakeV (hrun l i) 4).q), .string ((hmakeV (hrun l i) 4).str), .int .i64 ((hmakeV (hrun l i) 4).ref)]) ?_
        refine s_lt (t_loadA 6 #[.int .i64 k.kind, .int .i64 k.p, .int .i64 k.q, .string k.str, .int .i64 k.ref]) ?_
        refine s_call [0] (hget_s (st := (hset (hset (hmake (hrun l i) (newO 4 0 ByteArray.empty [])) (hmakeV (hrun l i) 4) other (numV 5)) (hmakeV (hrun l i) 4) k v)) hs28 (by omega) (hmakeV (hrun l i) 4) k) ?_
        rintro _ _ ⟨rfl, rfl⟩
        refine sp (.tuple #[.agg #[.int .i64 ((hgetV (hset (hset (hmake (hrun l i) (newO 4 0 ByteArray.empty [])) (hmakeV (hrun l i) 4) other (numV 5)) (hmakeV (hrun l i) 4) k v) (hmakeV (hrun l i) 4) k).kind), .int .i64 ((hgetV (hset (hset (hmake (hrun l i) (newO 4 0 ByteArray.empty [])) (hmakeV (hrun l i) 4) other (numV 5)) (hmakeV (hrun l i) 4) k v) (hmakeV (hrun l i) 4) k).p), .int .i64 ((hgetV (hset (hset (hmake (hrun l i) (newO 4 0 ByteArray.empty [])) (hmakeV (hrun l i) 4) other (numV 5)) (hmakeV (hrun l i) 4) k v) (hmakeV (hrun l i) 4) k).q), .string ((hgetV (hset (hset (hmake (hrun l i) (newO 4 0 ByteArray.empty [])) (hmakeV (hrun l i) 4) other (numV 5)) (hmakeV (hrun l i) 4) k v) (hmakeV (hrun l i) 4) k).str), .int .i64 ((hgetV (hset (hset (hmake (hrun l i) (newO 4 0 ByteArray.empty [])) (hmakeV (hrun l i) 4) other (numV 5)) (hmakeV (hrun l i) 4) k v) (hmakeV (hrun l i) 4) k).ref)], .int .i64 (hgetE (hset (hset (hmake (hrun l i) (newO 4 0 ByteArray.empty [])) (hmakeV (hrun l i) 4) other (numV 5)) (hmakeV (hrun l i) 4) k v) (hmakeV (hrun l i) 4))]) ?_
        refine sp (.agg #[.int .i64 ((hgetV (hset (hset (hmake (hrun l i) (newO 4 0 ByteArray.empty [])) (hmakeV (hrun l i) 4) other (numV 5)) (hmakeV (hrun l i) 4) k v) (hmakeV (hrun l i) 4) k).kind), .int .i64 ((hgetV (hset (hset (hmake (hrun l i) (newO 4 0 ByteArray.empty [])) (hmakeV (hrun l i) 4) other (numV 5)) (hmakeV (hrun l i) 4) k v) (hmakeV (hrun l i) 4) k).p), .int .i64 ((hgetV (hset (hset (hmake (hrun l i) (newO 4 0 ByteArray.empty [])) (hmakeV (hrun l i) 4) other (numV 5)) (hmakeV (hrun l i) 4) k v) (hmakeV (hrun l i) 4) k).q), .string ((hgetV (hset (hset (hmake (hrun l i) (newO 4 0 ByteArray.empty [])) (hmakeV (hrun l i) 4) other (numV 5)) (hmakeV (hrun l i) 4) k v) (hmakeV (hrun l i) 4) k).str), .int .i64 ((hgetV (hset (hset (hmake (hrun l i) (newO 4 0 ByteArray.empty [])) (hmakeV (hrun l i) 4) other (numV 5)) (hmakeV (hrun l i) 4) k v) (hmakeV (hrun l i) 4) k).ref)]) ?_
        refine sp (.int .i64 (hgetE (hset (hset (hmake (hrun l i) (newO 4 0 ByteArray.empty [])) (hmakeV (hrun l i) 4) other (numV 5)) (hmakeV (hrun l i) 4) k v) (hmakeV (hrun l i) 4))) ?_
        refine s_alloc (.agg #[.int .i64 0, .int .i64 0, .int .i64 0, .string ByteArray.empty, .int .i64 0]) #[.int .i64 0, .int .i64 0, .int .i64 0, .string ByteArray.empty, .int .i64 0] (fun g74 => ?_)
        refine s_store 0 #[.int .i64 ((hgetV (hset (hset (hmake (hrun l i) (newO 4 0 ByteArray.empty [])) (hmakeV (hrun l i) 4) other (numV 5)) (hmakeV (hrun l i) 4) k v) (hmakeV (hrun l i) 4) k).kind), .int .i64 ((hgetV (hset (hset (hmake (hrun l i) (newO 4 0 ByteArray.empty [])) (hmakeV (hrun l i) 4) other (numV 5)) (hmakeV (hrun l i) 4) k v) (hmakeV (hrun l i) 4) k).p), .int .i64 ((hgetV (hset (hset (hmake (hrun l i) (newO 4 0 ByteArray.empty [])) (hmakeV (hrun l i) 4) other (numV 5)) (hmakeV (hrun l i) 4) k v) (hmakeV (hrun l i) 4) k).q), .string ((hgetV (hset (hset (hmake (hrun l i) (newO 4 0 ByteArray.empty [])) (hmakeV (hrun l i) 4) other (numV 5)) (hmakeV (hrun l i) 4) k v) (hmakeV (hrun l i) 4) k).str), .int .i64 ((hgetV (hset (hset (hmake (hrun l i) (newO 4 0 ByteArray.empty [])) (hmakeV (hrun l i) 4) other (numV 5)) (hmakeV (hrun l i) 4) k v) (hmakeV (hrun l i) 4) k).ref)] ?_
        refine sp (.int .i64 (hgetE (hset (hset (hmake (hrun l i) (newO 4 0 ByteArray.empty [])) (hmakeV (hrun l i) 4) other (numV 5)) (hmakeV (hrun l i) 4) k v) (hmakeV (hrun l i) 4))) ?_
        refine s_nr ?_
        refine sp (pB hb12 0) ?_
        refine s_lt (t_loadA 3 #[.int .i64 ((hmakeV (hrun l i) 4).kind), .int .i64 ((hmakeV (hrun l i) 4).p), .int .i64 ((hmakeV (hrun l i) 4).q), .string ((hmakeV (hrun l i) 4).str), .int .i64 ((hmakeV (hrun l i) 4).ref)]) ?_
        refine s_lt (t_loadA 5 #[.int .i64 other.kind, .int .i64 other.p, .int .i64 other.q, .string other.str, .int .i64 other.ref]) ?_
        refine s_call [1] (hget_s (st := (hset (hset (hmake (hrun l i) (newO 4 0 ByteArray.empty [])) (hmakeV (hrun l i) 4) other (numV 5)) (hmakeV (hrun l i) 4) k v)) hs28 (by omega) (hmakeV (hrun l i) 4) other) ?_
        rintro _ _ ⟨rfl, rfl⟩
        refine sp (.tuple #[.agg #[.int .i64 ((hgetV (hset (hset (hmake (hrun l i) (newO 4 0 ByteArray.empty [])) (hmakeV (hrun l i) 4) other (numV 5)) (hmakeV (hrun l i) 4) k v) (hmakeV (hrun l i) 4) other).kind), .int .i64 ((hgetV (hset (hset (hmake (hrun l i) (newO 4 0 ByteArray.empty [])) (hmakeV (hrun l i) 4) other (numV 5)) (hmakeV (hrun l i) 4) k v) (hmakeV (hrun l i) 4) other).p), .int .i64 ((hgetV (hset (hset (hmake (hrun l i) (newO 4 0 ByteArray.empty [])) (hmakeV (hrun l i) 4) other (numV 5)) (hmakeV (hrun l i) 4) k v) (hmakeV (hrun l i) 4) other).q), .string ((hgetV (hset (hset (hmake (hrun l i) (newO 4 0 ByteArray.empty [])) (hmakeV (hrun l i) 4) other (numV 5)) (hmakeV (hrun l i) 4) k v) (hmakeV (hrun l i) 4) other).str), .int .i64 ((hgetV (hset (hset (hmake (hrun l i) (newO 4 0 ByteArray.empty [])) (hmakeV (hrun l i) 4) other (numV 5)) (hmakeV (hrun l i) 4) k v) (hmakeV (hrun l i) 4) other).ref)], .int .i64 (hgetE (hset (hset (hmake (hrun l i) (newO 4 0 ByteArray.empty [])) (hmakeV (hrun l i) 4) other (numV 5)) (hmakeV (hrun l i) 4) k v) (hmakeV (hrun l i) 4))]) ?_
        refine sp (.agg #[.int .i64 ((hgetV (hset (hset (hmake (hrun l i) (newO 4 0 ByteArray.empty [])) (hmakeV (hrun l i) 4) other (numV 5)) (hmakeV (hrun l i) 4) k v) (hmakeV (hrun l i) 4) other).kind), .int .i64 ((hgetV (hset (hset (hmake (hrun l i) (newO 4 0 ByteArray.empty [])) (hmakeV (hrun l i) 4) other (numV 5)) (hmakeV (hrun l i) 4) k v) (hmakeV (hrun l i) 4) other).p), .int .i64 ((hgetV (hset (hset (hmake (hrun l i) (newO 4 0 ByteArray.empty [])) (hmakeV (hrun l i) 4) other (numV 5)) (hmakeV (hrun l i) 4) k v) (hmakeV (hrun l i) 4) other).q), .string ((hgetV (hset (hset (hmake (hrun l i) (newO 4 0 ByteArray.empty [])) (hmakeV (hrun l i) 4) other (numV 5)) (hmakeV (hrun l i) 4) k v) (hmakeV (hrun l i) 4) other).str), .int .i64 ((hgetV (hset (hset (hmake (hrun l i) (newO 4 0 ByteArray.empty [])) (hmakeV (hrun l i) 4) other (numV 5)) (hmakeV (hrun l i) 4) k v) (hmakeV (hrun l i) 4) other).ref)]) ?_
        refine sp (.int .i64 (hgetE (hset (hset (hmake (hrun l i) (newO 4 0 ByteArray.empty [])) (hmakeV (hrun l i) 4) other (numV 5)) (hmakeV (hrun l i) 4) k v) (hmakeV (hrun l i) 4))) ?_
        refine s_alloc (.agg #[.int .i64 0, .int .i64 0, .int .i64 0, .string ByteArray.empty, .int .i64 0]) #[.int .i64 0, .int .i64 0, .int .i64 0, .string ByteArray.empty, .int .i64 0] (fun g75 => ?_)
        refine s_store 0 #[.int .i64 ((hgetV (hset (hset (hmake (hrun l i) (newO 4 0 ByteArray.empty [])) (hmakeV (hrun l i) 4) other (numV 5)) (hmakeV (hrun l i) 4) k v) (hmakeV (hrun l i) 4) other).kind), .int .i64 ((hgetV (hset (hset (hmake (hrun l i) (newO 4 0 ByteArray.empty [])) (hmakeV (hrun l i) 4) other (numV 5)) (hmakeV (hrun l i) 4) k v) (hmakeV (hrun l i) 4) other).p), .int .i64 ((hgetV (hset (hset (hmake (hrun l i) (newO 4 0 ByteArray.empty [])) (hmakeV (hrun l i) 4) other (numV 5)) (hmakeV (hrun l i) 4) k v) (hmakeV (hrun l i) 4) other).q), .string ((hgetV (hset (hset (hmake (hrun l i) (newO 4 0 ByteArray.empty [])) (hmakeV (hrun l i) 4) other (numV 5)) (hmakeV (hrun l i) 4) k v) (hmakeV (hrun l i) 4) other).str), .int .i64 ((hgetV (hset (hset (hmake (hrun l i) (newO 4 0 ByteArray.empty [])) (hmakeV (hrun l i) 4) other (numV 5)) (hmakeV (hrun l i) 4) k v) (hmakeV (hrun l i) 4) other).ref)] ?_
        refine sp (.int .i64 (hgetE (hset (hset (hmake (hrun l i) (newO 4 0 ByteArray.empty [])) (hmakeV (hrun l i) 4) other (numV 5)) (hmakeV (hrun l i) 4) k v) (hmakeV (hrun l i) 4))) ?_
        refine s_nt ?_
        refine k_seq ?_
        refine k_sr ?_
        refine sp (.int .i64 (hsetE (hset (hmake (hrun l i) (newO 4 0 ByteArray.empty [])) (hmakeV (hrun l i) 4) other (numV 5)) (hmakeV (hrun l i) 4) k v)) ?_
        refine s_lt (Lt.to t_cmp (congrArg Value.bool (decide_eq_false (fun h => hok ((kt1.setE k v).1 h)) : (decide ((hsetE (hset (hmake (hrun l i) (newO 4 0 ByteArray.empty [])) (hmakeV (hrun l i) 4) other (numV 5)) (hmakeV (hrun l i) 4) k v) = 0)) = false))) ?_
        refine sp (.bool false) ?_
        refine s_skip ?_
        refine s_skip ?_
        refine s_skip ?_
        refine sp (.bool false) ?_
        refine sp (.bool false) ?_
        refine s_lt (t_loadA 8 #[.int .i64 k.kind, .int .i64 k.p, .int .i64 k.q, .string k.str, .int .i64 k.ref]) ?_
        refine s_lt (t_loadA 6 #[.int .i64 other.kind, .int .i64 other.p, .int .i64 other.q, .string other.str, .int .i64 other.ref]) ?_
        refine s_lt (Lt.to (t_eqS (fun w => (eqVlT k other w).2)) (congrArg Value.bool ((congrArg Bool.not (decide_eq_true hko : (decide (k = other)) = true)).trans rfl : (!(decide (k = other))) = false))) ?_
        refine sp (.bool false) ?_
        refine s_skip ?_
        refine s_skip ?_
        refine s_skip ?_
        refine sp (.bool false) ?_
        refine sp (.bool false) ?_
        refine s_nt ?_
        refine k_false ?_
        refine k_st ?_
        refine k_seq ?_
        refine k_sr ?_
        refine sp (pB hb12 0) ?_
        refine sp (pB g22 4) ?_
        refine s_lt (t_load 4 (.int .i64 ((hmakeV (hrun l i) 4).ref))) ?_
        refine s_call [1] (hdrop_s (st := (hset (hset (hmake (hrun l i) (newO 4 0 ByteArray.empty [])) (hmakeV (hrun l i) 4) other (numV 5)) (hmakeV (hrun l i) 4) k v)) ((hmakeV (hrun l i) 4).ref)) ?_
        rintro _ _ ⟨rfl, rfl⟩
        have hi76 := drop_inv hi27 ((hmakeV (hrun l i) 4).ref)
        have hs77 := drop_sm hs28 ((hmakeV (hrun l i) 4).ref)
        have hw78 := drop_w hw29 ((hmakeV (hrun l i) 4).ref)
        refine s_lt (Lt.to t_cmp (congrArg Value.bool (decide_eq_false (fun h => h kt3.dropE) : (decide ((hdropE (hset (hset (hmake (hrun l i) (newO 4 0 ByteArray.empty [])) (hmakeV (hrun l i) 4) other (numV 5)) (hmakeV (hrun l i) 4) k v) ((hmakeV (hrun l i) 4).ref)) ≠ 0)) = false))) ?_
        refine s_nt ?_
        refine k_false ?_
        refine k_st ?_
        refine k_sr ?_
        refine sp (pB hb12 0) ?_
        refine s_lt (t_loadA 4 #[.int .i64 ((hmakeV (hrun l i) 4).kind), .int .i64 ((hmakeV (hrun l i) 4).p), .int .i64 ((hmakeV (hrun l i) 4).q), .string ((hmakeV (hrun l i) 4).str), .int .i64 ((hmakeV (hrun l i) 4).ref)]) ?_
        refine s_lt (t_loadA 8 #[.int .i64 k.kind, .int .i64 k.p, .int .i64 k.q, .string k.str, .int .i64 k.ref]) ?_
        refine s_call [0] (hget_s (st := (hdrop (hset (hset (hmake (hrun l i) (newO 4 0 ByteArray.empty [])) (hmakeV (hrun l i) 4) other (numV 5)) (hmakeV (hrun l i) 4) k v) ((hmakeV (hrun l i) 4).ref))) hs77 (by omega) (hmakeV (hrun l i) 4) k) ?_
        rintro _ _ ⟨rfl, rfl⟩
        refine sp (.tuple #[.agg #[.int .i64 ((hgetV (hdrop (hset (hset (hmake (hrun l i) (newO 4 0 ByteArray.empty [])) (hmakeV (hrun l i) 4) other (numV 5)) (hmakeV (hrun l i) 4) k v) ((hmakeV (hrun l i) 4).ref)) (hmakeV (hrun l i) 4) k).kind), .int .i64 ((hgetV (hdrop (hset (hset (hmake (hrun l i) (newO 4 0 ByteArray.empty [])) (hmakeV (hrun l i) 4) other (numV 5)) (hmakeV (hrun l i) 4) k v) ((hmakeV (hrun l i) 4).ref)) (hmakeV (hrun l i) 4) k).p), .int .i64 ((hgetV (hdrop (hset (hset (hmake (hrun l i) (newO 4 0 ByteArray.empty [])) (hmakeV (hrun l i) 4) other (numV 5)) (hmakeV (hrun l i) 4) k v) ((hmakeV (hrun l i) 4).ref)) (hmakeV (hrun l i) 4) k).q), .string ((hgetV (hdrop (hset (hset (hmake (hrun l i) (newO 4 0 ByteArray.empty [])) (hmakeV (hrun l i) 4) other (numV 5)) (hmakeV (hrun l i) 4) k v) ((hmakeV (hrun l i) 4).ref)) (hmakeV (hrun l i) 4) k).str), .int .i64 ((hgetV (hdrop (hset (hset (hmake (hrun l i) (newO 4 0 ByteArray.empty [])) (hmakeV (hrun l i) 4) other (numV 5)) (hmakeV (hrun l i) 4) k v) ((hmakeV (hrun l i) 4).ref)) (hmakeV (hrun l i) 4) k).ref)], .int .i64 (hgetE (hdrop (hset (hset (hmake (hrun l i) (newO 4 0 ByteArray.empty [])) (hmakeV (hrun l i) 4) other (numV 5)) (hmakeV (hrun l i) 4) k v) ((hmakeV (hrun l i) 4).ref)) (hmakeV (hrun l i) 4))]) ?_
        refine sp (.agg #[.int .i64 ((hgetV (hdrop (hset (hset (hmake (hrun l i) (newO 4 0 ByteArray.empty [])) (hmakeV (hrun l i) 4) other (numV 5)) (hmakeV (hrun l i) 4) k v) ((hmakeV (hrun l i) 4).ref)) (hmakeV (hrun l i) 4) k).kind), .int .i64 ((hgetV (hdrop (hset (hset (hmake (hrun l i) (newO 4 0 ByteArray.empty [])) (hmakeV (hrun l i) 4) other (numV 5)) (hmakeV (hrun l i) 4) k v) ((hmakeV (hrun l i) 4).ref)) (hmakeV (hrun l i) 4) k).p), .int .i64 ((hgetV (hdrop (hset (hset (hmake (hrun l i) (newO 4 0 ByteArray.empty [])) (hmakeV (hrun l i) 4) other (numV 5)) (hmakeV (hrun l i) 4) k v) ((hmakeV (hrun l i) 4).ref)) (hmakeV (hrun l i) 4) k).q), .string ((hgetV (hdrop (hset (hset (hmake (hrun l i) (newO 4 0 ByteArray.empty [])) (hmakeV (hrun l i) 4) other (numV 5)) (hmakeV (hrun l i) 4) k v) ((hmakeV (hrun l i) 4).ref)) (hmakeV (hrun l i) 4) k).str), .int .i64 ((hgetV (hdrop (hset (hset (hmake (hrun l i) (newO 4 0 ByteArray.empty [])) (hmakeV (hrun l i) 4) other (numV 5)) (hmakeV (hrun l i) 4) k v) ((hmakeV (hrun l i) 4).ref)) (hmakeV (hrun l i) 4) k).ref)]) ?_
        refine sp (.int .i64 (hgetE (hdrop (hset (hset (hmake (hrun l i) (newO 4 0 ByteArray.empty [])) (hmakeV (hrun l i) 4) other (numV 5)) (hmakeV (hrun l i) 4) k v) ((hmakeV (hrun l i) 4).ref)) (hmakeV (hrun l i) 4))) ?_
        refine s_alloc (.agg #[.int .i64 0, .int .i64 0, .int .i64 0, .string ByteArray.empty, .int .i64 0]) #[.int .i64 0, .int .i64 0, .int .i64 0, .string ByteArray.empty, .int .i64 0] (fun g79 => ?_)
        refine s_store 0 #[.int .i64 ((hgetV (hdrop (hset (hset (hmake (hrun l i) (newO 4 0 ByteArray.empty [])) (hmakeV (hrun l i) 4) other (numV 5)) (hmakeV (hrun l i) 4) k v) ((hmakeV (hrun l i) 4).ref)) (hmakeV (hrun l i) 4) k).kind), .int .i64 ((hgetV (hdrop (hset (hset (hmake (hrun l i) (newO 4 0 ByteArray.empty [])) (hmakeV (hrun l i) 4) other (numV 5)) (hmakeV (hrun l i) 4) k v) ((hmakeV (hrun l i) 4).ref)) (hmakeV (hrun l i) 4) k).p), .int .i64 ((hgetV (hdrop (hset (hset (hmake (hrun l i) (newO 4 0 ByteArray.empty [])) (hmakeV (hrun l i) 4) other (numV 5)) (hmakeV (hrun l i) 4) k v) ((hmakeV (hrun l i) 4).ref)) (hmakeV (hrun l i) 4) k).q), .string ((hgetV (hdrop (hset (hset (hmake (hrun l i) (newO 4 0 ByteArray.empty [])) (hmakeV (hrun l i) 4) other (numV 5)) (hmakeV (hrun l i) 4) k v) ((hmakeV (hrun l i) 4).ref)) (hmakeV (hrun l i) 4) k).str), .int .i64 ((hgetV (hdrop (hset (hset (hmake (hrun l i) (newO 4 0 ByteArray.empty [])) (hmakeV (hrun l i) 4) other (numV 5)) (hmakeV (hrun l i) 4) k v) ((hmakeV (hrun l i) 4).ref)) (hmakeV (hrun l i) 4) k).ref)] ?_
        refine sp (.int .i64 (hgetE (hdrop (hset (hset (hmake (hrun l i) (newO 4 0 ByteArray.empty [])) (hmakeV (hrun l i) 4) other (numV 5)) (hmakeV (hrun l i) 4) k v) ((hmakeV (hrun l i) 4).ref)) (hmakeV (hrun l i) 4))) ?_
        refine s_nr ?_
        refine sp (.int .i64 (hgetE (hdrop (hset (hset (hmake (hrun l i) (newO 4 0 ByteArray.empty [])) (hmakeV (hrun l i) 4) other (numV 5)) (hmakeV (hrun l i) 4) k v) ((hmakeV (hrun l i) 4).ref)) (hmakeV (hrun l i) 4))) ?_
        refine s_lt (Lt.to t_cmp (congrArg Value.bool (decide_eq_true kt3.gone : (decide ((hgetE (hdrop (hset (hset (hmake (hrun l i) (newO 4 0 ByteArray.empty [])) (hmakeV (hrun l i) 4) other (numV 5)) (hmakeV (hrun l i) 4) k v) ((hmakeV (hrun l i) 4).ref)) (hmakeV (hrun l i) 4)) = 8)) = true))) ?_
        refine sp (.bool true) ?_
        refine sp (pB hb12 0) ?_
        refine sp (pB g22 4) ?_
        refine s_lt (t_load 5 (.int .i64 ((hmakeV (hrun l i) 4).ref))) ?_
        refine s_call [1] (hdrop_s (st := (hdrop (hset (hset (hmake (hrun l i) (newO 4 0 ByteArray.empty [])) (hmakeV (hrun l i) 4) other (numV 5)) (hmakeV (hrun l i) 4) k v) ((hmakeV (hrun l i) 4).ref))) ((hmakeV (hrun l i) 4).ref)) ?_
        rintro _ _ ⟨rfl, rfl⟩
        have hi80 := drop_inv hi76 ((hmakeV (hrun l i) 4).ref)
        have hs81 := drop_sm hs77 ((hmakeV (hrun l i) 4).ref)
        have hw82 := drop_w hw78 ((hmakeV (hrun l i) 4).ref)
        refine s_lt (Lt.to t_cmp (congrArg Value.bool (decide_eq_true kt3.dead : (decide ((hdropE (hdrop (hset (hset (hmake (hrun l i) (newO 4 0 ByteArray.empty [])) (hmakeV (hrun l i) 4) other (numV 5)) (hmakeV (hrun l i) 4) k v) ((hmakeV (hrun l i) 4).ref)) ((hmakeV (hrun l i) 4).ref)) = 19)) = true))) ?_
        refine sp (.bool true) ?_
        refine sp (.bool true) ?_
        refine s_vcall (fun _ h => awake_s) ?_
        rintro _ rfl
        refine sp (.bool true) ?_
        refine sp (.bool true) ?_
        refine s_nt ?_
        refine k_ret ?_
        exact xs_fin [.bool true] [] (SI.tmp 8 SI.nil) (fun _ h => h.re [] [0, 0, 0, 0, 0, 0, 0, 0, 0, 0]) ⟨rfl, rfl⟩
       ·
        refine k_sr ?_
        refine sp (.int .i64 (hsetE (hset (hmake (hrun l i) (newO 4 0 ByteArray.empty [])) (hmakeV (hrun l i) 4) other (numV 5)) (hmakeV (hrun l i) 4) k v)) ?_
        refine s_lt (Lt.to t_cmp (congrArg Value.bool (decide_eq_false (fun h => hok ((kt1.setE k v).1 h)) : (decide ((hsetE (hset (hmake (hrun l i) (newO 4 0 ByteArray.empty [])) (hmakeV (hrun l i) 4) other (numV 5)) (hmakeV (hrun l i) 4) k v) = 0)) = false))) ?_
        refine sp (pB g1 0) ?_
        refine s_lt (t_load 6 (.int .i64 k.kind)) ?_
        refine s_lt (Lt.to t_cmp (congrArg Value.bool (decide_eq_true hk0 : (decide (k.kind ≠ 0)) = true))) ?_
        refine sp (.bool true) ?_
        refine s_lt (t_loadA 6 #[.int .i64 k.kind, .int .i64 k.p, .int .i64 k.q, .string k.str, .int .i64 k.ref]) ?_
        refine s_vcall (fun _ h => rvalid_s k) ?_
        rintro u84 e83
        obtain rfl : u84 = .bool true := e83.trans (congrArg Value.bool (hvk))
        refine sp (.bool true) ?_
        refine sp (.bool true) ?_
        refine s_lt (t_loadA 5 #[.int .i64 v.kind, .int .i64 v.p, .int .i64 v.q, .string v.str, .int .i64 v.ref]) ?_
        refine s_vcall (fun _ h => rvalid_s v) ?_
        rintro u86 e85
        obtain rfl : u86 = .bool false := e85.trans (congrArg Value.bool (hvv))
        refine sp (.bool false) ?_
        refine sp (.bool false) ?_
        refine s_nt ?_
        refine k_false ?_
        refine k_st ?_
        refine k_sr ?_
        refine sp (pB hb12 0) ?_
        refine s_lt (t_loadA 2 #[.int .i64 ((hmakeV (hrun l i) 4).kind), .int .i64 ((hmakeV (hrun l i) 4).p), .int .i64 ((hmakeV (hrun l i) 4).q), .string ((hmakeV (hrun l i) 4).str), .int .i64 ((hmakeV (hrun l i) 4).ref)]) ?_
        refine s_lt (t_loadA 6 #[.int .i64 k.kind, .int .i64 k.p, .int .i64 k.q, .string k.str, .int .i64 k.ref]) ?_
        refine s_call [0] (hget_s (st := (hset (hset (hmake (hrun l i) (newO 4 0 ByteArray.empty [])) (hmakeV (hrun l i) 4) other (numV 5)) (hmakeV (hrun l i) 4) k v)) hs28 (by omega) (hmakeV (hrun l i) 4) k) ?_
        rintro _ _ ⟨rfl, rfl⟩
        refine sp (.tuple #[.agg #[.int .i64 ((hgetV (hset (hset (hmake (hrun l i) (newO 4 0 ByteArray.empty [])) (hmakeV (hrun l i) 4) other (numV 5)) (hmakeV (hrun l i) 4) k v) (hmakeV (hrun l i) 4) k).kind), .int .i64 ((hgetV (hset (hset (hmake (hrun l i) (newO 4 0 ByteArray.empty [])) (hmakeV (hrun l i) 4) other (numV 5)) (hmakeV (hrun l i) 4) k v) (hmakeV (hrun l i) 4) k).p), .int .i64 ((hgetV (hset (hset (hmake (hrun l i) (newO 4 0 ByteArray.empty [])) (hmakeV (hrun l i) 4) other (numV 5)) (hmakeV (hrun l i) 4) k v) (hmakeV (hrun l i) 4) k).q), .string ((hgetV (hset (hset (hmake (hrun l i) (newO 4 0 ByteArray.empty [])) (hmakeV (hrun l i) 4) other (numV 5)) (hmakeV (hrun l i) 4) k v) (hmakeV (hrun l i) 4) k).str), .int .i64 ((hgetV (hset (hset (hmake (hrun l i) (newO 4 0 ByteArray.empty [])) (hmakeV (hrun l i) 4) other (numV 5)) (hmakeV (hrun l i) 4) k v) (hmakeV (hrun l i) 4) k).ref)], .int .i64 (hgetE (hset (hset (hmake (hrun l i) (newO 4 0 ByteArray.empty [])) (hmakeV (hrun l i) 4) other (numV 5)) (hmakeV (hrun l i) 4) k v) (hmakeV (hrun l i) 4))]) ?_
        refine sp (.agg #[.int .i64 ((hgetV (hset (hset (hmake (hrun l i) (newO 4 0 ByteArray.empty [])) (hmakeV (hrun l i) 4) other (numV 5)) (hmakeV (hrun l i) 4) k v) (hmakeV (hrun l i) 4) k).kind), .int .i64 ((hgetV (hset (hset (hmake (hrun l i) (newO 4 0 ByteArray.empty [])) (hmakeV (hrun l i) 4) other (numV 5)) (hmakeV (hrun l i) 4) k v) (hmakeV (hrun l i) 4) k).p), .int .i64 ((hgetV (hset (hset (hmake (hrun l i) (newO 4 0 ByteArray.empty [])) (hmakeV (hrun l i) 4) other (numV 5)) (hmakeV (hrun l i) 4) k v) (hmakeV (hrun l i) 4) k).q), .string ((hgetV (hset (hset (hmake (hrun l i) (newO 4 0 ByteArray.empty [])) (hmakeV (hrun l i) 4) other (numV 5)) (hmakeV (hrun l i) 4) k v) (hmakeV (hrun l i) 4) k).str), .int .i64 ((hgetV (hset (hset (hmake (hrun l i) (newO 4 0 ByteArray.empty [])) (hmakeV (hrun l i) 4) other (numV 5)) (hmakeV (hrun l i) 4) k v) (hmakeV (hrun l i) 4) k).ref)]) ?_
        refine sp (.int .i64 (hgetE (hset (hset (hmake (hrun l i) (newO 4 0 ByteArray.empty [])) (hmakeV (hrun l i) 4) other (numV 5)) (hmakeV (hrun l i) 4) k v) (hmakeV (hrun l i) 4))) ?_
        refine s_alloc (.agg #[.int .i64 0, .int .i64 0, .int .i64 0, .string ByteArray.empty, .int .i64 0]) #[.int .i64 0, .int .i64 0, .int .i64 0, .string ByteArray.empty, .int .i64 0] (fun g87 => ?_)
        refine s_store 0 #[.int .i64 ((hgetV (hset (hset (hmake (hrun l i) (newO 4 0 ByteArray.empty [])) (hmakeV (hrun l i) 4) other (numV 5)) (hmakeV (hrun l i) 4) k v) (hmakeV (hrun l i) 4) k).kind), .int .i64 ((hgetV (hset (hset (hmake (hrun l i) (newO 4 0 ByteArray.empty [])) (hmakeV (hrun l i) 4) other (numV 5)) (hmakeV (hrun l i) 4) k v) (hmakeV (hrun l i) 4) k).p), .int .i64 ((hgetV (hset (hset (hmake (hrun l i) (newO 4 0 ByteArray.empty [])) (hmakeV (hrun l i) 4) other (numV 5)) (hmakeV (hrun l i) 4) k v) (hmakeV (hrun l i) 4) k).q), .string ((hgetV (hset (hset (hmake (hrun l i) (newO 4 0 ByteArray.empty [])) (hmakeV (hrun l i) 4) other (numV 5)) (hmakeV (hrun l i) 4) k v) (hmakeV (hrun l i) 4) k).str), .int .i64 ((hgetV (hset (hset (hmake (hrun l i) (newO 4 0 ByteArray.empty [])) (hmakeV (hrun l i) 4) other (numV 5)) (hmakeV (hrun l i) 4) k v) (hmakeV (hrun l i) 4) k).ref)] ?_
        refine sp (.int .i64 (hgetE (hset (hset (hmake (hrun l i) (newO 4 0 ByteArray.empty [])) (hmakeV (hrun l i) 4) other (numV 5)) (hmakeV (hrun l i) 4) k v) (hmakeV (hrun l i) 4))) ?_
        refine s_nr ?_
        refine sp (pB hb12 0) ?_
        refine s_lt (t_loadA 3 #[.int .i64 ((hmakeV (hrun l i) 4).kind), .int .i64 ((hmakeV (hrun l i) 4).p), .int .i64 ((hmakeV (hrun l i) 4).q), .string ((hmakeV (hrun l i) 4).str), .int .i64 ((hmakeV (hrun l i) 4).ref)]) ?_
        refine s_lt (t_loadA 5 #[.int .i64 other.kind, .int .i64 other.p, .int .i64 other.q, .string other.str, .int .i64 other.ref]) ?_
        refine s_call [1] (hget_s (st := (hset (hset (hmake (hrun l i) (newO 4 0 ByteArray.empty [])) (hmakeV (hrun l i) 4) other (numV 5)) (hmakeV (hrun l i) 4) k v)) hs28 (by omega) (hmakeV (hrun l i) 4) other) ?_
        rintro _ _ ⟨rfl, rfl⟩
        refine sp (.tuple #[.agg #[.int .i64 ((hgetV (hset (hset (hmake (hrun l i) (newO 4 0 ByteArray.empty [])) (hmakeV (hrun l i) 4) other (numV 5)) (hmakeV (hrun l i) 4) k v) (hmakeV (hrun l i) 4) other).kind), .int .i64 ((hgetV (hset (hset (hmake (hrun l i) (newO 4 0 ByteArray.empty [])) (hmakeV (hrun l i) 4) other (numV 5)) (hmakeV (hrun l i) 4) k v) (hmakeV (hrun l i) 4) other).p), .int .i64 ((hgetV (hset (hset (hmake (hrun l i) (newO 4 0 ByteArray.empty [])) (hmakeV (hrun l i) 4) other (numV 5)) (hmakeV (hrun l i) 4) k v) (hmakeV (hrun l i) 4) other).q), .string ((hgetV (hset (hset (hmake (hrun l i) (newO 4 0 ByteArray.empty [])) (hmakeV (hrun l i) 4) other (numV 5)) (hmakeV (hrun l i) 4) k v) (hmakeV (hrun l i) 4) other).str), .int .i64 ((hgetV (hset (hset (hmake (hrun l i) (newO 4 0 ByteArray.empty [])) (hmakeV (hrun l i) 4) other (numV 5)) (hmakeV (hrun l i) 4) k v) (hmakeV (hrun l i) 4) other).ref)], .int .i64 (hgetE (hset (hset (hmake (hrun l i) (newO 4 0 ByteArray.empty [])) (hmakeV (hrun l i) 4) other (numV 5)) (hmakeV (hrun l i) 4) k v) (hmakeV (hrun l i) 4))]) ?_
        refine sp (.agg #[.int .i64 ((hgetV (hset (hset (hmake (hrun l i) (newO 4 0 ByteArray.empty [])) (hmakeV (hrun l i) 4) other (numV 5)) (hmakeV (hrun l i) 4) k v) (hmakeV (hrun l i) 4) other).kind), .int .i64 ((hgetV (hset (hset (hmake (hrun l i) (newO 4 0 ByteArray.empty [])) (hmakeV (hrun l i) 4) other (numV 5)) (hmakeV (hrun l i) 4) k v) (hmakeV (hrun l i) 4) other).p), .int .i64 ((hgetV (hset (hset (hmake (hrun l i) (newO 4 0 ByteArray.empty [])) (hmakeV (hrun l i) 4) other (numV 5)) (hmakeV (hrun l i) 4) k v) (hmakeV (hrun l i) 4) other).q), .string ((hgetV (hset (hset (hmake (hrun l i) (newO 4 0 ByteArray.empty [])) (hmakeV (hrun l i) 4) other (numV 5)) (hmakeV (hrun l i) 4) k v) (hmakeV (hrun l i) 4) other).str), .int .i64 ((hgetV (hset (hset (hmake (hrun l i) (newO 4 0 ByteArray.empty [])) (hmakeV (hrun l i) 4) other (numV 5)) (hmakeV (hrun l i) 4) k v) (hmakeV (hrun l i) 4) other).ref)]) ?_
        refine sp (.int .i64 (hgetE (hset (hset (hmake (hrun l i) (newO 4 0 ByteArray.empty [])) (hmakeV (hrun l i) 4) other (numV 5)) (hmakeV (hrun l i) 4) k v) (hmakeV (hrun l i) 4))) ?_
        refine s_alloc (.agg #[.int .i64 0, .int .i64 0, .int .i64 0, .string ByteArray.empty, .int .i64 0]) #[.int .i64 0, .int .i64 0, .int .i64 0, .string ByteArray.empty, .int .i64 0] (fun g88 => ?_)
        refine s_store 0 #[.int .i64 ((hgetV (hset (hset (hmake (hrun l i) (newO 4 0 ByteArray.empty [])) (hmakeV (hrun l i) 4) other (numV 5)) (hmakeV (hrun l i) 4) k v) (hmakeV (hrun l i) 4) other).kind), .int .i64 ((hgetV (hset (hset (hmake (hrun l i) (newO 4 0 ByteArray.empty [])) (hmakeV (hrun l i) 4) other (numV 5)) (hmakeV (hrun l i) 4) k v) (hmakeV (hrun l i) 4) other).p), .int .i64 ((hgetV (hset (hset (hmake (hrun l i) (newO 4 0 ByteArray.empty [])) (hmakeV (hrun l i) 4) other (numV 5)) (hmakeV (hrun l i) 4) k v) (hmakeV (hrun l i) 4) other).q), .string ((hgetV (hset (hset (hmake (hrun l i) (newO 4 0 ByteArray.empty [])) (hmakeV (hrun l i) 4) other (numV 5)) (hmakeV (hrun l i) 4) k v) (hmakeV (hrun l i) 4) other).str), .int .i64 ((hgetV (hset (hset (hmake (hrun l i) (newO 4 0 ByteArray.empty [])) (hmakeV (hrun l i) 4) other (numV 5)) (hmakeV (hrun l i) 4) k v) (hmakeV (hrun l i) 4) other).ref)] ?_
        refine sp (.int .i64 (hgetE (hset (hset (hmake (hrun l i) (newO 4 0 ByteArray.empty [])) (hmakeV (hrun l i) 4) other (numV 5)) (hmakeV (hrun l i) 4) k v) (hmakeV (hrun l i) 4))) ?_
        refine s_nt ?_
        refine k_seq ?_
        refine k_sr ?_
        refine sp (.int .i64 (hsetE (hset (hmake (hrun l i) (newO 4 0 ByteArray.empty [])) (hmakeV (hrun l i) 4) other (numV 5)) (hmakeV (hrun l i) 4) k v)) ?_
        refine s_lt (Lt.to t_cmp (congrArg Value.bool (decide_eq_false (fun h => hok ((kt1.setE k v).1 h)) : (decide ((hsetE (hset (hmake (hrun l i) (newO 4 0 ByteArray.empty [])) (hmakeV (hrun l i) 4) other (numV 5)) (hmakeV (hrun l i) 4) k v) = 0)) = false))) ?_
        refine sp (.bool false) ?_
        refine s_skip ?_
        refine s_skip ?_
        refine s_skip ?_
        refine sp (.bool false) ?_
        refine sp (.bool false) ?_
        refine s_lt (t_loadA 8 #[.int .i64 k.kind, .int .i64 k.p, .int .i64 k.q, .string k.str, .int .i64 k.ref]) ?_
        refine s_lt (t_loadA 6 #[.int .i64 other.kind, .int .i64 other.p, .int .i64 other.q, .string other.str, .int .i64 other.ref]) ?_
        refine s_lt (Lt.to (t_eqS (fun w => (eqVlT k other w).2)) (congrArg Value.bool ((congrArg Bool.not (decide_eq_false hko : (decide (k = other)) = false)).trans rfl : (!(decide (k = other))) = true))) ?_
        refine sp (.bool true) ?_
        refine s_lt (t_loadA 0 #[.int .i64 ((hgetV (hset (hset (hmake (hrun l i) (newO 4 0 ByteArray.empty [])) (hmakeV (hrun l i) 4) other (numV 5)) (hmakeV (hrun l i) 4) k v) (hmakeV (hrun l i) 4) other).kind), .int .i64 ((hgetV (hset (hset (hmake (hrun l i) (newO 4 0 ByteArray.empty [])) (hmakeV (hrun l i) 4) other (numV 5)) (hmakeV (hrun l i) 4) k v) (hmakeV (hrun l i) 4) other).p), .int .i64 ((hgetV (hset (hset (hmake (hrun l i) (newO 4 0 ByteArray.empty [])) (hmakeV (hrun l i) 4) other (numV 5)) (hmakeV (hrun l i) 4) k v) (hmakeV (hrun l i) 4) other).q), .string ((hgetV (hset (hset (hmake (hrun l i) (newO 4 0 ByteArray.empty [])) (hmakeV (hrun l i) 4) other (numV 5)) (hmakeV (hrun l i) 4) k v) (hmakeV (hrun l i) 4) other).str), .int .i64 ((hgetV (hset (hset (hmake (hrun l i) (newO 4 0 ByteArray.empty [])) (hmakeV (hrun l i) 4) other (numV 5)) (hmakeV (hrun l i) 4) k v) (hmakeV (hrun l i) 4) other).ref)]) ?_
        refine s_lt (t_loadA 3 #[.int .i64 ((hgetV (hset (hmake (hrun l i) (newO 4 0 ByteArray.empty [])) (hmakeV (hrun l i) 4) other (numV 5)) (hmakeV (hrun l i) 4) other).kind), .int .i64 ((hgetV (hset (hmake (hrun l i) (newO 4 0 ByteArray.empty [])) (hmakeV (hrun l i) 4) other (numV 5)) (hmakeV (hrun l i) 4) other).p), .int .i64 ((hgetV (hset (hmake (hrun l i) (newO 4 0 ByteArray.empty [])) (hmakeV (hrun l i) 4) other (numV 5)) (hmakeV (hrun l i) 4) other).q), .string ((hgetV (hset (hmake (hrun l i) (newO 4 0 ByteArray.empty [])) (hmakeV (hrun l i) 4) other (numV 5)) (hmakeV (hrun l i) 4) other).str), .int .i64 ((hgetV (hset (hmake (hrun l i) (newO 4 0 ByteArray.empty [])) (hmakeV (hrun l i) 4) other (numV 5)) (hmakeV (hrun l i) 4) other).ref)]) ?_
        refine s_lt (Lt.to (t_eqS (fun w => (eqVlT (hgetV (hset (hset (hmake (hrun l i) (newO 4 0 ByteArray.empty [])) (hmakeV (hrun l i) 4) other (numV 5)) (hmakeV (hrun l i) 4) k v) (hmakeV (hrun l i) 4) other) (hgetV (hset (hmake (hrun l i) (newO 4 0 ByteArray.empty [])) (hmakeV (hrun l i) 4) other (numV 5)) (hmakeV (hrun l i) 4) other) w).2)) (congrArg Value.bool ((congrArg Bool.not (decide_eq_true (kt1.get_bad hok other) : (decide ((hgetV (hset (hset (hmake (hrun l i) (newO 4 0 ByteArray.empty [])) (hmakeV (hrun l i) 4) other (numV 5)) (hmakeV (hrun l i) 4) k v) (hmakeV (hrun l i) 4) other) = (hgetV (hset (hmake (hrun l i) (newO 4 0 ByteArray.empty [])) (hmakeV (hrun l i) 4) other (numV 5)) (hmakeV (hrun l i) 4) other))) = true)).trans rfl : (!(decide ((hgetV (hset (hset (hmake (hrun l i) (newO 4 0 ByteArray.empty [])) (hmakeV (hrun l i) 4) other (numV 5)) (hmakeV (hrun l i) 4) k v) (hmakeV (hrun l i) 4) other) = (hgetV (hset (hmake (hrun l i) (newO 4 0 ByteArray.empty [])) (hmakeV (hrun l i) 4) other (numV 5)) (hmakeV (hrun l i) 4) other)))) = false))) ?_
        refine sp (.bool false) ?_
        refine sp (.bool false) ?_
        refine s_nt ?_
        refine k_false ?_
        refine k_st ?_
        refine k_seq ?_
        refine k_sr ?_
        refine sp (pB hb12 0) ?_
        refine sp (pB g22 4) ?_
        refine s_lt (t_load 4 (.int .i64 ((hmakeV (hrun l i) 4).ref))) ?_
        refine s_call [1] (hdrop_s (st := (hset (hset (hmake (hrun l i) (newO 4 0 ByteArray.empty [])) (hmakeV (hrun l i) 4) other (numV 5)) (hmakeV (hrun l i) 4) k v)) ((hmakeV (hrun l i) 4).ref)) ?_
        rintro _ _ ⟨rfl, rfl⟩
        have hi89 := drop_inv hi27 ((hmakeV (hrun l i) 4).ref)
        have hs90 := drop_sm hs28 ((hmakeV (hrun l i) 4).ref)
        have hw91 := drop_w hw29 ((hmakeV (hrun l i) 4).ref)
        refine s_lt (Lt.to t_cmp (congrArg Value.bool (decide_eq_false (fun h => h kt3.dropE) : (decide ((hdropE (hset (hset (hmake (hrun l i) (newO 4 0 ByteArray.empty [])) (hmakeV (hrun l i) 4) other (numV 5)) (hmakeV (hrun l i) 4) k v) ((hmakeV (hrun l i) 4).ref)) ≠ 0)) = false))) ?_
        refine s_nt ?_
        refine k_false ?_
        refine k_st ?_
        refine k_sr ?_
        refine sp (pB hb12 0) ?_
        refine s_lt (t_loadA 4 #[.int .i64 ((hmakeV (hrun l i) 4).kind), .int .i64 ((hmakeV (hrun l i) 4).p), .int .i64 ((hmakeV (hrun l i) 4).q), .string ((hmakeV (hrun l i) 4).str), .int .i64 ((hmakeV (hrun l i) 4).ref)]) ?_
        refine s_lt (t_loadA 8 #[.int .i64 k.kind, .int .i64 k.p, .int .i64 k.q, .string k.str, .int .i64 k.ref]) ?_
        refine s_call [0] (hget_s (st := (hdrop (hset (hset (hmake (hrun l i) (newO 4 0 ByteArray.empty [])) (hmakeV (hrun l i) 4) other (numV 5)) (hmakeV (hrun l i) 4) k v) ((hmakeV (hrun l i) 4).ref))) hs90 (by omega) (hmakeV (hrun l i) 4) k) ?_
        rintro _ _ ⟨rfl, rfl⟩
        refine sp (.tuple #[.agg #[.int .i64 ((hgetV (hdrop (hset (hset (hmake (hrun l i) (newO 4 0 ByteArray.empty [])) (hmakeV (hrun l i) 4) other (numV 5)) (hmakeV (hrun l i) 4) k v) ((hmakeV (hrun l i) 4).ref)) (hmakeV (hrun l i) 4) k).kind), .int .i64 ((hgetV (hdrop (hset (hset (hmake (hrun l i) (newO 4 0 ByteArray.empty [])) (hmakeV (hrun l i) 4) other (numV 5)) (hmakeV (hrun l i) 4) k v) ((hmakeV (hrun l i) 4).ref)) (hmakeV (hrun l i) 4) k).p), .int .i64 ((hgetV (hdrop (hset (hset (hmake (hrun l i) (newO 4 0 ByteArray.empty [])) (hmakeV (hrun l i) 4) other (numV 5)) (hmakeV (hrun l i) 4) k v) ((hmakeV (hrun l i) 4).ref)) (hmakeV (hrun l i) 4) k).q), .string ((hgetV (hdrop (hset (hset (hmake (hrun l i) (newO 4 0 ByteArray.empty [])) (hmakeV (hrun l i) 4) other (numV 5)) (hmakeV (hrun l i) 4) k v) ((hmakeV (hrun l i) 4).ref)) (hmakeV (hrun l i) 4) k).str), .int .i64 ((hgetV (hdrop (hset (hset (hmake (hrun l i) (newO 4 0 ByteArray.empty [])) (hmakeV (hrun l i) 4) other (numV 5)) (hmakeV (hrun l i) 4) k v) ((hmakeV (hrun l i) 4).ref)) (hmakeV (hrun l i) 4) k).ref)], .int .i64 (hgetE (hdrop (hset (hset (hmake (hrun l i) (newO 4 0 ByteArray.empty [])) (hmakeV (hrun l i) 4) other (numV 5)) (hmakeV (hrun l i) 4) k v) ((hmakeV (hrun l i) 4).ref)) (hmakeV (hrun l i) 4))]) ?_
        refine sp (.agg #[.int .i64 ((hgetV (hdrop (hset (hset (hmake (hrun l i) (newO 4 0 ByteArray.empty [])) (hmakeV (hrun l i) 4) other (numV 5)) (hmakeV (hrun l i) 4) k v) ((hmakeV (hrun l i) 4).ref)) (hmakeV (hrun l i) 4) k).kind), .int .i64 ((hgetV (hdrop (hset (hset (hmake (hrun l i) (newO 4 0 ByteArray.empty [])) (hmakeV (hrun l i) 4) other (numV 5)) (hmakeV (hrun l i) 4) k v) ((hmakeV (hrun l i) 4).ref)) (hmakeV (hrun l i) 4) k).p), .int .i64 ((hgetV (hdrop (hset (hset (hmake (hrun l i) (newO 4 0 ByteArray.empty [])) (hmakeV (hrun l i) 4) other (numV 5)) (hmakeV (hrun l i) 4) k v) ((hmakeV (hrun l i) 4).ref)) (hmakeV (hrun l i) 4) k).q), .string ((hgetV (hdrop (hset (hset (hmake (hrun l i) (newO 4 0 ByteArray.empty [])) (hmakeV (hrun l i) 4) other (numV 5)) (hmakeV (hrun l i) 4) k v) ((hmakeV (hrun l i) 4).ref)) (hmakeV (hrun l i) 4) k).str), .int .i64 ((hgetV (hdrop (hset (hset (hmake (hrun l i) (newO 4 0 ByteArray.empty [])) (hmakeV (hrun l i) 4) other (numV 5)) (hmakeV (hrun l i) 4) k v) ((hmakeV (hrun l i) 4).ref)) (hmakeV (hrun l i) 4) k).ref)]) ?_
        refine sp (.int .i64 (hgetE (hdrop (hset (hset (hmake (hrun l i) (newO 4 0 ByteArray.empty [])) (hmakeV (hrun l i) 4) other (numV 5)) (hmakeV (hrun l i) 4) k v) ((hmakeV (hrun l i) 4).ref)) (hmakeV (hrun l i) 4))) ?_
        refine s_alloc (.agg #[.int .i64 0, .int .i64 0, .int .i64 0, .string ByteArray.empty, .int .i64 0]) #[.int .i64 0, .int .i64 0, .int .i64 0, .string ByteArray.empty, .int .i64 0] (fun g92 => ?_)
        refine s_store 0 #[.int .i64 ((hgetV (hdrop (hset (hset (hmake (hrun l i) (newO 4 0 ByteArray.empty [])) (hmakeV (hrun l i) 4) other (numV 5)) (hmakeV (hrun l i) 4) k v) ((hmakeV (hrun l i) 4).ref)) (hmakeV (hrun l i) 4) k).kind), .int .i64 ((hgetV (hdrop (hset (hset (hmake (hrun l i) (newO 4 0 ByteArray.empty [])) (hmakeV (hrun l i) 4) other (numV 5)) (hmakeV (hrun l i) 4) k v) ((hmakeV (hrun l i) 4).ref)) (hmakeV (hrun l i) 4) k).p), .int .i64 ((hgetV (hdrop (hset (hset (hmake (hrun l i) (newO 4 0 ByteArray.empty [])) (hmakeV (hrun l i) 4) other (numV 5)) (hmakeV (hrun l i) 4) k v) ((hmakeV (hrun l i) 4).ref)) (hmakeV (hrun l i) 4) k).q), .string ((hgetV (hdrop (hset (hset (hmake (hrun l i) (newO 4 0 ByteArray.empty [])) (hmakeV (hrun l i) 4) other (numV 5)) (hmakeV (hrun l i) 4) k v) ((hmakeV (hrun l i) 4).ref)) (hmakeV (hrun l i) 4) k).str), .int .i64 ((hgetV (hdrop (hset (hset (hmake (hrun l i) (newO 4 0 ByteArray.empty [])) (hmakeV (hrun l i) 4) other (numV 5)) (hmakeV (hrun l i) 4) k v) ((hmakeV (hrun l i) 4).ref)) (hmakeV (hrun l i) 4) k).ref)] ?_
        refine sp (.int .i64 (hgetE (hdrop (hset (hset (hmake (hrun l i) (newO 4 0 ByteArray.empty [])) (hmakeV (hrun l i) 4) other (numV 5)) (hmakeV (hrun l i) 4) k v) ((hmakeV (hrun l i) 4).ref)) (hmakeV (hrun l i) 4))) ?_
        refine s_nr ?_
        refine sp (.int .i64 (hgetE (hdrop (hset (hset (hmake (hrun l i) (newO 4 0 ByteArray.empty [])) (hmakeV (hrun l i) 4) other (numV 5)) (hmakeV (hrun l i) 4) k v) ((hmakeV (hrun l i) 4).ref)) (hmakeV (hrun l i) 4))) ?_
        refine s_lt (Lt.to t_cmp (congrArg Value.bool (decide_eq_true kt3.gone : (decide ((hgetE (hdrop (hset (hset (hmake (hrun l i) (newO 4 0 ByteArray.empty [])) (hmakeV (hrun l i) 4) other (numV 5)) (hmakeV (hrun l i) 4) k v) ((hmakeV (hrun l i) 4).ref)) (hmakeV (hrun l i) 4)) = 8)) = true))) ?_
        refine sp (.bool true) ?_
        refine sp (pB hb12 0) ?_
        refine sp (pB g22 4) ?_
        refine s_lt (t_load 5 (.int .i64 ((hmakeV (hrun l i) 4).ref))) ?_
        refine s_call [1] (hdrop_s (st := (hdrop (hset (hset (hmake (hrun l i) (newO 4 0 ByteArray.empty [])) (hmakeV (hrun l i) 4) other (numV 5)) (hmakeV (hrun l i) 4) k v) ((hmakeV (hrun l i) 4).ref))) ((hmakeV (hrun l i) 4).ref)) ?_
        rintro _ _ ⟨rfl, rfl⟩
        have hi93 := drop_inv hi89 ((hmakeV (hrun l i) 4).ref)
        have hs94 := drop_sm hs90 ((hmakeV (hrun l i) 4).ref)
        have hw95 := drop_w hw91 ((hmakeV (hrun l i) 4).ref)
        refine s_lt (Lt.to t_cmp (congrArg Value.bool (decide_eq_true kt3.dead : (decide ((hdropE (hdrop (hset (hset (hmake (hrun l i) (newO 4 0 ByteArray.empty [])) (hmakeV (hrun l i) 4) other (numV 5)) (hmakeV (hrun l i) 4) k v) ((hmakeV (hrun l i) 4).ref)) ((hmakeV (hrun l i) 4).ref)) = 19)) = true))) ?_
        refine sp (.bool true) ?_
        refine sp (.bool true) ?_
        refine s_vcall (fun _ h => awake_s) ?_
        rintro _ rfl
        refine sp (.bool true) ?_
        refine sp (.bool true) ?_
        refine s_nt ?_
        refine k_ret ?_
        exact xs_fin [.bool true] [] (SI.tmp 8 SI.nil) (fun _ h => h.re [] [0, 0, 0, 0, 0, 0, 0, 0, 0, 0]) ⟨rfl, rfl⟩
      ·
       have hok : (okKey k = true ∧ validB v = true) := by exact ⟨okKey_iff.2 ⟨hvk, hk0⟩, hvv⟩
       by_cases hko : k = other
       ·
        refine k_sr ?_
        refine sp (.int .i64 (hsetE (hset (hmake (hrun l i) (newO 4 0 ByteArray.empty [])) (hmakeV (hrun l i) 4) other (numV 5)) (hmakeV (hrun l i) 4) k v)) ?_
        refine s_lt (Lt.to t_cmp (congrArg Value.bool (decide_eq_true ((kt1.setE k v).2 hok) : (decide ((hsetE (hset (hmake (hrun l i) (newO 4 0 ByteArray.empty [])) (hmakeV (hrun l i) 4) other (numV 5)) (hmakeV (hrun l i) 4) k v) = 0)) = true))) ?_
        refine sp (pB g1 0) ?_
        refine s_lt (t_load 6 (.int .i64 k.kind)) ?_
        refine s_lt (Lt.to t_cmp (congrArg Value.bool (decide_eq_true hk0 : (decide (k.kind ≠ 0)) = true))) ?_
        refine sp (.bool true) ?_
        refine s_lt (t_loadA 6 #[.int .i64 k.kind, .int .i64 k.p, .int .i64 k.q, .string k.str, .int .i64 k.ref]) ?_
        refine s_vcall (fun _ h => rvalid_s k) ?_
        rintro u97 e96
        obtain rfl : u97 = .bool true := e96.trans (congrArg Value.bool (hvk))
        refine sp (.bool true) ?_
        refine sp (.bool true) ?_
        refine s_lt (t_loadA 5 #[.int .i64 v.kind, .int .i64 v.p, .int .i64 v.q, .string v.str, .int .i64 v.ref]) ?_
        refine s_vcall (fun _ h => rvalid_s v) ?_
        rintro u99 e98
        obtain rfl : u99 = .bool true := e98.trans (congrArg Value.bool (hvv))
        refine sp (.bool true) ?_
        refine sp (.bool false) ?_
        refine s_nt ?_
        refine k_false ?_
        refine k_st ?_
        refine k_sr ?_
        refine sp (pB hb12 0) ?_
        refine s_lt (t_loadA 2 #[.int .i64 ((hmakeV (hrun l i) 4).kind), .int .i64 ((hmakeV (hrun l i) 4).p), .int .i64 ((hmakeV (hrun l i) 4).q), .string ((hmakeV (hrun l i) 4).str), .int .i64 ((hmakeV (hrun l i) 4).ref)]) ?_
        refine s_lt (t_loadA 6 #[.int .i64 k.kind, .int .i64 k.p, .int .i64 k.q, .string k.str, .int .i64 k.ref]) ?_
        refine s_call [0] (hget_s (st := (hset (hset (hmake (hrun l i) (newO 4 0 ByteArray.empty [])) (hmakeV (hrun l i) 4) other (numV 5)) (hmakeV (hrun l i) 4) k v)) hs28 (by omega) (hmakeV (hrun l i) 4) k) ?_
        rintro _ _ ⟨rfl, rfl⟩
        refine sp (.tuple #[.agg #[.int .i64 ((hgetV (hset (hset (hmake (hrun l i) (newO 4 0 ByteArray.empty [])) (hmakeV (hrun l i) 4) other (numV 5)) (hmakeV (hrun l i) 4) k v) (hmakeV (hrun l i) 4) k).kind), .int .i64 ((hgetV (hset (hset (hmake (hrun l i) (newO 4 0 ByteArray.empty [])) (hmakeV (hrun l i) 4) other (numV 5)) (hmakeV (hrun l i) 4) k v) (hmakeV (hrun l i) 4) k).p), .int .i64 ((hgetV (hset (hset (hmake (hrun l i) (newO 4 0 ByteArray.empty [])) (hmakeV (hrun l i) 4) other (numV 5)) (hmakeV (hrun l i) 4) k v) (hmakeV (hrun l i) 4) k).q), .string ((hgetV (hset (hset (hmake (hrun l i) (newO 4 0 ByteArray.empty [])) (hmakeV (hrun l i) 4) other (numV 5)) (hmakeV (hrun l i) 4) k v) (hmakeV (hrun l i) 4) k).str), .int .i64 ((hgetV (hset (hset (hmake (hrun l i) (newO 4 0 ByteArray.empty [])) (hmakeV (hrun l i) 4) other (numV 5)) (hmakeV (hrun l i) 4) k v) (hmakeV (hrun l i) 4) k).ref)], .int .i64 (hgetE (hset (hset (hmake (hrun l i) (newO 4 0 ByteArray.empty [])) (hmakeV (hrun l i) 4) other (numV 5)) (hmakeV (hrun l i) 4) k v) (hmakeV (hrun l i) 4))]) ?_
        refine sp (.agg #[.int .i64 ((hgetV (hset (hset (hmake (hrun l i) (newO 4 0 ByteArray.empty [])) (hmakeV (hrun l i) 4) other (numV 5)) (hmakeV (hrun l i) 4) k v) (hmakeV (hrun l i) 4) k).kind), .int .i64 ((hgetV (hset (hset (hmake (hrun l i) (newO 4 0 ByteArray.empty [])) (hmakeV (hrun l i) 4) other (numV 5)) (hmakeV (hrun l i) 4) k v) (hmakeV (hrun l i) 4) k).p), .int .i64 ((hgetV (hset (hset (hmake (hrun l i) (newO 4 0 ByteArray.empty [])) (hmakeV (hrun l i) 4) other (numV 5)) (hmakeV (hrun l i) 4) k v) (hmakeV (hrun l i) 4) k).q), .string ((hgetV (hset (hset (hmake (hrun l i) (newO 4 0 ByteArray.empty [])) (hmakeV (hrun l i) 4) other (numV 5)) (hmakeV (hrun l i) 4) k v) (hmakeV (hrun l i) 4) k).str), .int .i64 ((hgetV (hset (hset (hmake (hrun l i) (newO 4 0 ByteArray.empty [])) (hmakeV (hrun l i) 4) other (numV 5)) (hmakeV (hrun l i) 4) k v) (hmakeV (hrun l i) 4) k).ref)]) ?_
        refine sp (.int .i64 (hgetE (hset (hset (hmake (hrun l i) (newO 4 0 ByteArray.empty [])) (hmakeV (hrun l i) 4) other (numV 5)) (hmakeV (hrun l i) 4) k v) (hmakeV (hrun l i) 4))) ?_
        refine s_alloc (.agg #[.int .i64 0, .int .i64 0, .int .i64 0, .string ByteArray.empty, .int .i64 0]) #[.int .i64 0, .int .i64 0, .int .i64 0, .string ByteArray.empty, .int .i64 0] (fun g100 => ?_)
        refine s_store 0 #[.int .i64 ((hgetV (hset (hset (hmake (hrun l i) (newO 4 0 ByteArray.empty [])) (hmakeV (hrun l i) 4) other (numV 5)) (hmakeV (hrun l i) 4) k v) (hmakeV (hrun l i) 4) k).kind), .int .i64 ((hgetV (hset (hset (hmake (hrun l i) (newO 4 0 ByteArray.empty [])) (hmakeV (hrun l i) 4) other (numV 5)) (hmakeV (hrun l i) 4) k v) (hmakeV (hrun l i) 4) k).p), .int .i64 ((hgetV (hset (hset (hmake (hrun l i) (newO 4 0 ByteArray.empty [])) (hmakeV (hrun l i) 4) other (numV 5)) (hmakeV (hrun l i) 4) k v) (hmakeV (hrun l i) 4) k).q), .string ((hgetV (hset (hset (hmake (hrun l i) (newO 4 0 ByteArray.empty [])) (hmakeV (hrun l i) 4) other (numV 5)) (hmakeV (hrun l i) 4) k v) (hmakeV (hrun l i) 4) k).str), .int .i64 ((hgetV (hset (hset (hmake (hrun l i) (newO 4 0 ByteArray.empty [])) (hmakeV (hrun l i) 4) other (numV 5)) (hmakeV (hrun l i) 4) k v) (hmakeV (hrun l i) 4) k).ref)] ?_
        refine sp (.int .i64 (hgetE (hset (hset (hmake (hrun l i) (newO 4 0 ByteArray.empty [])) (hmakeV (hrun l i) 4) other (numV 5)) (hmakeV (hrun l i) 4) k v) (hmakeV (hrun l i) 4))) ?_
        refine s_nr ?_
        refine sp (pB hb12 0) ?_
        refine s_lt (t_loadA 3 #[.int .i64 ((hmakeV (hrun l i) 4).kind), .int .i64 ((hmakeV (hrun l i) 4).p), .int .i64 ((hmakeV (hrun l i) 4).q), .string ((hmakeV (hrun l i) 4).str), .int .i64 ((hmakeV (hrun l i) 4).ref)]) ?_
        refine s_lt (t_loadA 5 #[.int .i64 other.kind, .int .i64 other.p, .int .i64 other.q, .string other.str, .int .i64 other.ref]) ?_
        refine s_call [1] (hget_s (st := (hset (hset (hmake (hrun l i) (newO 4 0 ByteArray.empty [])) (hmakeV (hrun l i) 4) other (numV 5)) (hmakeV (hrun l i) 4) k v)) hs28 (by omega) (hmakeV (hrun l i) 4) other) ?_
        rintro _ _ ⟨rfl, rfl⟩
        refine sp (.tuple #[.agg #[.int .i64 ((hgetV (hset (hset (hmake (hrun l i) (newO 4 0 ByteArray.empty [])) (hmakeV (hrun l i) 4) other (numV 5)) (hmakeV (hrun l i) 4) k v) (hmakeV (hrun l i) 4) other).kind), .int .i64 ((hgetV (hset (hset (hmake (hrun l i) (newO 4 0 ByteArray.empty [])) (hmakeV (hrun l i) 4) other (numV 5)) (hmakeV (hrun l i) 4) k v) (hmakeV (hrun l i) 4) other).p), .int .i64 ((hgetV (hset (hset (hmake (hrun l i) (newO 4 0 ByteArray.empty [])) (hmakeV (hrun l i) 4) other (numV 5)) (hmakeV (hrun l i) 4) k v) (hmakeV (hrun l i) 4) other).q), .string ((hgetV (hset (hset (hmake (hrun l i) (newO 4 0 ByteArray.empty [])) (hmakeV (hrun l i) 4) other (numV 5)) (hmakeV (hrun l i) 4) k v) (hmakeV (hrun l i) 4) other).str), .int .i64 ((hgetV (hset (hset (hmake (hrun l i) (newO 4 0 ByteArray.empty [])) (hmakeV (hrun l i) 4) other (numV 5)) (hmakeV (hrun l i) 4) k v) (hmakeV (hrun l i) 4) other).ref)], .int .i64 (hgetE (hset (hset (hmake (hrun l i) (newO 4 0 ByteArray.empty [])) (hmakeV (hrun l i) 4) other (numV 5)) (hmakeV (hrun l i) 4) k v) (hmakeV (hrun l i) 4))]) ?_
        refine sp (.agg #[.int .i64 ((hgetV (hset (hset (hmake (hrun l i) (newO 4 0 ByteArray.empty [])) (hmakeV (hrun l i) 4) other (numV 5)) (hmakeV (hrun l i) 4) k v) (hmakeV (hrun l i) 4) other).kind), .int .i64 ((hgetV (hset (hset (hmake (hrun l i) (newO 4 0 ByteArray.empty [])) (hmakeV (hrun l i) 4) other (numV 5)) (hmakeV (hrun l i) 4) k v) (hmakeV (hrun l i) 4) other).p), .int .i64 ((hgetV (hset (hset (hmake (hrun l i) (newO 4 0 ByteArray.empty [])) (hmakeV (hrun l i) 4) other (numV 5)) (hmakeV (hrun l i) 4) k v) (hmakeV (hrun l i) 4) other).q), .string ((hgetV (hset (hset (hmake (hrun l i) (newO 4 0 ByteArray.empty [])) (hmakeV (hrun l i) 4) other (numV 5)) (hmakeV (hrun l i) 4) k v) (hmakeV (hrun l i) 4) other).str), .int .i64 ((hgetV (hset (hset (hmake (hrun l i) (newO 4 0 ByteArray.empty [])) (hmakeV (hrun l i) 4) other (numV 5)) (hmakeV (hrun l i) 4) k v) (hmakeV (hrun l i) 4) other).ref)]) ?_
        refine sp (.int .i64 (hgetE (hset (hset (hmake (hrun l i) (newO 4 0 ByteArray.empty [])) (hmakeV (hrun l i) 4) other (numV 5)) (hmakeV (hrun l i) 4) k v) (hmakeV (hrun l i) 4))) ?_
        refine s_alloc (.agg #[.int .i64 0, .int .i64 0, .int .i64 0, .string ByteArray.empty, .int .i64 0]) #[.int .i64 0, .int .i64 0, .int .i64 0, .string ByteArray.empty, .int .i64 0] (fun g101 => ?_)
        refine s_store 0 #[.int .i64 ((hgetV (hset (hset (hmake (hrun l i) (newO 4 0 ByteArray.empty [])) (hmakeV (hrun l i) 4) other (numV 5)) (hmakeV (hrun l i) 4) k v) (hmakeV (hrun l i) 4) other).kind), .int .i64 ((hgetV (hset (hset (hmake (hrun l i) (newO 4 0 ByteArray.empty [])) (hmakeV (hrun l i) 4) other (numV 5)) (hmakeV (hrun l i) 4) k v) (hmakeV (hrun l i) 4) other).p), .int .i64 ((hgetV (hset (hset (hmake (hrun l i) (newO 4 0 ByteArray.empty [])) (hmakeV (hrun l i) 4) other (numV 5)) (hmakeV (hrun l i) 4) k v) (hmakeV (hrun l i) 4) other).q), .string ((hgetV (hset (hset (hmake (hrun l i) (newO 4 0 ByteArray.empty [])) (hmakeV (hrun l i) 4) other (numV 5)) (hmakeV (hrun l i) 4) k v) (hmakeV (hrun l i) 4) other).str), .int .i64 ((hgetV (hset (hset (hmake (hrun l i) (newO 4 0 ByteArray.empty [])) (hmakeV (hrun l i) 4) other (numV 5)) (hmakeV (hrun l i) 4) k v) (hmakeV (hrun l i) 4) other).ref)] ?_
        refine sp (.int .i64 (hgetE (hset (hset (hmake (hrun l i) (newO 4 0 ByteArray.empty [])) (hmakeV (hrun l i) 4) other (numV 5)) (hmakeV (hrun l i) 4) k v) (hmakeV (hrun l i) 4))) ?_
        refine s_nt ?_
        refine k_seq ?_
        refine k_sr ?_
        refine sp (.int .i64 (hsetE (hset (hmake (hrun l i) (newO 4 0 ByteArray.empty [])) (hmakeV (hrun l i) 4) other (numV 5)) (hmakeV (hrun l i) 4) k v)) ?_
        refine s_lt (Lt.to t_cmp (congrArg Value.bool (decide_eq_true ((kt1.setE k v).2 hok) : (decide ((hsetE (hset (hmake (hrun l i) (newO 4 0 ByteArray.empty [])) (hmakeV (hrun l i) 4) other (numV 5)) (hmakeV (hrun l i) 4) k v) = 0)) = true))) ?_
        refine sp (.bool true) ?_
        refine s_lt (t_loadA 2 #[.int .i64 ((hgetV (hset (hset (hmake (hrun l i) (newO 4 0 ByteArray.empty [])) (hmakeV (hrun l i) 4) other (numV 5)) (hmakeV (hrun l i) 4) k v) (hmakeV (hrun l i) 4) k).kind), .int .i64 ((hgetV (hset (hset (hmake (hrun l i) (newO 4 0 ByteArray.empty [])) (hmakeV (hrun l i) 4) other (numV 5)) (hmakeV (hrun l i) 4) k v) (hmakeV (hrun l i) 4) k).p), .int .i64 ((hgetV (hset (hset (hmake (hrun l i) (newO 4 0 ByteArray.empty [])) (hmakeV (hrun l i) 4) other (numV 5)) (hmakeV (hrun l i) 4) k v) (hmakeV (hrun l i) 4) k).q), .string ((hgetV (hset (hset (hmake (hrun l i) (newO 4 0 ByteArray.empty [])) (hmakeV (hrun l i) 4) other (numV 5)) (hmakeV (hrun l i) 4) k v) (hmakeV (hrun l i) 4) k).str), .int .i64 ((hgetV (hset (hset (hmake (hrun l i) (newO 4 0 ByteArray.empty [])) (hmakeV (hrun l i) 4) other (numV 5)) (hmakeV (hrun l i) 4) k v) (hmakeV (hrun l i) 4) k).ref)]) ?_
        refine s_lt (t_loadA 7 #[.int .i64 v.kind, .int .i64 v.p, .int .i64 v.q, .string v.str, .int .i64 v.ref]) ?_
        refine s_lt (Lt.to (t_eqS (fun w => (eqVlT (hgetV (hset (hset (hmake (hrun l i) (newO 4 0 ByteArray.empty [])) (hmakeV (hrun l i) 4) other (numV 5)) (hmakeV (hrun l i) 4) k v) (hmakeV (hrun l i) 4) k) v w).2)) (congrArg Value.bool ((congrArg Bool.not (decide_eq_true ((kt1.get_set hok.1 hok.2 k).trans (if_pos rfl)) : (decide ((hgetV (hset (hset (hmake (hrun l i) (newO 4 0 ByteArray.empty [])) (hmakeV (hrun l i) 4) other (numV 5)) (hmakeV (hrun l i) 4) k v) (hmakeV (hrun l i) 4) k) = v)) = true)).trans rfl : (!(decide ((hgetV (hset (hset (hmake (hrun l i) (newO 4 0 ByteArray.empty [])) (hmakeV (hrun l i) 4) other (numV 5)) (hmakeV (hrun l i) 4) k v) (hmakeV (hrun l i) 4) k) = v))) = false))) ?_
        refine sp (.bool false) ?_
        refine sp (.bool false) ?_
        refine s_lt (t_loadA 8 #[.int .i64 k.kind, .int .i64 k.p, .int .i64 k.q, .string k.str, .int .i64 k.ref]) ?_
        refine s_lt (t_loadA 6 #[.int .i64 other.kind, .int .i64 other.p, .int .i64 other.q, .string other.str, .int .i64 other.ref]) ?_
        refine s_lt (Lt.to (t_eqS (fun w => (eqVlT k other w).2)) (congrArg Value.bool ((congrArg Bool.not (decide_eq_true hko : (decide (k = other)) = true)).trans rfl : (!(decide (k = other))) = false))) ?_
        refine sp (.bool false) ?_
        refine s_skip ?_
        refine s_skip ?_
        refine s_skip ?_
        refine sp (.bool false) ?_
        refine sp (.bool false) ?_
        refine s_nt ?_
        refine k_false ?_
        refine k_st ?_
        refine k_seq ?_
        refine k_sr ?_
        refine sp (pB hb12 0) ?_
        refine sp (pB g22 4) ?_
        refine s_lt (t_load 4 (.int .i64 ((hmakeV (hrun l i) 4).ref))) ?_
        refine s_call [1] (hdrop_s (st := (hset (hset (hmake (hrun l i) (newO 4 0 ByteArray.empty [])) (hmakeV (hrun l i) 4) other (numV 5)) (hmakeV (hrun l i) 4) k v)) ((hmakeV (hrun l i) 4).ref)) ?_
        rintro _ _ ⟨rfl, rfl⟩
        have hi102 := drop_inv hi27 ((hmakeV (hrun l i) 4).ref)
        have hs103 := drop_sm hs28 ((hmakeV (hrun l i) 4).ref)
        have hw104 := drop_w hw29 ((hmakeV (hrun l i) 4).ref)
        refine s_lt (Lt.to t_cmp (congrArg Value.bool (decide_eq_false (fun h => h kt3.dropE) : (decide ((hdropE (hset (hset (hmake (hrun l i) (newO 4 0 ByteArray.empty [])) (hmakeV (hrun l i) 4) other (numV 5)) (hmakeV (hrun l i) 4) k v) ((hmakeV (hrun l i) 4).ref)) ≠ 0)) = false))) ?_
        refine s_nt ?_
        refine k_false ?_
        refine k_st ?_
        refine k_sr ?_
        refine sp (pB hb12 0) ?_
        refine s_lt (t_loadA 4 #[.int .i64 ((hmakeV (hrun l i) 4).kind), .int .i64 ((hmakeV (hrun l i) 4).p), .int .i64 ((hmakeV (hrun l i) 4).q), .string ((hmakeV (hrun l i) 4).str), .int .i64 ((hmakeV (hrun l i) 4).ref)]) ?_
        refine s_lt (t_loadA 8 #[.int .i64 k.kind, .int .i64 k.p, .int .i64 k.q, .string k.str, .int .i64 k.ref]) ?_
        refine s_call [0] (hget_s (st := (hdrop (hset (hset (hmake (hrun l i) (newO 4 0 ByteArray.empty [])) (hmakeV (hrun l i) 4) other (numV 5)) (hmakeV (hrun l i) 4) k v) ((hmakeV (hrun l i) 4).ref))) hs103 (by omega) (hmakeV (hrun l i) 4) k) ?_
        rintro _ _ ⟨rfl, rfl⟩
        refine sp (.tuple #[.agg #[.int .i64 ((hgetV (hdrop (hset (hset (hmake (hrun l i) (newO 4 0 ByteArray.empty [])) (hmakeV (hrun l i) 4) other (numV 5)) (hmakeV (hrun l i) 4) k v) ((hmakeV (hrun l i) 4).ref)) (hmakeV (hrun l i) 4) k).kind), .int .i64 ((hgetV (hdrop (hset (hset (hmake (hrun l i) (newO 4 0 ByteArray.empty [])) (hmakeV (hrun l i) 4) other (numV 5)) (hmakeV (hrun l i) 4) k v) ((hmakeV (hrun l i) 4).ref)) (hmakeV (hrun l i) 4) k).p), .int .i64 ((hgetV (hdrop (hset (hset (hmake (hrun l i) (newO 4 0 ByteArray.empty [])) (hmakeV (hrun l i) 4) other (numV 5)) (hmakeV (hrun l i) 4) k v) ((hmakeV (hrun l i) 4).ref)) (hmakeV (hrun l i) 4) k).q), .string ((hgetV (hdrop (hset (hset (hmake (hrun l i) (newO 4 0 ByteArray.empty [])) (hmakeV (hrun l i) 4) other (numV 5)) (hmakeV (hrun l i) 4) k v) ((hmakeV (hrun l i) 4).ref)) (hmakeV (hrun l i) 4) k).str), .int .i64 ((hgetV (hdrop (hset (hset (hmake (hrun l i) (newO 4 0 ByteArray.empty [])) (hmakeV (hrun l i) 4) other (numV 5)) (hmakeV (hrun l i) 4) k v) ((hmakeV (hrun l i) 4).ref)) (hmakeV (hrun l i) 4) k).ref)], .int .i64 (hgetE (hdrop (hset (hset (hmake (hrun l i) (newO 4 0 ByteArray.empty [])) (hmakeV (hrun l i) 4) other (numV 5)) (hmakeV (hrun l i) 4) k v) ((hmakeV (hrun l i) 4).ref)) (hmakeV (hrun l i) 4))]) ?_
        refine sp (.agg #[.int .i64 ((hgetV (hdrop (hset (hset (hmake (hrun l i) (newO 4 0 ByteArray.empty [])) (hmakeV (hrun l i) 4) other (numV 5)) (hmakeV (hrun l i) 4) k v) ((hmakeV (hrun l i) 4).ref)) (hmakeV (hrun l i) 4) k).kind), .int .i64 ((hgetV (hdrop (hset (hset (hmake (hrun l i) (newO 4 0 ByteArray.empty [])) (hmakeV (hrun l i) 4) other (numV 5)) (hmakeV (hrun l i) 4) k v) ((hmakeV (hrun l i) 4).ref)) (hmakeV (hrun l i) 4) k).p), .int .i64 ((hgetV (hdrop (hset (hset (hmake (hrun l i) (newO 4 0 ByteArray.empty [])) (hmakeV (hrun l i) 4) other (numV 5)) (hmakeV (hrun l i) 4) k v) ((hmakeV (hrun l i) 4).ref)) (hmakeV (hrun l i) 4) k).q), .string ((hgetV (hdrop (hset (hset (hmake (hrun l i) (newO 4 0 ByteArray.empty [])) (hmakeV (hrun l i) 4) other (numV 5)) (hmakeV (hrun l i) 4) k v) ((hmakeV (hrun l i) 4).ref)) (hmakeV (hrun l i) 4) k).str), .int .i64 ((hgetV (hdrop (hset (hset (hmake (hrun l i) (newO 4 0 ByteArray.empty [])) (hmakeV (hrun l i) 4) other (numV 5)) (hmakeV (hrun l i) 4) k v) ((hmakeV (hrun l i) 4).ref)) (hmakeV (hrun l i) 4) k).ref)]) ?_
        refine sp (.int .i64 (hgetE (hdrop (hset (hset (hmake (hrun l i) (newO 4 0 ByteArray.empty [])) (hmakeV (hrun l i) 4) other (numV 5)) (hmakeV (hrun l i) 4) k v) ((hmakeV (hrun l i) 4).ref)) (hmakeV (hrun l i) 4))) ?_
        refine s_alloc (.agg #[.int .i64 0, .int .i64 0, .int .i64 0, .string ByteArray.empty, .int .i64 0]) #[.int .i64 0, .int .i64 0, .int .i64 0, .string ByteArray.empty, .int .i64 0] (fun g105 => ?_)
        refine s_store 0 #[.int .i64 ((hgetV (hdrop (hset (hset (hmake (hrun l i) (newO 4 0 ByteArray.empty [])) (hmakeV (hrun l i) 4) other (numV 5)) (hmakeV (hrun l i) 4) k v) ((hmakeV (hrun l i) 4).ref)) (hmakeV (hrun l i) 4) k).kind), .int .i64 ((hgetV (hdrop (hset (hset (hmake (hrun l i) (newO 4 0 ByteArray.empty [])) (hmakeV (hrun l i) 4) other (numV 5)) (hmakeV (hrun l i) 4) k v) ((hmakeV (hrun l i) 4).ref)) (hmakeV (hrun l i) 4) k).p), .int .i64 ((hgetV (hdrop (hset (hset (hmake (hrun l i) (newO 4 0 ByteArray.empty [])) (hmakeV (hrun l i) 4) other (numV 5)) (hmakeV (hrun l i) 4) k v) ((hmakeV (hrun l i) 4).ref)) (hmakeV (hrun l i) 4) k).q), .string ((hgetV (hdrop (hset (hset (hmake (hrun l i) (newO 4 0 ByteArray.empty [])) (hmakeV (hrun l i) 4) other (numV 5)) (hmakeV (hrun l i) 4) k v) ((hmakeV (hrun l i) 4).ref)) (hmakeV (hrun l i) 4) k).str), .int .i64 ((hgetV (hdrop (hset (hset (hmake (hrun l i) (newO 4 0 ByteArray.empty [])) (hmakeV (hrun l i) 4) other (numV 5)) (hmakeV (hrun l i) 4) k v) ((hmakeV (hrun l i) 4).ref)) (hmakeV (hrun l i) 4) k).ref)] ?_
        refine sp (.int .i64 (hgetE (hdrop (hset (hset (hmake (hrun l i) (newO 4 0 ByteArray.empty [])) (hmakeV (hrun l i) 4) other (numV 5)) (hmakeV (hrun l i) 4) k v) ((hmakeV (hrun l i) 4).ref)) (hmakeV (hrun l i) 4))) ?_
        refine s_nr ?_
        refine sp (.int .i64 (hgetE (hdrop (hset (hset (hmake (hrun l i) (newO 4 0 ByteArray.empty [])) (hmakeV (hrun l i) 4) other (numV 5)) (hmakeV (hrun l i) 4) k v) ((hmakeV (hrun l i) 4).ref)) (hmakeV (hrun l i) 4))) ?_
        refine s_lt (Lt.to t_cmp (congrArg Value.bool (decide_eq_true kt3.gone : (decide ((hgetE (hdrop (hset (hset (hmake (hrun l i) (newO 4 0 ByteArray.empty [])) (hmakeV (hrun l i) 4) other (numV 5)) (hmakeV (hrun l i) 4) k v) ((hmakeV (hrun l i) 4).ref)) (hmakeV (hrun l i) 4)) = 8)) = true))) ?_
        refine sp (.bool true) ?_
        refine sp (pB hb12 0) ?_
        refine sp (pB g22 4) ?_
        refine s_lt (t_load 5 (.int .i64 ((hmakeV (hrun l i) 4).ref))) ?_
        refine s_call [1] (hdrop_s (st := (hdrop (hset (hset (hmake (hrun l i) (newO 4 0 ByteArray.empty [])) (hmakeV (hrun l i) 4) other (numV 5)) (hmakeV (hrun l i) 4) k v) ((hmakeV (hrun l i) 4).ref))) ((hmakeV (hrun l i) 4).ref)) ?_
        rintro _ _ ⟨rfl, rfl⟩
        have hi106 := drop_inv hi102 ((hmakeV (hrun l i) 4).ref)
        have hs107 := drop_sm hs103 ((hmakeV (hrun l i) 4).ref)
        have hw108 := drop_w hw104 ((hmakeV (hrun l i) 4).ref)
        refine s_lt (Lt.to t_cmp (congrArg Value.bool (decide_eq_true kt3.dead : (decide ((hdropE (hdrop (hset (hset (hmake (hrun l i) (newO 4 0 ByteArray.empty [])) (hmakeV (hrun l i) 4) other (numV 5)) (hmakeV (hrun l i) 4) k v) ((hmakeV (hrun l i) 4).ref)) ((hmakeV (hrun l i) 4).ref)) = 19)) = true))) ?_
        refine sp (.bool true) ?_
        refine sp (.bool true) ?_
        refine s_vcall (fun _ h => awake_s) ?_
        rintro _ rfl
        refine sp (.bool true) ?_
        refine sp (.bool true) ?_
        refine s_nt ?_
        refine k_ret ?_
        exact xs_fin [.bool true] [] (SI.tmp 8 SI.nil) (fun _ h => h.re [] [0, 0, 0, 0, 0, 0, 0, 0, 0, 0]) ⟨rfl, rfl⟩
       ·
        refine k_sr ?_
        refine sp (.int .i64 (hsetE (hset (hmake (hrun l i) (newO 4 0 ByteArray.empty [])) (hmakeV (hrun l i) 4) other (numV 5)) (hmakeV (hrun l i) 4) k v)) ?_
        refine s_lt (Lt.to t_cmp (congrArg Value.bool (decide_eq_true ((kt1.setE k v).2 hok) : (decide ((hsetE (hset (hmake (hrun l i) (newO 4 0 ByteArray.empty [])) (hmakeV (hrun l i) 4) other (numV 5)) (hmakeV (hrun l i) 4) k v) = 0)) = true))) ?_
        refine sp (pB g1 0) ?_
        refine s_lt (t_load 6 (.int .i64 k.kind)) ?_
        refine s_lt (Lt.to t_cmp (congrArg Value.bool (decide_eq_true hk0 : (decide (k.kind ≠ 0)) = true))) ?_
        refine sp (.bool true) ?_
        refine s_lt (t_loadA 6 #[.int .i64 k.kind, .int .i64 k.p, .int .i64 k.q, .string k.str, .int .i64 k.ref]) ?_
        refine s_vcall (fun _ h => rvalid_s k) ?_
        rintro u110 e109
        obtain rfl : u110 = .bool true := e109.trans (congrArg Value.bool (hvk))
        refine sp (.bool true) ?_
        refine sp (.bool true) ?_
        refine s_lt (t_loadA 5 #[.int .i64 v.kind, .int .i64 v.p, .int .i64 v.q, .string v.str, .int .i64 v.ref]) ?_
        refine s_vcall (fun _ h => rvalid_s v) ?_
        rintro u112 e111
        obtain rfl : u112 = .bool true := e111.trans (congrArg Value.bool (hvv))
        refine sp (.bool true) ?_
        refine sp (.bool false) ?_
        refine s_nt ?_
        refine k_false ?_
        refine k_st ?_
        refine k_sr ?_
        refine sp (pB hb12 0) ?_
        refine s_lt (t_loadA 2 #[.int .i64 ((hmakeV (hrun l i) 4).kind), .int .i64 ((hmakeV (hrun l i) 4).p), .int .i64 ((hmakeV (hrun l i) 4).q), .string ((hmakeV (hrun l i) 4).str), .int .i64 ((hmakeV (hrun l i) 4).ref)]) ?_
        refine s_lt (t_loadA 6 #[.int .i64 k.kind, .int .i64 k.p, .int .i64 k.q, .string k.str, .int .i64 k.ref]) ?_
        refine s_call [0] (hget_s (st := (hset (hset (hmake (hrun l i) (newO 4 0 ByteArray.empty [])) (hmakeV (hrun l i) 4) other (numV 5)) (hmakeV (hrun l i) 4) k v)) hs28 (by omega) (hmakeV (hrun l i) 4) k) ?_
        rintro _ _ ⟨rfl, rfl⟩
        refine sp (.tuple #[.agg #[.int .i64 ((hgetV (hset (hset (hmake (hrun l i) (newO 4 0 ByteArray.empty [])) (hmakeV (hrun l i) 4) other (numV 5)) (hmakeV (hrun l i) 4) k v) (hmakeV (hrun l i) 4) k).kind), .int .i64 ((hgetV (hset (hset (hmake (hrun l i) (newO 4 0 ByteArray.empty [])) (hmakeV (hrun l i) 4) other (numV 5)) (hmakeV (hrun l i) 4) k v) (hmakeV (hrun l i) 4) k).p), .int .i64 ((hgetV (hset (hset (hmake (hrun l i) (newO 4 0 ByteArray.empty [])) (hmakeV (hrun l i) 4) other (numV 5)) (hmakeV (hrun l i) 4) k v) (hmakeV (hrun l i) 4) k).q), .string ((hgetV (hset (hset (hmake (hrun l i) (newO 4 0 ByteArray.empty [])) (hmakeV (hrun l i) 4) other (numV 5)) (hmakeV (hrun l i) 4) k v) (hmakeV (hrun l i) 4) k).str), .int .i64 ((hgetV (hset (hset (hmake (hrun l i) (newO 4 0 ByteArray.empty [])) (hmakeV (hrun l i) 4) other (numV 5)) (hmakeV (hrun l i) 4) k v) (hmakeV (hrun l i) 4) k).ref)], .int .i64 (hgetE (hset (hset (hmake (hrun l i) (newO 4 0 ByteArray.empty [])) (hmakeV (hrun l i) 4) other (numV 5)) (hmakeV (hrun l i) 4) k v) (hmakeV (hrun l i) 4))]) ?_
        refine sp (.agg #[.int .i64 ((hgetV (hset (hset (hmake (hrun l i) (newO 4 0 ByteArray.empty [])) (hmakeV (hrun l i) 4) other (numV 5)) (hmakeV (hrun l i) 4) k v) (hmakeV (hrun l i) 4) k).kind), .int .i64 ((hgetV (hset (hset (hmake (hrun l i) (newO 4 0 ByteArray.empty [])) (hmakeV (hrun l i) 4) other (numV 5)) (hmakeV (hrun l i) 4) k v) (hmakeV (hrun l i) 4) k).p), .int .i64 ((hgetV (hset (hset (hmake (hrun l i) (newO 4 0 ByteArray.empty [])) (hmakeV (hrun l i) 4) other (numV 5)) (hmakeV (hrun l i) 4) k v) (hmakeV (hrun l i) 4) k).q), .string ((hgetV (hset (hset (hmake (hrun l i) (newO 4 0 ByteArray.empty [])) (hmakeV (hrun l i) 4) other (numV 5)) (hmakeV (hrun l i) 4) k v) (hmakeV (hrun l i) 4) k).str), .int .i64 ((hgetV (hset (hset (hmake (hrun l i) (newO 4 0 ByteArray.empty [])) (hmakeV (hrun l i) 4) other (numV 5)) (hmakeV (hrun l i) 4) k v) (hmakeV (hrun l i) 4) k).ref)]) ?_
        refine sp (.int .i64 (hgetE (hset (hset (hmake (hrun l i) (newO 4 0 ByteArray.empty [])) (hmakeV (hrun l i) 4) other (numV 5)) (hmakeV (hrun l i) 4) k v) (hmakeV (hrun l i) 4))) ?_
        refine s_alloc (.agg #[.int .i64 0, .int .i64 0, .int .i64 0, .string ByteArray.empty, .int .i64 0]) #[.int .i64 0, .int .i64 0, .int .i64 0, .string ByteArray.empty, .int .i64 0] (fun g113 => ?_)
        refine s_store 0 #[.int .i64 ((hgetV (hset (hset (hmake (hrun l i) (newO 4 0 ByteArray.empty [])) (hmakeV (hrun l i) 4) other (numV 5)) (hmakeV (hrun l i) 4) k v) (hmakeV (hrun l i) 4) k).kind), .int .i64 ((hgetV (hset (hset (hmake (hrun l i) (newO 4 0 ByteArray.empty [])) (hmakeV (hrun l i) 4) other (numV 5)) (hmakeV (hrun l i) 4) k v) (hmakeV (hrun l i) 4) k).p), .int .i64 ((hgetV (hset (hset (hmake (hrun l i) (newO 4 0 ByteArray.empty [])) (hmakeV (hrun l i) 4) other (numV 5)) (hmakeV (hrun l i) 4) k v) (hmakeV (hrun l i) 4) k).q), .string ((hgetV (hset (hset (hmake (hrun l i) (newO 4 0 ByteArray.empty [])) (hmakeV (hrun l i) 4) other (numV 5)) (hmakeV (hrun l i) 4) k v) (hmakeV (hrun l i) 4) k).str), .int .i64 ((hgetV (hset (hset (hmake (hrun l i) (newO 4 0 ByteArray.empty [])) (hmakeV (hrun l i) 4) other (numV 5)) (hmakeV (hrun l i) 4) k v) (hmakeV (hrun l i) 4) k).ref)] ?_
        refine sp (.int .i64 (hgetE (hset (hset (hmake (hrun l i) (newO 4 0 ByteArray.empty [])) (hmakeV (hrun l i) 4) other (numV 5)) (hmakeV (hrun l i) 4) k v) (hmakeV (hrun l i) 4))) ?_
        refine s_nr ?_
        refine sp (pB hb12 0) ?_
        refine s_lt (t_loadA 3 #[.int .i64 ((hmakeV (hrun l i) 4).kind), .int .i64 ((hmakeV (hrun l i) 4).p), .int .i64 ((hmakeV (hrun l i) 4).q), .string ((hmakeV (hrun l i) 4).str), .int .i64 ((hmakeV (hrun l i) 4).ref)]) ?_
        refine s_lt (t_loadA 5 #[.int .i64 other.kind, .int .i64 other.p, .int .i64 other.q, .string other.str, .int .i64 other.ref]) ?_
        refine s_call [1] (hget_s (st := (hset (hset (hmake (hrun l i) (newO 4 0 ByteArray.empty [])) (hmakeV (hrun l i) 4) other (numV 5)) (hmakeV (hrun l i) 4) k v)) hs28 (by omega) (hmakeV (hrun l i) 4) other) ?_
        rintro _ _ ⟨rfl, rfl⟩
        refine sp (.tuple #[.agg #[.int .i64 ((hgetV (hset (hset (hmake (hrun l i) (newO 4 0 ByteArray.empty [])) (hmakeV (hrun l i) 4) other (numV 5)) (hmakeV (hrun l i) 4) k v) (hmakeV (hrun l i) 4) other).kind), .int .i64 ((hgetV (hset (hset (hmake (hrun l i) (newO 4 0 ByteArray.empty [])) (hmakeV (hrun l i) 4) other (numV 5)) (hmakeV (hrun l i) 4) k v) (hmakeV (hrun l i) 4) other).p), .int .i64 ((hgetV (hset (hset (hmake (hrun l i) (newO 4 0 ByteArray.empty [])) (hmakeV (hrun l i) 4) other (numV 5)) (hmakeV (hrun l i) 4) k v) (hmakeV (hrun l i) 4) other).q), .string ((hgetV (hset (hset (hmake (hrun l i) (newO 4 0 ByteArray.empty [])) (hmakeV (hrun l i) 4) other (numV 5)) (hmakeV (hrun l i) 4) k v) (hmakeV (hrun l i) 4) other).str), .int .i64 ((hgetV (hset (hset (hmake (hrun l i) (newO 4 0 ByteArray.empty [])) (hmakeV (hrun l i) 4) other (numV 5)) (hmakeV (hrun l i) 4) k v) (hmakeV (hrun l i) 4) other).ref)], .int .i64 (hgetE (hset (hset (hmake (hrun l i) (newO 4 0 ByteArray.empty [])) (hmakeV (hrun l i) 4) other (numV 5)) (hmakeV (hrun l i) 4) k v) (hmakeV (hrun l i) 4))]) ?_
        refine sp (.agg #[.int .i64 ((hgetV (hset (hset (hmake (hrun l i) (newO 4 0 ByteArray.empty [])) (hmakeV (hrun l i) 4) other (numV 5)) (hmakeV (hrun l i) 4) k v) (hmakeV (hrun l i) 4) other).kind), .int .i64 ((hgetV (hset (hset (hmake (hrun l i) (newO 4 0 ByteArray.empty [])) (hmakeV (hrun l i) 4) other (numV 5)) (hmakeV (hrun l i) 4) k v) (hmakeV (hrun l i) 4) other).p), .int .i64 ((hgetV (hset (hset (hmake (hrun l i) (newO 4 0 ByteArray.empty [])) (hmakeV (hrun l i) 4) other (numV 5)) (hmakeV (hrun l i) 4) k v) (hmakeV (hrun l i) 4) other).q), .string ((hgetV (hset (hset (hmake (hrun l i) (newO 4 0 ByteArray.empty [])) (hmakeV (hrun l i) 4) other (numV 5)) (hmakeV (hrun l i) 4) k v) (hmakeV (hrun l i) 4) other).str), .int .i64 ((hgetV (hset (hset (hmake (hrun l i) (newO 4 0 ByteArray.empty [])) (hmakeV (hrun l i) 4) other (numV 5)) (hmakeV (hrun l i) 4) k v) (hmakeV (hrun l i) 4) other).ref)]) ?_
        refine sp (.int .i64 (hgetE (hset (hset (hmake (hrun l i) (newO 4 0 ByteArray.empty [])) (hmakeV (hrun l i) 4) other (numV 5)) (hmakeV (hrun l i) 4) k v) (hmakeV (hrun l i) 4))) ?_
        refine s_alloc (.agg #[.int .i64 0, .int .i64 0, .int .i64 0, .string ByteArray.empty, .int .i64 0]) #[.int .i64 0, .int .i64 0, .int .i64 0, .string ByteArray.empty, .int .i64 0] (fun g114 => ?_)
        refine s_store 0 #[.int .i64 ((hgetV (hset (hset (hmake (hrun l i) (newO 4 0 ByteArray.empty [])) (hmakeV (hrun l i) 4) other (numV 5)) (hmakeV (hrun l i) 4) k v) (hmakeV (hrun l i) 4) other).kind), .int .i64 ((hgetV (hset (hset (hmake (hrun l i) (newO 4 0 ByteArray.empty [])) (hmakeV (hrun l i) 4) other (numV 5)) (hmakeV (hrun l i) 4) k v) (hmakeV (hrun l i) 4) other).p), .int .i64 ((hgetV (hset (hset (hmake (hrun l i) (newO 4 0 ByteArray.empty [])) (hmakeV (hrun l i) 4) other (numV 5)) (hmakeV (hrun l i) 4) k v) (hmakeV (hrun l i) 4) other).q), .string ((hgetV (hset (hset (hmake (hrun l i) (newO 4 0 ByteArray.empty [])) (hmakeV (hrun l i) 4) other (numV 5)) (hmakeV (hrun l i) 4) k v) (hmakeV (hrun l i) 4) other).str), .int .i64 ((hgetV (hset (hset (hmake (hrun l i) (newO 4 0 ByteArray.empty [])) (hmakeV (hrun l i) 4) other (numV 5)) (hmakeV (hrun l i) 4) k v) (hmakeV (hrun l i) 4) other).ref)] ?_
        refine sp (.int .i64 (hgetE (hset (hset (hmake (hrun l i) (newO 4 0 ByteArray.empty [])) (hmakeV (hrun l i) 4) other (numV 5)) (hmakeV (hrun l i) 4) k v) (hmakeV (hrun l i) 4))) ?_
        refine s_nt ?_
        refine k_seq ?_
        refine k_sr ?_
        refine sp (.int .i64 (hsetE (hset (hmake (hrun l i) (newO 4 0 ByteArray.empty [])) (hmakeV (hrun l i) 4) other (numV 5)) (hmakeV (hrun l i) 4) k v)) ?_
        refine s_lt (Lt.to t_cmp (congrArg Value.bool (decide_eq_true ((kt1.setE k v).2 hok) : (decide ((hsetE (hset (hmake (hrun l i) (newO 4 0 ByteArray.empty [])) (hmakeV (hrun l i) 4) other (numV 5)) (hmakeV (hrun l i) 4) k v) = 0)) = true))) ?_
        refine sp (.bool true) ?_
        refine s_lt (t_loadA 2 #[.int .i64 ((hgetV (hset (hset (hmake (hrun l i) (newO 4 0 ByteArray.empty [])) (hmakeV (hrun l i) 4) other (numV 5)) (hmakeV (hrun l i) 4) k v) (hmakeV (hrun l i) 4) k).kind), .int .i64 ((hgetV (hset (hset (hmake (hrun l i) (newO 4 0 ByteArray.empty [])) (hmakeV (hrun l i) 4) other (numV 5)) (hmakeV (hrun l i) 4) k v) (hmakeV (hrun l i) 4) k).p), .int .i64 ((hgetV (hset (hset (hmake (hrun l i) (newO 4 0 ByteArray.empty [])) (hmakeV (hrun l i) 4) other (numV 5)) (hmakeV (hrun l i) 4) k v) (hmakeV (hrun l i) 4) k).q), .string ((hgetV (hset (hset (hmake (hrun l i) (newO 4 0 ByteArray.empty [])) (hmakeV (hrun l i) 4) other (numV 5)) (hmakeV (hrun l i) 4) k v) (hmakeV (hrun l i) 4) k).str), .int .i64 ((hgetV (hset (hset (hmake (hrun l i) (newO 4 0 ByteArray.empty [])) (hmakeV (hrun l i) 4) other (numV 5)) (hmakeV (hrun l i) 4) k v) (hmakeV (hrun l i) 4) k).ref)]) ?_
        refine s_lt (t_loadA 7 #[.int .i64 v.kind, .int .i64 v.p, .int .i64 v.q, .string v.str, .int .i64 v.ref]) ?_
        refine s_lt (Lt.to (t_eqS (fun w => (eqVlT (hgetV (hset (hset (hmake (hrun l i) (newO 4 0 ByteArray.empty [])) (hmakeV (hrun l i) 4) other (numV 5)) (hmakeV (hrun l i) 4) k v) (hmakeV (hrun l i) 4) k) v w).2)) (congrArg Value.bool ((congrArg Bool.not (decide_eq_true ((kt1.get_set hok.1 hok.2 k).trans (if_pos rfl)) : (decide ((hgetV (hset (hset (hmake (hrun l i) (newO 4 0 ByteArray.empty [])) (hmakeV (hrun l i) 4) other (numV 5)) (hmakeV (hrun l i) 4) k v) (hmakeV (hrun l i) 4) k) = v)) = true)).trans rfl : (!(decide ((hgetV (hset (hset (hmake (hrun l i) (newO 4 0 ByteArray.empty [])) (hmakeV (hrun l i) 4) other (numV 5)) (hmakeV (hrun l i) 4) k v) (hmakeV (hrun l i) 4) k) = v))) = false))) ?_
        refine sp (.bool false) ?_
        refine sp (.bool false) ?_
        refine s_lt (t_loadA 8 #[.int .i64 k.kind, .int .i64 k.p, .int .i64 k.q, .string k.str, .int .i64 k.ref]) ?_
        refine s_lt (t_loadA 6 #[.int .i64 other.kind, .int .i64 other.p, .int .i64 other.q, .string other.str, .int .i64 other.ref]) ?_
        refine s_lt (Lt.to (t_eqS (fun w => (eqVlT k other w).2)) (congrArg Value.bool ((congrArg Bool.not (decide_eq_false hko : (decide (k = other)) = false)).trans rfl : (!(decide (k = other))) = true))) ?_
        refine sp (.bool true) ?_
        refine s_lt (t_loadA 0 #[.int .i64 ((hgetV (hset (hset (hmake (hrun l i) (newO 4 0 ByteArray.empty [])) (hmakeV (hrun l i) 4) other (numV 5)) (hmakeV (hrun l i) 4) k v) (hmakeV (hrun l i) 4) other).kind), .int .i64 ((hgetV (hset (hset (hmake (hrun l i) (newO 4 0 ByteArray.empty [])) (hmakeV (hrun l i) 4) other (numV 5)) (hmakeV (hrun l i) 4) k v) (hmakeV (hrun l i) 4) other).p), .int .i64 ((hgetV (hset (hset (hmake (hrun l i) (newO 4 0 ByteArray.empty [])) (hmakeV (hrun l i) 4) other (numV 5)) (hmakeV (hrun l i) 4) k v) (hmakeV (hrun l i) 4) other).q), .string ((hgetV (hset (hset (hmake (hrun l i) (newO 4 0 ByteArray.empty [])) (hmakeV (hrun l i) 4) other (numV 5)) (hmakeV (hrun l i) 4) k v) (hmakeV (hrun l i) 4) other).str), .int .i64 ((hgetV (hset (hset (hmake (hrun l i) (newO 4 0 ByteArray.empty [])) (hmakeV (hrun l i) 4) other (numV 5)) (hmakeV (hrun l i) 4) k v) (hmakeV (hrun l i) 4) other).ref)]) ?_
        refine s_lt (t_loadA 3 #[.int .i64 ((hgetV (hset (hmake (hrun l i) (newO 4 0 ByteArray.empty [])) (hmakeV (hrun l i) 4) other (numV 5)) (hmakeV (hrun l i) 4) other).kind), .int .i64 ((hgetV (hset (hmake (hrun l i) (newO 4 0 ByteArray.empty [])) (hmakeV (hrun l i) 4) other (numV 5)) (hmakeV (hrun l i) 4) other).p), .int .i64 ((hgetV (hset (hmake (hrun l i) (newO 4 0 ByteArray.empty [])) (hmakeV (hrun l i) 4) other (numV 5)) (hmakeV (hrun l i) 4) other).q), .string ((hgetV (hset (hmake (hrun l i) (newO 4 0 ByteArray.empty [])) (hmakeV (hrun l i) 4) other (numV 5)) (hmakeV (hrun l i) 4) other).str), .int .i64 ((hgetV (hset (hmake (hrun l i) (newO 4 0 ByteArray.empty [])) (hmakeV (hrun l i) 4) other (numV 5)) (hmakeV (hrun l i) 4) other).ref)]) ?_
        refine s_lt (Lt.to (t_eqS (fun w => (eqVlT (hgetV (hset (hset (hmake (hrun l i) (newO 4 0 ByteArray.empty [])) (hmakeV (hrun l i) 4) other (numV 5)) (hmakeV (hrun l i) 4) k v) (hmakeV (hrun l i) 4) other) (hgetV (hset (hmake (hrun l i) (newO 4 0 ByteArray.empty [])) (hmakeV (hrun l i) 4) other (numV 5)) (hmakeV (hrun l i) 4) other) w).2)) (congrArg Value.bool ((congrArg Bool.not (decide_eq_true ((kt1.get_set hok.1 hok.2 other).trans (if_neg (fun h => hko h.symm))) : (decide ((hgetV (hset (hset (hmake (hrun l i) (newO 4 0 ByteArray.empty [])) (hmakeV (hrun l i) 4) other (numV 5)) (hmakeV (hrun l i) 4) k v) (hmakeV (hrun l i) 4) other) = (hgetV (hset (hmake (hrun l i) (newO 4 0 ByteArray.empty [])) (hmakeV (hrun l i) 4) other (numV 5)) (hmakeV (hrun l i) 4) other))) = true)).trans rfl : (!(decide ((hgetV (hset (hset (hmake (hrun l i) (newO 4 0 ByteArray.empty [])) (hmakeV (hrun l i) 4) other (numV 5)) (hmakeV (hrun l i) 4) k v) (hmakeV (hrun l i) 4) other) = (hgetV (hset (hmake (hrun l i) (newO 4 0 ByteArray.empty [])) (hmakeV (hrun l i) 4) other (numV 5)) (hmakeV (hrun l i) 4) other)))) = false))) ?_
        refine sp (.bool false) ?_
        refine sp (.bool false) ?_
        refine s_nt ?_
        refine k_false ?_
        refine k_st ?_
        refine k_seq ?_
        refine k_sr ?_
        refine sp (pB hb12 0) ?_
        refine sp (pB g22 4) ?_
        refine s_lt (t_load 4 (.int .i64 ((hmakeV (hrun l i) 4).ref))) ?_
        refine s_call [1] (hdrop_s (st := (hset (hset (hmake (hrun l i) (newO 4 0 ByteArray.empty [])) (hmakeV (hrun l i) 4) other (numV 5)) (hmakeV (hrun l i) 4) k v)) ((hmakeV (hrun l i) 4).ref)) ?_
        rintro _ _ ⟨rfl, rfl⟩
        have hi115 := drop_inv hi27 ((hmakeV (hrun l i) 4).ref)
        have hs116 := drop_sm hs28 ((hmakeV (hrun l i) 4).ref)
        have hw117 := drop_w hw29 ((hmakeV (hrun l i) 4).ref)
        refine s_lt (Lt.to t_cmp (congrArg Value.bool (decide_eq_false (fun h => h kt3.dropE) : (decide ((hdropE (hset (hset (hmake (hrun l i) (newO 4 0 ByteArray.empty [])) (hmakeV (hrun l i) 4) other (numV 5)) (hmakeV (hrun l i) 4) k v) ((hmakeV (hrun l i) 4).ref)) ≠ 0)) = false))) ?_
        refine s_nt ?_
        refine k_false ?_
        refine k_st ?_
        refine k_sr ?_
        refine sp (pB hb12 0) ?_
        refine s_lt (t_loadA 4 #[.int .i64 ((hmakeV (hrun l i) 4).kind), .int .i64 ((hmakeV (hrun l i) 4).p), .int .i64 ((hmakeV (hrun l i) 4).q), .string ((hmakeV (hrun l i) 4).str), .int .i64 ((hmakeV (hrun l i) 4).ref)]) ?_
        refine s_lt (t_loadA 8 #[.int .i64 k.kind, .int .i64 k.p, .int .i64 k.q, .string k.str, .int .i64 k.ref]) ?_
        refine s_call [0] (hget_s (st := (hdrop (hset (hset (hmake (hrun l i) (newO 4 0 ByteArray.empty [])) (hmakeV (hrun l i) 4) other (numV 5)) (hmakeV (hrun l i) 4) k v) ((hmakeV (hrun l i) 4).ref))) hs116 (by omega) (hmakeV (hrun l i) 4) k) ?_
        rintro _ _ ⟨rfl, rfl⟩
        refine sp (.tuple #[.agg #[.int .i64 ((hgetV (hdrop (hset (hset (hmake (hrun l i) (newO 4 0 ByteArray.empty [])) (hmakeV (hrun l i) 4) other (numV 5)) (hmakeV (hrun l i) 4) k v) ((hmakeV (hrun l i) 4).ref)) (hmakeV (hrun l i) 4) k).kind), .int .i64 ((hgetV (hdrop (hset (hset (hmake (hrun l i) (newO 4 0 ByteArray.empty [])) (hmakeV (hrun l i) 4) other (numV 5)) (hmakeV (hrun l i) 4) k v) ((hmakeV (hrun l i) 4).ref)) (hmakeV (hrun l i) 4) k).p), .int .i64 ((hgetV (hdrop (hset (hset (hmake (hrun l i) (newO 4 0 ByteArray.empty [])) (hmakeV (hrun l i) 4) other (numV 5)) (hmakeV (hrun l i) 4) k v) ((hmakeV (hrun l i) 4).ref)) (hmakeV (hrun l i) 4) k).q), .string ((hgetV (hdrop (hset (hset (hmake (hrun l i) (newO 4 0 ByteArray.empty [])) (hmakeV (hrun l i) 4) other (numV 5)) (hmakeV (hrun l i) 4) k v) ((hmakeV (hrun l i) 4).ref)) (hmakeV (hrun l i) 4) k).str), .int .i64 ((hgetV (hdrop (hset (hset (hmake (hrun l i) (newO 4 0 ByteArray.empty [])) (hmakeV (hrun l i) 4) other (numV 5)) (hmakeV (hrun l i) 4) k v) ((hmakeV (hrun l i) 4).ref)) (hmakeV (hrun l i) 4) k).ref)], .int .i64 (hgetE (hdrop (hset (hset (hmake (hrun l i) (newO 4 0 ByteArray.empty [])) (hmakeV (hrun l i) 4) other (numV 5)) (hmakeV (hrun l i) 4) k v) ((hmakeV (hrun l i) 4).ref)) (hmakeV (hrun l i) 4))]) ?_
        refine sp (.agg #[.int .i64 ((hgetV (hdrop (hset (hset (hmake (hrun l i) (newO 4 0 ByteArray.empty [])) (hmakeV (hrun l i) 4) other (numV 5)) (hmakeV (hrun l i) 4) k v) ((hmakeV (hrun l i) 4).ref)) (hmakeV (hrun l i) 4) k).kind), .int .i64 ((hgetV (hdrop (hset (hset (hmake (hrun l i) (newO 4 0 ByteArray.empty [])) (hmakeV (hrun l i) 4) other (numV 5)) (hmakeV (hrun l i) 4) k v) ((hmakeV (hrun l i) 4).ref)) (hmakeV (hrun l i) 4) k).p), .int .i64 ((hgetV (hdrop (hset (hset (hmake (hrun l i) (newO 4 0 ByteArray.empty [])) (hmakeV (hrun l i) 4) other (numV 5)) (hmakeV (hrun l i) 4) k v) ((hmakeV (hrun l i) 4).ref)) (hmakeV (hrun l i) 4) k).q), .string ((hgetV (hdrop (hset (hset (hmake (hrun l i) (newO 4 0 ByteArray.empty [])) (hmakeV (hrun l i) 4) other (numV 5)) (hmakeV (hrun l i) 4) k v) ((hmakeV (hrun l i) 4).ref)) (hmakeV (hrun l i) 4) k).str), .int .i64 ((hgetV (hdrop (hset (hset (hmake (hrun l i) (newO 4 0 ByteArray.empty [])) (hmakeV (hrun l i) 4) other (numV 5)) (hmakeV (hrun l i) 4) k v) ((hmakeV (hrun l i) 4).ref)) (hmakeV (hrun l i) 4) k).ref)]) ?_
        refine sp (.int .i64 (hgetE (hdrop (hset (hset (hmake (hrun l i) (newO 4 0 ByteArray.empty [])) (hmakeV (hrun l i) 4) other (numV 5)) (hmakeV (hrun l i) 4) k v) ((hmakeV (hrun l i) 4).ref)) (hmakeV (hrun l i) 4))) ?_
        refine s_alloc (.agg #[.int .i64 0, .int .i64 0, .int .i64 0, .string ByteArray.empty, .int .i64 0]) #[.int .i64 0, .int .i64 0, .int .i64 0, .string ByteArray.empty, .int .i64 0] (fun g118 => ?_)
        refine s_store 0 #[.int .i64 ((hgetV (hdrop (hset (hset (hmake (hrun l i) (newO 4 0 ByteArray.empty [])) (hmakeV (hrun l i) 4) other (numV 5)) (hmakeV (hrun l i) 4) k v) ((hmakeV (hrun l i) 4).ref)) (hmakeV (hrun l i) 4) k).kind), .int .i64 ((hgetV (hdrop (hset (hset (hmake (hrun l i) (newO 4 0 ByteArray.empty [])) (hmakeV (hrun l i) 4) other (numV 5)) (hmakeV (hrun l i) 4) k v) ((hmakeV (hrun l i) 4).ref)) (hmakeV (hrun l i) 4) k).p), .int .i64 ((hgetV (hdrop (hset (hset (hmake (hrun l i) (newO 4 0 ByteArray.empty [])) (hmakeV (hrun l i) 4) other (numV 5)) (hmakeV (hrun l i) 4) k v) ((hmakeV (hrun l i) 4).ref)) (hmakeV (hrun l i) 4) k).q), .string ((hgetV (hdrop (hset (hset (hmake (hrun l i) (newO 4 0 ByteArray.empty [])) (hmakeV (hrun l i) 4) other (numV 5)) (hmakeV (hrun l i) 4) k v) ((hmakeV (hrun l i) 4).ref)) (hmakeV (hrun l i) 4) k).str), .int .i64 ((hgetV (hdrop (hset (hset (hmake (hrun l i) (newO 4 0 ByteArray.empty [])) (hmakeV (hrun l i) 4) other (numV 5)) (hmakeV (hrun l i) 4) k v) ((hmakeV (hrun l i) 4).ref)) (hmakeV (hrun l i) 4) k).ref)] ?_
        refine sp (.int .i64 (hgetE (hdrop (hset (hset (hmake (hrun l i) (newO 4 0 ByteArray.empty [])) (hmakeV (hrun l i) 4) other (numV 5)) (hmakeV (hrun l i) 4) k v) ((hmakeV (hrun l i) 4).ref)) (hmakeV (hrun l i) 4))) ?_
        refine s_nr ?_
        refine sp (.int .i64 (hgetE (hdrop (hset (hset (hmake (hrun l i) (newO 4 0 ByteArray.empty [])) (hmakeV (hrun l i) 4) other (numV 5)) (hmakeV (hrun l i) 4) k v) ((hmakeV (hrun l i) 4).ref)) (hmakeV (hrun l i) 4))) ?_
        refine s_lt (Lt.to t_cmp (congrArg Value.bool (decide_eq_true kt3.gone : (decide ((hgetE (hdrop (hset (hset (hmake (hrun l i) (newO 4 0 ByteArray.empty [])) (hmakeV (hrun l i) 4) other (numV 5)) (hmakeV (hrun l i) 4) k v) ((hmakeV (hrun l i) 4).ref)) (hmakeV (hrun l i) 4)) = 8)) = true))) ?_
        refine sp (.bool true) ?_
        refine sp (pB hb12 0) ?_
        refine sp (pB g22 4) ?_
        refine s_lt (t_load 5 (.int .i64 ((hmakeV (hrun l i) 4).ref))) ?_
        refine s_call [1] (hdrop_s (st := (hdrop (hset (hset (hmake (hrun l i) (newO 4 0 ByteArray.empty [])) (hmakeV (hrun l i) 4) other (numV 5)) (hmakeV (hrun l i) 4) k v) ((hmakeV (hrun l i) 4).ref))) ((hmakeV (hrun l i) 4).ref)) ?_
        rintro _ _ ⟨rfl, rfl⟩
        have hi119 := drop_inv hi115 ((hmakeV (hrun l i) 4).ref)
        have hs120 := drop_sm hs116 ((hmakeV (hrun l i) 4).ref)
        have hw121 := drop_w hw117 ((hmakeV (hrun l i) 4).ref)
        refine s_lt (Lt.to t_cmp (congrArg Value.bool (decide_eq_true kt3.dead : (decide ((hdropE (hdrop (hset (hset (hmake (hrun l i) (newO 4 0 ByteArray.empty [])) (hmakeV (hrun l i) 4) other (numV 5)) (hmakeV (hrun l i) 4) k v) ((hmakeV (hrun l i) 4).ref)) ((hmakeV (hrun l i) 4).ref)) = 19)) = true))) ?_
        refine sp (.bool true) ?_
        refine sp (.bool true) ?_
        refine s_vcall (fun _ h => awake_s) ?_
        rintro _ rfl
        refine sp (.bool true) ?_
        refine sp (.bool true) ?_
        refine s_nt ?_
        refine k_ret ?_
        exact xs_fin [.bool true] [] (SI.tmp 8 SI.nil) (fun _ h => h.re [] [0, 0, 0, 0, 0, 0, 0, 0, 0, 0]) ⟨rfl, rfl⟩
end Go.Proofs.Ytmilekfknhglkaa
