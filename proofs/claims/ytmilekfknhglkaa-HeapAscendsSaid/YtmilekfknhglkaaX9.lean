/-
  Layer 14: HeapAscends. Each law says its conditions.
-/
import Derived.Test.YtmilekfknhglkaaG6
set_option linter.unusedSimpArgs false
set_option linter.unusedVariables false
set_option maxRecDepth 100000
set_option maxHeartbeats 2000000
namespace Go.Proofs.Ytmilekfknhglkaa
open Go.Hp Go.J Go.S
open Go.Mem (Ty KTy blk elemAt pre suf blk_pre blk_suf aget aset strK aggDesc)
open Go.Mem (adel apos aget_aset aget_adel)
theorem news_of {st : Hst} {c : Cl} (h0 : ¬ c.kind < 0) (h3 : ¬ 3 < c.kind) (he : (hres st c).e = 0) : news st c := ⟨by omega, by omega, he⟩
theorem ascends_w {Z : Zone} {lv : Value} {l : List Cl} (hL : KnL Z lv l) : SF Try.prog 5 #[lv] Z [] fun r Bs => r = .bool true ∧ Bs = [] := by
 refine sf_enter Try.func5 68 [(0, lv)] (fun w0 => ?_)
 refine k_sr ?_
 refine sp (.bool false) ?_
 refine s_nt ?_
 refine k_seq ?_
 refine k_sr ?_
 refine sp lv ?_
 refine s_pcall (fun _ h => long_s (KnL.up hL h)) ?_
 rintro _ _ ⟨lg1, rfl, hlg2, rfl⟩
 refine s_nt ?_
 refine k_cond lg1 (fun c3 => ?_) (fun c3 => ?_)
 ·
  refine k_sr ?_
  refine s_vcall (fun _ h => awake_s) ?_
  rintro _ rfl
  refine sp (.bool true) ?_
  refine s_nt ?_
  refine k_ret ?_
  refine xs_ret ?_
  exact xs_fin [.bool true] [] (SI.tmp 2 SI.nil) (fun _ h => h.re [] []) ⟨rfl, rfl⟩
 ·
  have hsh := hlg2 c3
  refine k_st ?_
  refine k_sr ?_
  refine s_pcall (fun _ h => hnew_s) ?_
  rintro _ _ ⟨hb4, rfl, rfl⟩
  refine sp (pB hb4 0) ?_
  refine s_nr ?_
  refine sp (.int .i64 0) ?_
  refine s_nt ?_
  refine k_seq ?_
  refine k_sr ?_
  refine sp lv ?_
  refine s_lt (t_len ClT_ok Try.underlying30 (.zn hL.obs)) ?_
  refine sp (.int .i64 0) ?_
  refine s_nt ?_
  refine k_block ?_
  have hgood := hrun_good (l := l) (fun x hx => (hsh.2 x hx).2.2.2.2)
  refine k_mem (Bs := [hpA hb4 (hrun l 0)]) (fun _ h => h) ?_
  refine k_loop (ι := Nat) (fun i => i ≤ l.length) (fun i => [(0, lv), (3, pB hb4 0), (4, .int .i64 ((hrun l i).objs.length : Int)), (12, .int .i64 (l.length : Int)), (13, .int .i64 (i : Int))]) (fun i => [hpA hb4 (hrun l i)]) (fun i => l.length - i) 0 (Nat.zero_le _) (sub_of rfl ⟨⟨rfl, rfl⟩, ⟨⟨rfl, rfl⟩, ⟨⟨rfl, rfl⟩, ⟨⟨rfl, rfl⟩, ⟨⟨rfl, rfl⟩, trivial⟩⟩⟩⟩⟩) (fun _ h => h.re [0] []) ?_
  rintro i hi5
  show SK _ _ _ _ _ [(0, lv), (3, .pointer (some ⟨hb4, 0, none⟩)), (4, .int .i64 ((hrun l i).objs.length : Int)), (12, .int .i64 (l.length : Int)), (13, .int .i64 (i : Int))] _ [hpA hb4 (hrun l i)]
  obtain ⟨hi, hsm, hw⟩ := hgood i
  have hcnt : (hrun l i).count < 65536 := by have := count_le (hrun l i); have := hsm.len; omega
  have hln := hsm.len
  refine k_sr ?_
  refine s_lt t_cmp ?_
  refine s_nt ?_
  refine k_seq ?_
  refine k_cond (decide ((i : Int) < (l.length : Int))) (fun c6 => ?_) (fun c6 => ?_)
  ·
   have p7 := of_decide_eq_true c6
   refine k_st ?_
   refine k_seq ?_
   refine k_block ?_
   refine k_sr ?_
   refine sp (.int .i64 (i : Int)) ?_
   refine sp (.int .i64 (i : Int)) ?_
   refine s_nr ?_
   refine sp (pB hb4 0) ?_
   refine sp lv ?_
   refine sp (.int .i64 (i : Int)) ?_
   refine s_lt (t_index ClT_ok Try.underlying30 (.zn hL.obs) (i : Int) i (by omega) (by (try simp only [lnm]); omega) (by omega)) ?_
   obtain ⟨y8, hy9⟩ : ∃ y, l[i]? = some y := ⟨_, List.getElem?_eq_getElem (by (try simp only [lnm]); omega)⟩
   refine s_lt (t_loadE ClT_ok (.zn hL.obs) hy9) ?_
   refine s_call [0] (program_s (st := (hrun l i)) hsm (by omega) hw (hL.each y8 (List.mem_of_getElem? hy9)) (by exact (hsh.2 y8 (List.mem_of_getElem? hy9)).2.2.2.2)) ?_
   rintro _ _ ⟨rfl, rfl⟩
   refine s_alloc (.agg #[.int .i64 0, .int .i64 0, .int .i64 0, .string ByteArray.empty, .int .i64 0, .int .i64 0, .int .i64 0, .int .i64 0, .string ByteArray.empty, .int .i64 0, .int .i64 0, .string ByteArray.empty, .bool false, .int .i64 0]) #[.int .i64 0, .int .i64 0, .int .i64 0, .string ByteArray.empty, .int .i64 0, .int .i64 0, .int .i64 0, .int .i64 0, .string ByteArray.empty, .int .i64 0, .int .i64 0, .string ByteArray.empty, .bool false, .int .i64 0] (fun g10 => ?_)
   refine s_store 0 #[.int .i64 (((hres (hrun l i) y8).v).kind), .int .i64 (((hres (hrun l i) y8).v).p), .int .i64 (((hres (hrun l i) y8).v).q), .string (((hres (hrun l i) y8).v).str), .int .i64 (((hres (hrun l i) y8).v).ref), .int .i64 (((hres (hrun l i) y8).w).kind), .int .i64 (((hres (hrun l i) y8).w).p), .int .i64 (((hres (hrun l i) y8).w).q), .string (((hres (hrun l i) y8).w).str), .int .i64 (((hres (hrun l i) y8).w).ref), .int .i64 ((hres (hrun l i) y8).n), .string ((hres (hrun l i) y8).s), .bool ((hres (hrun l i) y8).ok), .int .i64 ((hres (hrun l i) y8).e)] ?_
   refine s_nt ?_
   refine k_seq ?_
   refine k_cut (ι := Unit) (fun _ => True) (fun _ => [(0, lv), (3, pB hb4 0), (4, .int .i64 ((hrun l i).objs.length : Int)), (6, pB g10 0), (12, .int .i64 (l.length : Int)), (13, .int .i64 (i : Int)), (40, .bool ((decide (y8.kind < 0)) || ((decide ((3 : Int) < y8.kind)) || (decide ((hres (hrun l i) y8).e ≠ 0)))))]) (fun _ => [blkA g10 #[.int .i64 (((hres (hrun l i) y8).v).kind), .int .i64 (((hres (hrun l i) y8).v).p), .int .i64 (((hres (hrun l i) y8).v).q), .string (((hres (hrun l i) y8).v).str), .int .i64 (((hres (hrun l i) y8).v).ref), .int .i64 (((hres (hrun l i) y8).w).kind), .int .i64 (((hres (hrun l i) y8).w).p), .int .i64 (((hres (hrun l i) y8).w).q), .string (((hres (hrun l i) y8).w).str), .int .i64 (((hres (hrun l i) y8).w).ref), .int .i64 ((hres (hrun l i) y8).n), .string ((hres (hrun l i) y8).s), .bool ((hres (hrun l i) y8).ok), .int .i64 ((hres (hrun l i) y8).e)] 65, hpA hb4 (hcall (hrun l i) y8)]) ?_ (fun _ _ => ?_)
   ·
    refine k_reg ?_
    refine sp lv ?_
    refine sp (.int .i64 (i : Int)) ?_
    refine s_lt (t_index ClT_ok Try.underlying30 (.zn hL.obs) (i : Int) i (by omega) (by (try simp only [lnm]); omega) (by omega)) ?_
    refine sp (.pointer (some (elemAt ClT.size lv i))) ?_
    refine s_lt (t_loadF 0 ClT_ok (.zn hL.obs) hy9) ?_
    refine s_lt t_cmp ?_
    refine sp (.bool (decide (y8.kind < 0))) ?_
    refine s_fork 28 (decide (y8.kind < 0)) (fun c11 => ?_) (fun c11 => ?_)
    ·
     have p12 := of_decide_eq_true c11
     refine s_skip ?_
     refine s_skip ?_
     refine s_skip ?_
     refine s_skip ?_
     refine s_skip ?_
     refine s_skip ?_
     refine sp (.bool true) ?_
     refine sp (.bool true) ?_
     refine s_skip ?_
     refine s_skip ?_
     refine s_skip ?_
     refine sp (.bool true) ?_
     refine s_nil ?_
     exact xs_cut () trivial (sub_of rfl ⟨⟨rfl, rfl⟩, ⟨⟨rfl, rfl⟩, ⟨⟨rfl, rfl⟩, ⟨⟨rfl, rfl⟩, ⟨⟨rfl, rfl⟩, ⟨⟨rfl, rfl⟩, ⟨⟨rfl, show Value.bool true = Value.bool ((decide (y8.kind < 0)) || ((decide ((3 : Int) < y8.kind)) || (decide ((hres (hrun l i) y8).e ≠ 0)))) by first | (simp only [c11, bls]; done) | simp [c11]⟩, trivial⟩⟩⟩⟩⟩⟩⟩) (fun _ h => h.re [0, 0] [])
    ·
     have p13 := of_decide_eq_false c11
     refine sp lv ?_
     refine sp (.int .i64 (i : Int)) ?_
     refine s_lt (t_index ClT_ok Try.underlying30 (.zn hL.obs) (i : Int) i (by omega) (by (try simp only [lnm]); omega) (by omega)) ?_
     refine sp (.pointer (some (elemAt ClT.size lv i))) ?_
     refine s_lt (t_loadF 0 ClT_ok (.zn hL.obs) hy9) ?_
     refine s_lt t_cmp ?_
     refine sp (.bool (decide ((3 : Int) < y8.kind))) ?_
     refine sp (.bool (decide ((3 : Int) < y8.kind))) ?_
     refine s_fork 36 (decide ((3 : Int) < y8.kind)) (fun c14 => ?_) (fun c14 => ?_)
     ·
      have p15 := of_decide_eq_true c14
      refine s_skip ?_
      refine s_skip ?_
      refine s_skip ?_
      refine sp (.bool true) ?_
      refine s_nil ?_
      exact xs_cut () trivial (sub_of rfl ⟨⟨rfl, rfl⟩, ⟨⟨rfl, rfl⟩, ⟨⟨rfl, rfl⟩, ⟨⟨rfl, rfl⟩, ⟨⟨rfl, rfl⟩, ⟨⟨rfl, rfl⟩, ⟨⟨rfl, show Value.bool true = Value.bool ((decide (y8.kind < 0)) || ((decide ((3 : Int) < y8.kind)) || (decide ((hres (hrun l i) y8).e ≠ 0)))) by first | (simp only [c11, c14, bls]; done) | simp [c11, c14]⟩, trivial⟩⟩⟩⟩⟩⟩⟩) (fun _ h => h.re [0, 0] [])
     ·
      have p16 := of_decide_eq_false c14
      refine sp (pB g10 13) ?_
      refine s_lt (t_load 0 (.int .i64 ((hres (hrun l i) y8).e))) ?_
      refine s_lt t_cmp ?_
      refine sp (.bool (decide ((hres (hrun l i) y8).e ≠ 0))) ?_
      refine s_nil ?_
      exact xs_cut () trivial (sub_of rfl ⟨⟨rfl, rfl⟩, ⟨⟨rfl, rfl⟩, ⟨⟨rfl, rfl⟩, ⟨⟨rfl, rfl⟩, ⟨⟨rfl, rfl⟩, ⟨⟨rfl, rfl⟩, ⟨⟨rfl, show Value.bool (decide ((hres (hrun l i) y8).e ≠ 0)) = Value.bool ((decide (y8.kind < 0)) || ((decide ((3 : Int) < y8.kind)) || (decide ((hres (hrun l i) y8).e ≠ 0)))) by first | (simp only [c11, c14, bls]; done) | simp [c11, c14]⟩, trivial⟩⟩⟩⟩⟩⟩⟩) (fun _ h => h.re [0, 0] [])
   ·
    refine k_cond ((decide (y8.kind < 0)) || ((decide ((3 : Int) < y8.kind)) || (decide ((hres (hrun l i) y8).e ≠ 0)))) (fun c17 => ?_) (fun c17 => ?_)
    ·
     have p18 := c17
     simp only [Bool.and_eq_true, Bool.or_eq_true, Bool.and_eq_false_iff, Bool.or_eq_false_iff, Bool.not_eq_true', Bool.not_eq_false', decide_eq_true_eq, decide_eq_false_iff_not] at p18
     refine k_exit ?_
     refine xs_exit ?_
     refine xs_here ?_
     refine xs_then ?_
     refine k_reg ?_
     refine s_lt (t_add (i : Int) 1 (by (try simp only [lnm]); omega)) ?_
     refine sp (.int .i64 ((i : Int) + 1)) ?_
     refine s_nil ?_
     have hru := hrun_succ hy9
     have hle : ((hrun l i).objs.length : Int) = ((hrun l (i + 1)).objs.length : Int) := by rw [hru, hcall_old hcnt (fun hq => by obtain ⟨q1, q2, q3⟩ := hq; omega)]
     refine xs_mem (Bs := [blkA g10 #[.int .i64 (((hres (hrun l i) y8).v).kind), .int .i64 (((hres (hrun l i) y8).v).p), .int .i64 (((hres (hrun l i) y8).v).q), .string (((hres (hrun l i) y8).v).str), .int .i64 (((hres (hrun l i) y8).v).ref), .int .i64 (((hres (hrun l i) y8).w).kind), .int .i64 (((hres (hrun l i) y8).w).p), .int .i64 (((hres (hrun l i) y8).w).q), .string (((hres (hrun l i) y8).w).str), .int .i64 (((hres (hrun l i) y8).w).ref), .int .i64 ((hres (hrun l i) y8).n), .string ((hres (hrun l i) y8).s), .bool ((hres (hrun l i) y8).ok), .int .i64 ((hres (hrun l i) y8).e)] 65, hpA hb4 (hrun l (i + 1))]) (fun _ h => by rw [hru]; exact h) ?_
     exact xs_round (i + 1) (by omega) (by omega) (sub_of rfl ⟨⟨rfl, rfl⟩, ⟨⟨rfl, rfl⟩, ⟨⟨rfl, congrArg (Value.int .i64) hle⟩, ⟨⟨rfl, rfl⟩, ⟨⟨rfl, rfl⟩, trivial⟩⟩⟩⟩⟩) (fun _ h => h.re [1] [1])
    ·
     obtain ⟨c19, c20⟩ := or_f c17
     have p21 := of_decide_eq_false c19
     obtain ⟨c22, c23⟩ := or_f c20
     have p24 := of_decide_eq_false c22
     have p25 := Decidable.not_not.1 (of_decide_eq_false c23)
     refine k_st ?_
     have hnw : news (hrun l i) y8 := news_of (by omega) (by omega) (by omega)
     obtain ⟨zn1, zn2, zn3⟩ := hcall_news hcnt hnw
     refine k_sr ?_
     refine sp (.int .i64 ((hrun l i).objs.length : Int)) ?_
     refine s_lt (t_add ((hrun l i).objs.length : Int) 1 (by (try simp only [lnm]); omega)) ?_
     refine sp (.int .i64 (((hrun l i).objs.length : Int) + 1)) ?_
     refine s_nr ?_
     refine sp (pB g10 0) ?_
     refine sp (pB g10 4) ?_
     refine s_lt (t_load 0 (.int .i64 (((hres (hrun l i) y8).v).ref))) ?_
     refine sp (.int .i64 (((hrun l i).objs.length : Int) + 1)) ?_
     refine s_lt (Lt.to t_cmp (congrArg Value.bool (decide_eq_false (fun h => h zn2) : (decide (((hres (hrun l i) y8).v).ref ≠ (((hrun l i).objs.length : Int) + 1))) = false))) ?_
     refine sp (.bool false) ?_
     refine sp (pB hb4 0) ?_
     refine sp (.int .i64 (((hrun l i).objs.length : Int) + 1)) ?_
     refine s_call [1] (halive_s (st := (hcall (hrun l i) y8)) (((hrun l i).objs.length : Int) + 1)) ?_
     rintro _ _ ⟨rfl, rfl⟩
     refine s_lt (Lt.to (t_pure (.bool (!(halive (hcall (hrun l i) y8) (((hrun l i).objs.length : Int) + 1))))) (congrArg Value.bool ((congrArg Bool.not (zn3 : (halive (hcall (hrun l i) y8) (((hrun l i).objs.length : Int) + 1)) = true)).trans rfl : (!(halive (hcall (hrun l i) y8) (((hrun l i).objs.length : Int) + 1))) = false))) ?_
     refine sp (.bool false) ?_
     refine s_nt ?_
     refine k_false ?_
     refine k_skip ?_
     refine xs_block ?_
     refine xs_then ?_
     refine k_reg ?_
     refine s_lt (t_add (i : Int) 1 (by (try simp only [lnm]); omega)) ?_
     refine sp (.int .i64 ((i : Int) + 1)) ?_
     refine s_nil ?_
     have hru := hrun_succ hy9
     have hle : ((hrun l i).objs.length : Int) + 1 = ((hrun l (i + 1)).objs.length : Int) := by rw [hru, zn1]; omega
     refine xs_mem (Bs := [hpA hb4 (hrun l (i + 1)), blkA g10 #[.int .i64 (((hres (hrun l i) y8).v).kind), .int .i64 (((hres (hrun l i) y8).v).p), .int .i64 (((hres (hrun l i) y8).v).q), .string (((hres (hrun l i) y8).v).str), .int .i64 (((hres (hrun l i) y8).v).ref), .int .i64 (((hres (hrun l i) y8).w).kind), .int .i64 (((hres (hrun l i) y8).w).p), .int .i64 (((hres (hrun l i) y8).w).q), .string (((hres (hrun l i) y8).w).str), .int .i64 (((hres (hrun l i) y8).w).ref), .int .i64 ((hres (hrun l i) y8).n), .string ((hres (hrun l i) y8).s), .bool ((hres (hrun l i) y8).ok), .int .i64 ((hres (hrun l i) y8).e)] 65]) (fun _ h => by rw [hru]; exact h) ?_
     exact xs_round (i + 1) (by omega) (by omega) (sub_of rfl ⟨⟨rfl, rfl⟩, ⟨⟨rfl, rfl⟩, ⟨⟨rfl, congrArg (Value.int .i64) hle⟩, ⟨⟨rfl, rfl⟩, ⟨⟨rfl, rfl⟩, trivial⟩⟩⟩⟩⟩) (fun _ h => h.re [0] [1])
  ·
   have p26 := of_decide_eq_false c6
   refine k_exit ?_
   refine xs_exit ?_
   refine xs_exit ?_
   refine xs_here ?_
   refine xs_then ?_
   have hea := alive_end (hrun l i)
   have hez := alive_zero (hrun l i)
   refine k_sr ?_
   refine sp (pB hb4 0) ?_
   refine sp (.int .i64 ((hrun l i).objs.length : Int)) ?_
   refine s_lt (t_add ((hrun l i).objs.length : Int) 1 (by (try simp only [lnm]); omega)) ?_
   refine s_call [0] (halive_s (st := (hrun l i)) (((hrun l i).objs.length : Int) + 1)) ?_
   rintro _ _ ⟨rfl, rfl⟩
   refine s_lt (Lt.to (t_pure (.bool (!(halive (hrun l i) (((hrun l i).objs.length : Int) + 1))))) (congrArg Value.bool ((congrArg Bool.not (hea : (halive (hrun l i) (((hrun l i).objs.length : Int) + 1)) = false)).trans rfl : (!(halive (hrun l i) (((hrun l i).objs.length : Int) + 1))) = true))) ?_
   refine sp (.bool true) ?_
   refine sp (pB hb4 0) ?_
   refine s_call [0] (halive_s (st := (hrun l i)) 0) ?_
   rintro _ _ ⟨rfl, rfl⟩
   refine s_lt (Lt.to (t_pure (.bool (!(halive (hrun l i) 0)))) (congrArg Value.bool ((congrArg Bool.not (hez : (halive (hrun l i) 0) = false)).trans rfl : (!(halive (hrun l i) 0)) = true))) ?_
   refine sp (.bool true) ?_
   refine sp (.bool true) ?_
   refine s_vcall (fun _ h => awake_s) ?_
   rintro _ rfl
   refine sp (.bool true) ?_
   refine sp (.bool true) ?_
   refine s_nt ?_
   refine k_ret ?_
   exact xs_fin [.bool true] [] (SI.tmp 2 SI.nil) (fun _ h => h.re [] [0]) ⟨rfl, rfl⟩
end Go.Proofs.Ytmilekfknhglkaa
