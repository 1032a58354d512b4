/-
  Ordered maps of the reference. Each law says its conditions.
-/
import Derived.Test.YtplkkhpokodbmaaW1
set_option linter.unusedSimpArgs false
set_option linter.unusedVariables false
set_option maxRecDepth 100000
set_option maxHeartbeats 2000000
namespace Go.Proofs.Ytplkkhpokodbmaa
open Go.Hp Go.J Go.S
open Go.Mem (Ty KTy blk elemAt pre suf blk_pre blk_suf aget aset strK aggDesc)
open Go.Mem (adel apos aget_aset aget_adel)
/-- An ordered map of the reference in memory. -/
def rmA (b : Nat) (S : List Slt) : Asr := exA fun sv => stA (OInv S) [blkA b #[sv] 148, own RSltT sv S]
theorem rm_open {b : Nat} {S : List Slt} {Z : Zone} {F : List Asr} {H : Heap} (h : Holds Z (rmA b S :: F) H) : ∃ (sv : Value), OInv S ∧ Holds Z (blkA b #[sv] 148 :: own RSltT sv S :: F) H := by
  obtain ⟨sv, h⟩ := h.open_ex
  exact ⟨sv, h.open_st⟩
theorem rm_shut {b : Nat} {S : List Slt} {Z : Zone} {F : List Asr} {H : Heap} {sv : Value} (hp : OInv S) (h : Holds Z (blkA b #[sv] 148 :: own RSltT sv S :: F) H) : Holds Z (rmA b S :: F) H :=
  Holds.shut_ex sv (Holds.shut_st hp h)
theorem rm_inv {b : Nat} {S : List Slt} {Z : Zone} {F : List Asr} {H : Heap} (h : Holds Z (rmA b S :: F) H) : OInv S := by
  obtain ⟨_, h, _⟩ := rm_open h; exact h
theorem cnt_step {S : List Slt} {i : Nat} {s : Slt} (h : S[i]? = some s) : cnt (S.take (i + 1)) = if s.gone then cnt (S.take i) else cnt (S.take i) + 1 := by
  unfold cnt; rw [live_take h]; split <;> simp
theorem set_gone {S : List Slt} (h : OInv S) {k : Vl} {i : Nat} {s : Slt} (hs : S[i]? = some s) (hk : s.key = k) (hg : s.gone = true) : S = S.set i ⟨k, zVl, true⟩ := by
  have e := h.zero s (List.mem_of_getElem? hs) hg
  have : s = ⟨k, zVl, true⟩ := by rw [← hk, ← e, ← hg]
  rw [← this]; exact (set_same hs).symm
theorem rmnew_s {Z : Zone} : SF Try.prog 105 #[] Z [] fun r Bs => ∃ b, r = .pointer (some ⟨b, 0, none⟩) ∧ Bs = [rmA b []] := by
 refine sf_enter Try.func105 3 [] (fun w0 => ?_)
 refine k_sr ?_
 refine sp (.pointer none) ?_
 refine s_nr ?_
 refine s_lt (t_kern (.agg #[(.slice none 0 0)])) ?_
 refine s_box #[(.slice none 0 0)] (fun g1 => ?_)
 refine sp (pB g1 0) ?_
 refine s_nt ?_
 refine k_ret ?_
 refine xs_fin [pB g1 0] [rmA g1 []] (SI.tmp 0 SI.nil) (fun _ h => rm_shut (b := g1) (sv := .slice none 0 0) OInv.nil ((Holds.nilS (T := RSltT) h).re [1, 0] [])) ⟨g1, rfl, rfl⟩
theorem rmfind_s {Z : Zone} {F : List Asr} {b : Nat} {S : List Slt} (hs : S.length ≤ 1000000) (k : Vl) : SF Try.prog 112 #[.pointer (some ⟨b, 0, none⟩), k.v] Z (rmA b S :: F) fun r Bs => r = .int .i64 (findI S k) ∧ Bs = rmA b S :: F := by
 refine sf_enter Try.func112 38 [(0, pB b 0), (1, .agg #[.int .i64 k.kind, .int .i64 k.p, .int .i64 k.q, .string k.str, .int .i64 k.ref])] (fun w0 => ?_)
 refine k_fact (fun H h => rm_inv (h.re [0] [])) (fun hinv0 => ?_)
 refine k_sr ?_
 refine s_box #[.int .i64 k.kind, .int .i64 k.p, .int .i64 k.q, .string k.str, .int .i64 k.ref] (fun g1 => ?_)
 refine sp (.int .i64 0) ?_
 refine s_nr ?_
 refine sp (.int .i64 (-1)) ?_
 refine s_nt ?_
 refine k_seq ?_
 refine k_sr ?_
 refine sp (.int .i64 0) ?_
 refine s_nt ?_
 refine k_block ?_
 refine k_loop (ι := Nat) (fun i => i ≤ S.length) (fun i => [(0, pB b 0), (3, pB g1 0), (5, .int .i64 (findI (S.take i) k)), (6, .int .i64 (i : Int))]) (fun i => blkA g1 #[.int .i64 k.kind, .int .i64 k.p, .int .i64 k.q, .string k.str, .int .i64 k.ref] 26 :: rmA b S :: F) (fun i => S.length - i) 0 (Nat.zero_le _) (sub_of rfl ⟨⟨rfl, rfl⟩, ⟨⟨rfl, rfl⟩, ⟨⟨rfl, rfl⟩, ⟨⟨rfl, rfl⟩, trivial⟩⟩⟩⟩) (fun _ h => h.re [0, 0] []) ?_
 rintro i hi2
 show SK _ _ _ _ _ [(0, .pointer (some ⟨b, 0, none⟩)), (3, .pointer (some ⟨g1, 0, none⟩)), (5, .int .i64 (findI (S.take i) k)), (6, .int .i64 (i : Int))] _ (blkA g1 #[.int .i64 k.kind, .int .i64 k.p, .int .i64 k.q, .string k.str, .int .i64 k.ref] 26 :: rmA b S :: F)
 refine k_seq ?_
 refine k_sr ?_
 refine sp (.int .i64 (i : Int)) ?_
 refine sp (pB b 0) ?_
 refine sp (pB b 0) ?_
 refine sp (pB b 0) ?_
 refine s_memX (fun H h => rm_open (h.re [1] [])) (fun sv3 hw => ?_)
 refine s_lt (t_load 0 sv3) ?_
 refine s_lt (t_len RSltT_ok Try.underlying146 (.own 1)) ?_
 refine s_lt t_cmp ?_
 refine s_nt ?_
 refine k_cond (decide ((i : Int) < (S.length : Int))) (fun c5 => ?_) (fun c5 => ?_)
 ·
  have p6 := of_decide_eq_true c5
  refine k_st ?_
  refine k_seq ?_
  refine k_block ?_
  refine k_seq ?_
  refine k_draw ?_
  refine sp (pB b 0) ?_
  refine sp (pB b 0) ?_
  refine sp (pB b 0) ?_
  refine s_lt (t_load 0 sv3) ?_
  refine sp (.int .i64 (i : Int)) ?_
  refine s_lt (t_index RSltT_ok Try.underlying146 (.own 1) (i : Int) i (by omega) (by (try simp only [lnm]); omega) (by omega)) ?_
  refine sp (.pointer (some (elemAt RSltT.size sv3 i))) ?_
  obtain ⟨y7, hy8⟩ : ∃ y, S[i]? = some y := ⟨_, List.getElem?_eq_getElem (by (try simp only [lnm]); omega)⟩
  refine s_lt (t_loadG 0 #[.int .i64 y7.key.kind, .int .i64 y7.key.p, .int .i64 y7.key.q, .string y7.key.str, .int .i64 y7.key.ref] RSltT_ok (.own 1) hy8) ?_
  refine s_lt (t_loadA 2 #[.int .i64 k.kind, .int .i64 k.p, .int .i64 k.q, .string k.str, .int .i64 k.ref]) ?_
  refine s_lt (t_eqS (fun w => (eqVlT y7.key k w).1)) ?_
  refine s_nil ?_
  refine x_dynS (fun _ h => by kernel_rfl) ?_
  refine xs_then ?_
  refine k_cond (decide (y7.key = k)) (fun c9 => ?_) (fun c9 => ?_)
  ·
   have p10 := of_decide_eq_true c9
   refine k_sr ?_
   refine sp (.int .i64 (i : Int)) ?_
   refine sp (.int .i64 (i : Int)) ?_
   refine s_nr ?_
   refine sp (pB b 0) ?_
   refine sp (pB b 0) ?_
   refine sp (pB b 0) ?_
   refine s_lt (t_load 0 sv3) ?_
   refine sp (.int .i64 (i : Int)) ?_
   refine s_lt (t_index RSltT_ok Try.underlying146 (.own 1) (i : Int) i (by omega) (by (try simp only [lnm]); omega) (by omega)) ?_
   refine sp (.pointer (some ((elemAt RSltT.size sv3 i).add 10))) ?_
   refine s_lt (t_loadF 10 RSltT_ok (.own 1) hy8) ?_
   refine sp (.bool (!y7.gone)) ?_
   refine s_nt ?_
   refine k_cond (!y7.gone) (fun c11 => ?_) (fun c11 => ?_)
   ·
    have c12 := not_t c11
    refine k_sr ?_
    refine sp (.int .i64 (i : Int)) ?_
    refine sp (.int .i64 (i : Int)) ?_
    refine s_nt ?_
    refine k_ret ?_
    refine xs_retBlock ?_
    refine xs_ret ?_
    refine xs_ret ?_
    refine xs_retBlock ?_
    refine xs_ret ?_
    refine xs_mem (fun _ h => rm_shut (S := S) hinv0 (h.re [0, 0] [])) ?_
    refine xs_fin [.int .i64 (i : Int)] (rmA b S :: F) (SI.tmp 4 SI.nil) (fun _ h => h.re [0] [1]) ⟨congrArg (Value.int .i64) ?_, rfl⟩
    rw [← of_decide_eq_true c9]; exact (find_here hinv0 hy8 c12).symm
   ·
    have c13 := not_f c11
    refine k_skip ?_
    refine xs_block ?_
    refine xs_then ?_
    refine k_reg ?_
    refine sp (.int .i64 (i : Int)) ?_
    refine s_lt (t_add (i : Int) 1 (by (try simp only [lnm]); omega)) ?_
    refine sp (.int .i64 ((i : Int) + 1)) ?_
    refine s_nil ?_
    have hst := find_step k hy8
    rw [if_pos (of_decide_eq_true c9)] at hst
    refine xs_mem (fun _ h => rm_shut (S := S) hinv0 (h.re [0, 0] [])) ?_
    exact xs_round (i + 1) (by omega) (by omega) (sub_of rfl ⟨⟨rfl, rfl⟩, ⟨⟨rfl, rfl⟩, ⟨⟨rfl, congrArg (Value.int .i64) hst.symm⟩, ⟨⟨rfl, rfl⟩, trivial⟩⟩⟩⟩) (fun _ h => h.re [1, 0] [])
  ·
   have p14 := of_decide_eq_false c9
   refine k_skip ?_
   refine xs_block ?_
   refine xs_then ?_
   refine k_reg ?_
   refine sp (.int .i64 (i : Int)) ?_
   refine s_lt (t_add (i : Int) 1 (by (try simp only [lnm]); omega)) ?_
   refine sp (.int .i64 ((i : Int) + 1)) ?_
   refine s_nil ?_
   have hst := find_step k hy8
   rw [if_neg (of_decide_eq_false c9)] at hst
   refine xs_mem (fun _ h => rm_shut (S := S) hinv0 (h.re [0, 0] [])) ?_
   exact xs_round (i + 1) (by omega) (by omega) (sub_of rfl ⟨⟨rfl, rfl⟩, ⟨⟨rfl, rfl⟩, ⟨⟨rfl, congrArg (Value.int .i64) hst.symm⟩, ⟨⟨rfl, rfl⟩, trivial⟩⟩⟩⟩) (fun _ h => h.re [1, 0] [])
 ·
  have p15 := of_decide_eq_false c5
  refine k_exit ?_
  refine xs_exit ?_
  refine xs_exit ?_
  refine xs_here ?_
  refine xs_then ?_
  refine k_sr ?_
  refine sp (.int .i64 (findI (S.take i) k)) ?_
  refine sp (.int .i64 (findI (S.take i) k)) ?_
  refine s_nt ?_
  refine k_ret ?_
  refine xs_mem (fun _ h => rm_shut (S := S) hinv0 (h.re [0, 0] [])) ?_
  refine xs_fin [.int .i64 (findI (S.take i) k)] (rmA b S :: F) (SI.tmp 4 SI.nil) (fun _ h => h.re [0] [1]) ⟨congrArg (Value.int .i64) ?_, rfl⟩
  exact find_end k (by omega)
theorem rmget_s {Z : Zone} {F : List Asr} {b : Nat} {S : List Slt} (hs : S.length ≤ 1000000) (k : Vl) : SF Try.prog 96 #[.pointer (some ⟨b, 0, none⟩), k.v] Z (rmA b S :: F) fun r Bs => r = (oget S k).v ∧ Bs = rmA b S :: F := by
 refine sf_enter Try.func96 33 [(0, pB b 0), (1, .agg #[.int .i64 k.kind, .int .i64 k.p, .int .i64 k.q, .string k.str, .int .i64 k.ref])] (fun w0 => ?_)
 refine k_fact (fun H h => rm_inv (h.re [0] [])) (fun hinv0 => ?_)
 refine k_sr ?_
 refine s_box #[.int .i64 k.kind, .int .i64 k.p, .int .i64 k.q, .string k.str, .int .i64 k.ref] (fun g1 => ?_)
 refine s_alloc (.agg #[.int .i64 0, .int .i64 0, .int .i64 0, .string ByteArray.empty, .int .i64 0]) #[.int .i64 0, .int .i64 0, .int .i64 0, .string ByteArray.empty, .int .i64 0] (fun g2 => ?_)
 refine s_nt ?_
 refine k_seq ?_
 refine k_sr ?_
 refine sp (pB b 0) ?_
 refine sp (.bool false) ?_
 refine s_nt ?_
 refine k_false ?_
 refine k_st ?_
 refine k_sr ?_
 refine sp (pB b 0) ?_
 refine s_lt (t_loadA 1 #[.int .i64 k.kind, .int .i64 k.p, .int .i64 k.q, .string k.str, .int .i64 k.ref]) ?_
 refine s_call [2] (rmfind_s (S := S) (by omega) k) ?_
 rintro u3 _ ⟨e4, rfl⟩
 rcases find_cases (S := S) k with ⟨hf5, hl6, ht7, hg8⟩ | ⟨i9, s10, hf11, hl12, hs13, hk14, hg15, ht16⟩
 ·
  rw [hf5] at e4; subst e4
  refine sp (.int .i64 (-1)) ?_
  refine s_nt ?_
  refine k_seq ?_
  refine k_sr ?_
  refine sp (.int .i64 (-1)) ?_
  refine s_lt (t_cmp (c := true)) ?_
  refine sp (.bool true) ?_
  refine s_skip ?_
  refine s_skip ?_
  refine s_skip ?_
  refine s_skip ?_
  refine s_skip ?_
  refine s_skip ?_
  refine s_skip ?_
  refine s_skip ?_
  refine sp (.bool true) ?_
  refine s_nt ?_
  refine k_true ?_
  refine k_sr ?_
  refine s_lt (t_kern (.agg #[.int .i64 0, .int .i64 0, .int .i64 0, .string ByteArray.empty, .int .i64 0])) ?_
  refine s_store 1 #[.int .i64 0, .int .i64 0, .int .i64 0, .string ByteArray.empty, .int .i64 0] ?_
  refine s_nt ?_
  refine k_ret ?_
  refine xs_ret ?_
  refine xs_fin [.agg #[.int .i64 0, .int .i64 0, .int .i64 0, .string ByteArray.empty, .int .i64 0]] (rmA b S :: F) (SI.agg 4 26 1 SI.nil) (fun _ h => h.re [0] [1, 1]) ⟨?_, rfl⟩
  exact (congrArg Vl.v hg8).symm
 ·
  rw [hf11] at e4; subst e4
  have hlt17 : i9 < S.length := (List.getElem?_eq_some_iff.1 hs13).1
  refine sp (.int .i64 (i9 : Int)) ?_
  refine s_nt ?_
  refine k_seq ?_
  refine k_sr ?_
  refine sp (.int .i64 (i9 : Int)) ?_
  refine s_lt (Lt.to t_cmp (congrArg Value.bool (decide_eq_false (by omega) : (decide ((i9 : Int) < 0)) = false))) ?_
  refine sp (.bool false) ?_
  refine sp (pB b 0) ?_
  refine sp (pB b 0) ?_
  refine sp (pB b 0) ?_
  refine s_memX (fun H h => rm_open (h.re [0] [])) (fun sv18 hw => ?_)
  refine s_lt (t_load 0 sv18) ?_
  refine sp (.int .i64 (i9 : Int)) ?_
  refine s_lt (t_index RSltT_ok Try.underlying146 (.own 1) (i9 : Int) i9 (by omega) (by (try simp only [lnm]); omega) (by omega)) ?_
  refine sp (.pointer (some ((elemAt RSltT.size sv18 i9).add 10))) ?_
  refine s_lt (t_loadF 10 RSltT_ok (.own 1) hs13) ?_
  refine sp (.bool s10.gone) ?_
  refine s_nt ?_
  refine k_cond s10.gone (fun c20 => ?_) (fun c20 => ?_)
  ·
   refine k_sr ?_
   refine s_lt (t_kern (.agg #[.int .i64 0, .int .i64 0, .int .i64 0, .string ByteArray.empty, .int .i64 0])) ?_
   refine s_store 2 #[.int .i64 0, .int .i64 0, .int .i64 0, .string ByteArray.empty, .int .i64 0] ?_
   refine s_nt ?_
   refine k_ret ?_
   refine xs_ret ?_
   refine xs_mem (fun _ h => rm_shut (S := S) hinv0 (h.re [0, 0] [])) ?_
   refine xs_fin [.agg #[.int .i64 0, .int .i64 0, .int .i64 0, .string ByteArray.empty, .int .i64 0]] (rmA b S :: F) (SI.agg 4 26 1 SI.nil) (fun _ h => h.re [0] [1, 1]) ⟨?_, rfl⟩
   exact (congrArg Vl.v (hg15.trans (hinv0.zero _ (List.mem_of_getElem? hs13) c20))).symm
  ·
   refine k_st ?_
   refine k_sr ?_
   refine sp (pB b 0) ?_
   refine sp (pB b 0) ?_
   refine sp (pB b 0) ?_
   refine s_lt (t_load 0 sv18) ?_
   refine sp (.int .i64 (i9 : Int)) ?_
   refine s_lt (t_index RSltT_ok Try.underlying146 (.own 1) (i9 : Int) i9 (by omega) (by (try simp only [lnm]); omega) (by omega)) ?_
   refine sp (.pointer (some ((elemAt RSltT.size sv18 i9).add 5))) ?_
   refine s_lt (t_loadG 5 #[.int .i64 s10.val.kind, .int .i64 s10.val.p, .int .i64 s10.val.q, .string s10.val.str, .int .i64 s10.val.ref] RSltT_ok (.own 1) hs13) ?_
   refine s_store 2 #[.int .i64 s10.val.kind, .int .i64 s10.val.p, .int .i64 s10.val.q, .string s10.val.str, .int .i64 s10.val.ref] ?_
   refine s_nt ?_
   refine k_ret ?_
   refine xs_mem (fun _ h => rm_shut (S := S) hinv0 (h.re [0, 0] [])) ?_
   refine xs_fin [.agg #[.int .i64 s10.val.kind, .int .i64 s10.val.p, .int .i64 s10.val.q, .string s10.val.str, .int .i64 s10.val.ref]] (rmA b S :: F) (SI.agg 4 26 1 SI.nil) (fun _ h => h.re [0] [1, 1]) ⟨?_, rfl⟩
   exact (congrArg Vl.v hg15).symm
theorem rmlen_s {Z : Zone} {F : List Asr} {b : Nat} {S : List Slt} (hs : S.length ≤ 1000000) : SF Try.prog 119 #[.pointer (some ⟨b, 0, none⟩)] Z (rmA b S :: F) fun r Bs => r = .int .i64 (cnt S : Int) ∧ Bs = rmA b S :: F := by
 refine sf_enter Try.func119 28 [(0, pB b 0)] (fun w0 => ?_)
 refine k_fact (fun H h => rm_inv (h.re [0] [])) (fun hinv0 => ?_)
 refine k_sr ?_
 refine sp (.int .i64 0) ?_
 refine s_nt ?_
 refine k_seq ?_
 refine k_sr ?_
 refine sp (pB b 0) ?_
 refine sp (.bool false) ?_
 refine s_nt ?_
 refine k_false ?_
 refine k_st ?_
 refine k_sr ?_
 refine sp (.int .i64 0) ?_
 refine s_nt ?_
 refine k_seq ?_
 refine k_sr ?_
 refine sp (.int .i64 0) ?_
 refine s_nt ?_
 refine k_block ?_
 refine k_loop (ι := Nat) (fun i => i ≤ S.length) (fun i => [(0, pB b 0), (3, .int .i64 (cnt (S.take i) : Int)), (4, .int .i64 (i : Int))]) (fun i => rmA b S :: F) (fun i => S.length - i) 0 (Nat.zero_le _) (sub_of rfl ⟨⟨rfl, rfl⟩, ⟨⟨rfl, rfl⟩, ⟨⟨rfl, rfl⟩, trivial⟩⟩⟩) (fun _ h => h.re [0] []) ?_
 rintro i hi1
 show SK _ _ _ _ _ [(0, .pointer (some ⟨b, 0, none⟩)), (3, .int .i64 (cnt (S.take i) : Int)), (4, .int .i64 (i : Int))] _ (rmA b S :: F)
 have hcl : cnt (S.take i) ≤ i := Nat.le_trans (cnt_le _) (by rw [List.length_take]; omega)
 refine k_seq ?_
 refine k_sr ?_
 refine sp (.int .i64 (i : Int)) ?_
 refine sp (pB b 0) ?_
 refine sp (pB b 0) ?_
 refine sp (pB b 0) ?_
 refine s_memX (fun H h => rm_open (h.re [0] [])) (fun sv2 hw => ?_)
 refine s_lt (t_load 0 sv2) ?_
 refine s_lt (t_len RSltT_ok Try.underlying146 (.own 1)) ?_
 refine s_lt t_cmp ?_
 refine s_nt ?_
 refine k_cond (decide ((i : Int) < (S.length : Int))) (fun c4 => ?_) (fun c4 => ?_)
 ·
  have p5 := of_decide_eq_true c4
  refine k_st ?_
  refine k_seq ?_
  refine k_block ?_
  refine k_sr ?_
  refine sp (pB b 0) ?_
  refine sp (pB b 0) ?_
  refine sp (pB b 0) ?_
  refine s_lt (t_load 0 sv2) ?_
  refine sp (.int .i64 (i : Int)) ?_
  refine s_lt (t_index RSltT_ok Try.underlying146 (.own 1) (i : Int) i (by omega) (by (try simp only [lnm]); omega) (by omega)) ?_
  refine sp (.pointer (some ((elemAt RSltT.size sv2 i).add 10))) ?_
  obtain ⟨y6, hy7⟩ : ∃ y, S[i]? = some y := ⟨_, List.getElem?_eq_getElem (by (try simp only [lnm]); omega)⟩
  refine s_lt (t_loadF 10 RSltT_ok (.own 1) hy7) ?_
  refine sp (.bool (!y6.gone)) ?_
  refine s_nt ?_
  refine k_cond (!y6.gone) (fun c8 => ?_) (fun c8 => ?_)
  ·
   have c9 := not_t c8
   refine k_reg ?_
   refine sp (.int .i64 (cnt (S.take i) : Int)) ?_
   refine s_lt (t_add (cnt (S.take i) : Int) 1 (by (try simp only [lnm]); omega)) ?_
   refine sp (.int .i64 ((cnt (S.take i) : Int) + 1)) ?_
   refine s_nil ?_
   refine xs_block ?_
   refine xs_then ?_
   refine k_reg ?_
   refine sp (.int .i64 (i : Int)) ?_
   refine s_lt (t_add (i : Int) 1 (by (try simp only [lnm]); omega)) ?_
   refine sp (.int .i64 ((i : Int) + 1)) ?_
   refine s_nil ?_
   have hst := cnt_step hy7
   rw [if_neg (by rw [c9]; decide)] at hst
   rw [show ((cnt (S.take i) : Int) + 1) = ((cnt (S.take (i + 1)) : Nat) : Int) by omega]
   refine xs_mem (fun _ h => rm_shut (S := S) hinv0 (h.re [0, 0] [])) ?_
   exact xs_round (i + 1) (by omega) (by omega) (sub_of rfl ⟨⟨rfl, rfl⟩, ⟨⟨rfl, rfl⟩, ⟨⟨rfl, rfl⟩, trivial⟩⟩⟩) (fun _ h => h.re [0] [])
  ·
   have c10 := not_f c8
   refine k_skip ?_
   refine xs_block ?_
   refine xs_then ?_
   refine k_reg ?_
   refine sp (.int .i64 (i : Int)) ?_
   refine s_lt (t_add (i : Int) 1 (by (try simp only [lnm]); omega)) ?_
   refine sp (.int .i64 ((i : Int) + 1)) ?_
   refine s_nil ?_
   have hst := cnt_step hy7
   rw [if_pos c10] at hst
   rw [← hst]
   refine xs_mem (fun _ h => rm_shut (S := S) hinv0 (h.re [0, 0] [])) ?_
   exact xs_round (i + 1) (by omega) (by omega) (sub_of rfl ⟨⟨rfl, rfl⟩, ⟨⟨rfl, rfl⟩, ⟨⟨rfl, rfl⟩, trivial⟩⟩⟩) (fun _ h => h.re [0] [])
 ·
  have p11 := of_decide_eq_false c4
  refine k_exit ?_
  refine xs_exit ?_
  refine xs_exit ?_
  refine xs_here ?_
  refine xs_then ?_
  refine k_sr ?_
  refine sp (.int .i64 (cnt (S.take i) : Int)) ?_
  refine sp (.int .i64 (cnt (S.take i) : Int)) ?_
  refine s_nt ?_
  refine k_ret ?_
  refine xs_mem (fun _ h => rm_shut (S := S) hinv0 (h.re [0, 0] [])) ?_
  refine xs_fin [.int .i64 (cnt (S.take i) : Int)] (rmA b S :: F) (SI.tmp 2 SI.nil) (fun _ h => h.re [0] []) ⟨?_, rfl⟩
  show Value.int .i64 (cnt (S.take i) : Int) = _; rw [List.take_of_length_le (by omega)]
theorem rmkeys_s {Z : Zone} {F : List Asr} {b : Nat} {S : List Slt} (hs : S.length ≤ 1000000) : SF Try.prog 122 #[.pointer (some ⟨b, 0, none⟩)] Z (rmA b S :: F) fun r Bs => Bs = own VlT r (okeys S) :: rmA b S :: F := by
 refine sf_enter Try.func122 38 [(0, pB b 0)] (fun w0 => ?_)
 refine k_fact (fun H h => rm_inv (h.re [0] [])) (fun hinv0 => ?_)
 refine k_sr ?_
 refine sp (.slice none 0 0) ?_
 refine s_nr ?_
 refine sp (.slice none 0 0) ?_
 refine s_nt ?_
 refine k_seq ?_
 refine k_sr ?_
 refine sp (pB b 0) ?_
 refine sp (.bool false) ?_
 refine s_nt ?_
 refine k_false ?_
 refine k_st ?_
 refine k_seq ?_
 refine k_sr ?_
 refine sp (.int .i64 0) ?_
 refine s_nt ?_
 refine k_block ?_
 refine k_mem (fun _ h => Holds.nilS (T := VlT) h) ?_
 refine k_mem (Bs := own VlT (.slice none 0 0) (okeys (S.take 0)) :: rmA b S :: F) (fun _ h => h) ?_
 refine k_loop (ι := Value × Nat) (fun (lx, i) => i ≤ S.length) (fun (lx, i) => [(0, pB b 0), (3, lx), (4, .int .i64 (i : Int))]) (fun (lx, i) => own VlT lx (okeys (S.take i)) :: rmA b S :: F) (fun (lx, i) => S.length - i) ((.slice none 0 0), 0) (Nat.zero_le _) (sub_of rfl ⟨⟨rfl, rfl⟩, ⟨⟨rfl, rfl⟩, ⟨⟨rfl, rfl⟩, trivial⟩⟩⟩) (fun _ h => h.re [0, 0] []) ?_
 rintro ⟨lx, i⟩ hi1
 replace hi1 : i ≤ S.length := hi1
 show SK _ _ _ _ _ [(0, .pointer (some ⟨b, 0, none⟩)), (3, lx), (4, .int .i64 (i : Int))] _ (own VlT lx (okeys (S.take i)) :: rmA b S :: F)
 have hli : (okeys (S.take i)).length ≤ i := Nat.le_trans (okeys_len _) (by rw [List.length_take]; omega)
 refine k_seq ?_
 refine k_sr ?_
 refine sp (.int .i64 (i : Int)) ?_
 refine sp (pB b 0) ?_
 refine sp (pB b 0) ?_
 refine sp (pB b 0) ?_
 refine s_memX (fun H h => rm_open (h.re [1] [])) (fun sv2 hw => ?_)
 refine s_lt (t_load 0 sv2) ?_
 refine s_lt (t_len RSltT_ok Try.underlying146 (.own 1)) ?_
 refine s_lt t_cmp ?_
 refine s_nt ?_
 refine k_cond (decide ((i : Int) < (S.length : Int))) (fun c4 => ?_) (fun c4 => ?_)
 ·
  have p5 := of_decide_eq_true c4
  refine k_st ?_
  refine k_seq ?_
  refine k_block ?_
  refine k_sr ?_
  refine sp (pB b 0) ?_
  refine sp (pB b 0) ?_
  refine sp (pB b 0) ?_
  refine s_lt (t_load 0 sv2) ?_
  refine sp (.int .i64 (i : Int)) ?_
  refine s_lt (t_index RSltT_ok Try.underlying146 (.own 1) (i : Int) i (by omega) (by (try simp only [lnm]); omega) (by omega)) ?_
  refine sp (.pointer (some ((elemAt RSltT.size sv2 i).add 10))) ?_
  obtain ⟨y6, hy7⟩ : ∃ y, S[i]? = some y := ⟨_, List.getElem?_eq_getElem (by (try simp only [lnm]); omega)⟩
  refine s_lt (t_loadF 10 RSltT_ok (.own 1) hy7) ?_
  refine sp (.bool (!y6.gone)) ?_
  refine s_nt ?_
  refine k_cond (!y6.gone) (fun c8 => ?_) (fun c8 => ?_)
  ·
   have c9 := not_t c8
   refine k_reg ?_
   refine sp lx ?_
   refine sp (pB b 0) ?_
   refine sp (pB b 0) ?_
   refine sp (pB b 0) ?_
   refine s_lt (t_load 0 sv2) ?_
   refine sp (.int .i64 (i : Int)) ?_
   refine s_lt (t_index RSltT_ok Try.underlying146 (.own 1) (i : Int) i (by omega) (by (try simp only [lnm]); omega) (by omega)) ?_
   refine sp (.pointer (some (elemAt RSltT.size sv2 i))) ?_
   refine s_lt (t_loadG 0 #[.int .i64 y6.key.kind, .int .i64 y6.key.p, .int .i64 y6.key.q, .string y6.key.str, .int .i64 y6.key.ref] RSltT_ok (.own 1) hy7) ?_
   refine s_buildSlice (e := 26) [(0, .agg #[.int .i64 y6.key.kind, .int .i64 y6.key.p, .int .i64 y6.key.q, .string y6.key.str, .int .i64 y6.key.ref])] #[.int .i64 y6.key.kind, .int .i64 y6.key.p, .int .i64 y6.key.q, .string y6.key.str, .int .i64 y6.key.ref] (fun g10 => ?_) (hb := by kernel_rfl)
   refine s_append (L := (okeys (S.take i))) 3 VlT_ok Try.underlying33 (.lit 0 VlT_ok [y6.key]) (by show _ * 48 ≤ _; (try simp only [lnm]); omega) (by (try simp only [lnm]); omega) (fun v11 => ?_)
   refine sp v11 ?_
   refine s_nil ?_
   refine xs_block ?_
   refine xs_then ?_
   refine k_reg ?_
   refine sp (.int .i64 (i : Int)) ?_
   refine s_lt (t_add (i : Int) 1 (by (try simp only [lnm]); omega)) ?_
   refine sp (.int .i64 ((i : Int) + 1)) ?_
   refine s_nil ?_
   have hks := okeys_step hy7
   rw [if_neg (by rw [c9]; decide)] at hks
   rw [← hks]
   refine xs_mem (fun _ h => rm_shut (S := S) hinv0 (h.re [1, 1] [])) ?_
   exact xs_round (v11, i + 1) (by show S.length - (i + 1) < S.length - i; omega) (by show i + 1 ≤ S.length; omega) (sub_of rfl ⟨⟨rfl, rfl⟩, ⟨⟨rfl, rfl⟩, ⟨⟨rfl, rfl⟩, trivial⟩⟩⟩) (fun _ h => h.re [2, 0] [2])
  ·
   have c12 := not_f c8
   refine k_skip ?_
   refine xs_block ?_
   refine xs_then ?_
   refine k_reg ?_
   refine sp (.int .i64 (i : Int)) ?_
   refine s_lt (t_add (i : Int) 1 (by (try simp only [lnm]); omega)) ?_
   refine sp (.int .i64 ((i : Int) + 1)) ?_
   refine s_nil ?_
   have hks := okeys_step hy7
   rw [if_pos c12] at hks
   rw [← hks]
   refine xs_mem (fun _ h => rm_shut (S := S) hinv0 (h.re [0, 0] [])) ?_
   exact xs_round (lx, i + 1) (by show S.length - (i + 1) < S.length - i; omega) (by show i + 1 ≤ S.length; omega) (sub_of rfl ⟨⟨rfl, rfl⟩, ⟨⟨rfl, rfl⟩, ⟨⟨rfl, rfl⟩, trivial⟩⟩⟩) (fun _ h => h.re [1, 0] [])
 ·
  have p13 := of_decide_eq_false c4
  refine k_exit ?_
  refine xs_exit ?_
  refine xs_exit ?_
  refine xs_here ?_
  refine xs_then ?_
  refine k_sr ?_
  refine sp lx ?_
  refine sp lx ?_
  refine s_nt ?_
  refine k_ret ?_
  refine xs_mem (fun _ h => rm_shut (S := S) hinv0 (h.re [0, 0] [])) ?_
  have hend : okeys (S.take i) = okeys S := by rw [List.take_of_length_le (by omega)]
  rw [hend]
  exact xs_fin [lx] (own VlT lx (okeys S) :: rmA b S :: F) (SI.tmp 2 SI.nil) (fun _ h => h.re [1, 0] []) rfl
theorem next_found2 {S : List Slt} {a j : Nat} {s : Slt} (ha : a ≤ j) (h : live ((S.drop a).take (j - a)) = []) (hs : S[j]? = some s) (hg : s.gone = false) : slotV (live (S.drop a)).head? = (s.key, s.val, true) :=
  next_found h (by rw [List.getElem?_drop, show a + (j - a) = j by omega]; exact hs) hg
theorem next_end2 {S : List Slt} {a j : Nat} (ha : a ≤ j) (h : live ((S.drop a).take (j - a)) = []) (hj : S.length ≤ j) : slotV (live (S.drop a)).head? = (zVl, zVl, false) :=
  next_end h (by rw [List.length_drop]; omega)
theorem next_step2 {S : List Slt} {a j : Nat} {s : Slt} (ha : a ≤ j) (h : live ((S.drop a).take (j - a)) = []) (hs : S[j]? = some s) (hg : s.gone = true) : live ((S.drop a).take (j + 1 - a)) = [] := by
  rw [show j + 1 - a = (j - a) + 1 by omega]
  exact live_gone_step h (by rw [List.getElem?_drop, show a + (j - a) = j by omega]; exact hs) hg
theorem rmnext_s {Z : Zone} {F : List Asr} {b : Nat} {S : List Slt} (hs : S.length ≤ 1000000) (k : Vl) : SF Try.prog 121 #[.pointer (some ⟨b, 0, none⟩), k.v] Z (rmA b S :: F) fun r Bs => r = nextV (onext S k) ∧ Bs = rmA b S :: F := by
 refine sf_enter Try.func121 62 [(0, pB b 0), (1, .agg #[.int .i64 k.kind, .int .i64 k.p, .int .i64 k.q, .string k.str, .int .i64 k.ref])] (fun w0 => ?_)
 refine k_fact (fun H h => rm_inv (h.re [0] [])) (fun hinv0 => ?_)
 refine k_sr ?_
 refine s_box #[.int .i64 k.kind, .int .i64 k.p, .int .i64 k.q, .string k.str, .int .i64 k.ref] (fun g1 => ?_)
 refine s_alloc (.agg #[.int .i64 0, .int .i64 0, .int .i64 0, .string ByteArray.empty, .int .i64 0]) #[.int .i64 0, .int .i64 0, .int .i64 0, .string ByteArray.empty, .int .i64 0] (fun g2 => ?_)
 refine s_alloc (.agg #[.int .i64 0, .int .i64 0, .int .i64 0, .string ByteArray.empty, .int .i64 0]) #[.int .i64 0, .int .i64 0, .int .i64 0, .string ByteArray.empty, .int .i64 0] (fun g3 => ?_)
 refine sp (.bool false) ?_
 refine sp (.int .i64 0) ?_
 refine s_nt ?_
 refine k_seq ?_
 refine k_sr ?_
 refine sp (pB b 0) ?_
 refine sp (.bool false) ?_
 refine s_nt ?_
 refine k_false ?_
 refine k_st ?_
 refine k_sr ?_
 refine sp (.int .i64 (-1)) ?_
 refine s_nt ?_
 refine k_seq ?_
 refine k_sr ?_
 refine s_lt (t_loadA 2 #[.int .i64 k.kind, .int .i64 k.p, .int .i64 k.q, .string k.str, .int .i64 k.ref]) ?_
 refine s_lt (t_kern (.agg #[.int .i64 0, .int .i64 0, .int .i64 0, .string ByteArray.empty, .int .i64 0])) ?_
 refine s_lt (t_eqS (fun w => (eqVlT k zVl w).2)) ?_
 refine s_nt ?_
 refine k_cond (!(decide (k = zVl))) (fun c4 => ?_) (fun c4 => ?_)
 ·
  have c5 := not_t c4
  have p6 := of_decide_eq_false c5
  refine k_sr ?_
  refine sp (pB b 0) ?_
  refine s_lt (t_loadA 2 #[.int .i64 k.kind, .int .i64 k.p, .int .i64 k.q, .string k.str, .int .i64 k.ref]) ?_
  refine s_call [3] (rmfind_s (S := S) (by omega) k) ?_
  rintro u7 _ ⟨e8, rfl⟩
  rcases find_cases (S := S) k with ⟨hf9, hl10, ht11, hg12⟩ | ⟨i13, s14, hf15, hl16, hs17, hk18, hg19, ht20⟩
  ·
   rw [hf9] at e8; subst e8
   refine sp (.int .i64 (-1)) ?_
   refine s_nr ?_
   refine sp (.int .i64 (-1)) ?_
   refine s_lt (t_cmp (c := true)) ?_
   refine s_nt ?_
   refine k_true ?_
   refine k_sr ?_
   refine s_lt (t_kern (.agg #[.int .i64 0, .int .i64 0, .int .i64 0, .string ByteArray.empty, .int .i64 0])) ?_
   refine s_lt (t_kern (.agg #[.int .i64 0, .int .i64 0, .int .i64 0, .string ByteArray.empty, .int .i64 0])) ?_
   refine s_store 2 #[.int .i64 0, .int .i64 0, .int .i64 0, .string ByteArray.empty, .int .i64 0] ?_
   refine s_store 1 #[.int .i64 0, .int .i64 0, .int .i64 0, .string ByteArray.empty, .int .i64 0] ?_
   refine sp (.bool false) ?_
   refine sp (.int .i64 13) ?_
   refine s_nt ?_
   refine k_ret ?_
   refine xs_ret ?_
   have hp : onext S k = (zVl, zVl, false, 13) := (onext_none (of_decide_eq_false c5) hl10)
   refine xs_fin [.agg #[.int .i64 0, .int .i64 0, .int .i64 0, .string ByteArray.empty, .int .i64 0], .agg #[.int .i64 0, .int .i64 0, .int .i64 0, .string ByteArray.empty, .int .i64 0], .bool false, .int .i64 13] (rmA b S :: F) (SI.agg 4 26 2 (SI.agg 5 26 1 (SI.tmp 6 (SI.tmp 7 SI.nil)))) (fun _ h => h.re [0] [1, 1, 1]) ⟨?_, rfl⟩
   rw [hp]; rfl
  ·
   rw [hf15] at e8; subst e8
   have hlt21 : i13 < S.length := (List.getElem?_eq_some_iff.1 hs17).1
   refine sp (.int .i64 (i13 : Int)) ?_
   refine s_nr ?_
   refine sp (.int .i64 (i13 : Int)) ?_
   refine s_lt (Lt.to t_cmp (congrArg Value.bool (decide_eq_false (by omega) : (decide ((i13 : Int) < 0)) = false))) ?_
   refine s_nt ?_
   refine k_false ?_
   refine k_st ?_
   refine k_seq ?_
   refine k_sr ?_
   refine sp (.int .i64 (i13 : Int)) ?_
   refine s_lt (t_add (i13 : Int) 1 (by (try simp only [lnm]); omega)) ?_
   refine sp (.int .i64 ((i13 : Int) + 1)) ?_
   refine s_nt ?_
   refine k_block ?_
   refine k_loop (ι := Nat) (fun j => (i13 + 1) ≤ j ∧ j ≤ S.length ∧ live ((S.drop (i13 + 1)).take (j - (i13 + 1))) = []) (fun j => [(0, pB b 0), (4, pB g2 0), (5, pB g3 0), (9, .int .i64 (j : Int))]) (fun j => rmA b S :: blkA g3 #[.int .i64 0, .int .i64 0, .int .i64 0, .string ByteArray.empty, .int .i64 0] 26 :: blkA g2 #[.int .i64 0, .int .i64 0, .int .i64 0, .string ByteArray.empty, .int .i64 0] 26 :: blkA g1 #[.int .i64 k.kind, .int .i64 k.p, .int .i64 k.q, .string k.str, .int .i64 k.ref] 26 :: F) (fun j => S.length - j) (i13 + 1) ⟨Nat.le_refl _, by omega, by rw [Nat.sub_self]; rfl⟩ (sub_of rfl ⟨⟨rfl, rfl⟩, ⟨⟨rfl, rfl⟩, ⟨⟨rfl, rfl⟩, ⟨⟨rfl, rfl⟩, trivial⟩⟩⟩⟩) (fun _ h => h.re [0, 0, 0, 0] []) ?_
   rintro j hi22
   show SK _ _ _ _ _ [(0, .pointer (some ⟨b, 0, none⟩)), (4, .pointer (some ⟨g2, 0, none⟩)), (5, .pointer (some ⟨g3, 0, none⟩)), (9, .int .i64 (j : Int))] _ (rmA b S :: blkA g3 #[.int .i64 0, .int .i64 0, .int .i64 0, .string ByteArray.empty, .int .i64 0] 26 :: blkA g2 #[.int .i64 0, .int .i64 0, .int .i64 0, .string ByteArray.empty, .int .i64 0] 26 :: blkA g1 #[.int .i64 k.kind, .int .i64 k.p, .int .i64 k.q, .string k.str, .int .i64 k.ref] 26 :: F)
   refine k_seq ?_
   refine k_sr ?_
   refine sp (.int .i64 (j : Int)) ?_
   refine sp (pB b 0) ?_
   refine sp (pB b 0) ?_
   refine sp (pB b 0) ?_
   refine s_memX (fun H h => rm_open (h.re [0] [])) (fun sv23 hw => ?_)
   refine s_lt (t_load 0 sv23) ?_
   refine s_lt (t_len RSltT_ok Try.underlying146 (.own 1)) ?_
   refine s_lt t_cmp ?_
   refine s_nt ?_
   refine k_cond (decide ((j : Int) < (S.length : Int))) (fun c25 => ?_) (fun c25 => ?_)
   ·
    have p26 := of_decide_eq_true c25
    refine k_st ?_
    refine k_seq ?_
    refine k_block ?_
    refine k_sr ?_
    refine sp (pB b 0) ?_
    refine sp (pB b 0) ?_
    refine sp (pB b 0) ?_
    refine s_lt (t_load 0 sv23) ?_
    refine sp (.int .i64 (j : Int)) ?_
    refine s_lt (t_index RSltT_ok Try.underlying146 (.own 1) (j : Int) j (by omega) (by (try simp only [lnm]); omega) (by omega)) ?_
    refine sp (.pointer (some ((elemAt RSltT.size sv23 j).add 10))) ?_
    obtain ⟨y27, hy28⟩ : ∃ y, S[j]? = some y := ⟨_, List.getElem?_eq_getElem (by (try simp only [lnm]); omega)⟩
    refine s_lt (t_loadF 10 RSltT_ok (.own 1) hy28) ?_
    refine sp (.bool (!y27.gone)) ?_
    refine s_nt ?_
    refine k_cond (!y27.gone) (fun c29 => ?_) (fun c29 => ?_)
    ·
     have c30 := not_t c29
     refine k_seq ?_
     refine k_held [blkA b #[sv23] 148, own RSltT sv23 S, blkA g1 #[.int .i64 k.kind, .int .i64 k.p, .int .i64 k.q, .string k.str, .int .i64 k.ref] 26] ?_
     refine hp_ 0 [0, 0, 2] (pB b 0) ?_
     refine hp_ 1 [0, 0, 2] (pB b 0) ?_
     refine hp_ 2 [0, 0, 2] (pB b 0) ?_
     refine h_l 3 rfl [0, 0, 2] (fun _ => (t_load 0 sv23)) ?_
     refine hp_ 4 [0, 0, 2] (.int .i64 (j : Int)) ?_
     refine h_l 5 rfl [0, 0, 2] (fun _ => (t_index RSltT_ok Try.underlying146 (.own 1) (j : Int) j (by omega) (by (try simp only [lnm]); omega) (by omega))) ?_
     refine hp_ 6 [0, 0, 2] (.pointer (some (elemAt RSltT.size sv23 j))) ?_
     refine h_l 7 rfl [0, 0, 2] (fun _ => (t_loadG 0 #[.int .i64 y27.key.kind, .int .i64 y27.key.p, .int .i64 y27.key.q, .string y27.key.str, .int .i64 y27.key.ref] RSltT_ok (.own 1) hy28)) ?_
     refine hp_ 8 [0, 0, 2] (pB b 0) ?_
     refine hp_ 9 [0, 0, 2] (pB b 0) ?_
     refine hp_ 10 [0, 0, 2] (pB b 0) ?_
     refine h_l 11 rfl [0, 0, 2] (fun _ => (t_load 0 sv23)) ?_
     refine hp_ 12 [0, 0, 2] (.int .i64 (j : Int)) ?_
     refine h_l 13 rfl [0, 0, 2] (fun _ => (t_index RSltT_ok Try.underlying146 (.own 1) (j : Int) j (by omega) (by (try simp only [lnm]); omega) (by omega))) ?_
     refine hp_ 14 [0, 0, 2] (.pointer (some ((elemAt RSltT.size sv23 j).add 5))) ?_
     refine h_l 15 rfl [0, 0, 2] (fun _ => (t_loadG 5 #[.int .i64 y27.val.kind, .int .i64 y27.val.p, .int .i64 y27.val.q, .string y27.val.str, .int .i64 y27.val.ref] RSltT_ok (.own 1) hy28)) ?_
     refine h_stepS 16 ?_
     refine s_store 3 #[.int .i64 y27.key.kind, .int .i64 y27.key.p, .int .i64 y27.key.q, .string y27.key.str, .int .i64 y27.key.ref] ?_
     refine s_nil (xs_held [0, 0, 2] ?_)
     refine h_stepS 17 ?_
     refine s_store 2 #[.int .i64 y27.val.kind, .int .i64 y27.val.p, .int .i64 y27.val.q, .string y27.val.str, .int .i64 y27.val.ref] ?_
     refine s_nil (xs_held [0, 0, 2] ?_)
     refine hp_ 18 [0, 0, 2] (.bool true) ?_
     refine hp_ 19 [0, 0, 2] (.int .i64 0) ?_
     refine h_doneS ?_
     refine xs_then ?_
     refine k_ret ?_
     refine xs_retBlock ?_
     refine xs_ret ?_
     refine xs_ret ?_
     refine xs_retBlock ?_
     refine xs_ret ?_
     refine xs_mem (fun _ h => rm_shut (S := S) hinv0 (h.re [0, 0] [])) ?_
     have hr := next_found2 (a := (i13 + 1)) (by omega) hi22.2.2 hy28 c30
     have hp : onext S k = (y27.key, y27.val, true, 0) := by rw [(onext_some (of_decide_eq_false c5) hl16)]; first | (rw [hr]; done) | (have hr0 : slotV (live S).head? = _ := hr; rw [hr0])
     refine xs_fin [.agg #[.int .i64 y27.key.kind, .int .i64 y27.key.p, .int .i64 y27.key.q, .string y27.key.str, .int .i64 y27.key.ref], .agg #[.int .i64 y27.val.kind, .int .i64 y27.val.p, .int .i64 y27.val.q, .string y27.val.str, .int .i64 y27.val.ref], .bool true, .int .i64 0] (rmA b S :: F) (SI.agg 4 26 2 (SI.agg 5 26 1 (SI.tmp 6 (SI.tmp 7 SI.nil)))) (fun _ h => h.re [0] [1, 1, 1]) ⟨?_, rfl⟩
     rw [hp]; rfl
    ·
     have c31 := not_f c29
     refine k_skip ?_
     refine xs_block ?_
     refine xs_then ?_
     refine k_reg ?_
     refine sp (.int .i64 (j : Int)) ?_
     refine s_lt (t_add (j : Int) 1 (by (try simp only [lnm]); omega)) ?_
     refine sp (.int .i64 ((j : Int) + 1)) ?_
     refine s_nil ?_
     refine xs_mem (fun _ h => rm_shut (S := S) hinv0 (h.re [0, 0] [])) ?_
     exact xs_round (j + 1) (by omega) ⟨by omega, by omega, next_step2 (by omega) hi22.2.2 hy28 c31⟩ (sub_of rfl ⟨⟨rfl, rfl⟩, ⟨⟨rfl, rfl⟩, ⟨⟨rfl, rfl⟩, ⟨⟨rfl, rfl⟩, trivial⟩⟩⟩⟩) (fun _ h => h.re [0, 0, 0, 0] [])
   ·
    have p32 := of_decide_eq_false c25
    refine k_exit ?_
    refine xs_exit ?_
    refine xs_exit ?_
    refine xs_here ?_
    refine xs_then ?_
    refine k_sr ?_
    refine s_lt (t_kern (.agg #[.int .i64 0, .int .i64 0, .int .i64 0, .string ByteArray.empty, .int .i64 0])) ?_
    refine s_lt (t_kern (.agg #[.int .i64 0, .int .i64 0, .int .i64 0, .string ByteArray.empty, .int .i64 0])) ?_
    refine s_store 3 #[.int .i64 0, .int .i64 0, .int .i64 0, .string ByteArray.empty, .int .i64 0] ?_
    refine s_store 2 #[.int .i64 0, .int .i64 0, .int .i64 0, .string ByteArray.empty, .int .i64 0] ?_
    refine sp (.bool false) ?_
    refine sp (.int .i64 0) ?_
    refine s_nt ?_
    refine k_ret ?_
    refine xs_mem (fun _ h => rm_shut (S := S) hinv0 (h.re [0, 0] [])) ?_
    have hr := next_end2 (a := (i13 + 1)) (by omega) hi22.2.2 (by omega)
    have hp : onext S k = (zVl, zVl, false, 0) := by rw [(onext_some (of_decide_eq_false c5) hl16)]; first | (rw [hr]; done) | (have hr0 : slotV (live S).head? = _ := hr; rw [hr0])
    refine xs_fin [.agg #[.int .i64 0, .int .i64 0, .int .i64 0, .string ByteArray.empty, .int .i64 0], .agg #[.int .i64 0, .int .i64 0, .int .i64 0, .string ByteArray.empty, .int .i64 0], .bool false, .int .i64 0] (rmA b S :: F) (SI.agg 4 26 2 (SI.agg 5 26 1 (SI.tmp 6 (SI.tmp 7 SI.nil)))) (fun _ h => h.re [0] [1, 1, 1]) ⟨?_, rfl⟩
    rw [hp]; rfl
 ·
  have c33 := not_f c4
  have p34 := of_decide_eq_true c33
  refine k_st ?_
  refine k_seq ?_
  refine k_sr ?_
  refine sp (.int .i64 (-1)) ?_
  refine sp (.int .i64 0) ?_
  refine sp (.int .i64 0) ?_
  refine s_nt ?_
  refine k_block ?_
  refine k_loop (ι := Nat) (fun j => 0 ≤ j ∧ j ≤ S.length ∧ live ((S.drop 0).take (j - 0)) = []) (fun j => [(0, pB b 0), (4, pB g2 0), (5, pB g3 0), (9, .int .i64 (j : Int))]) (fun j => blkA g3 #[.int .i64 0, .int .i64 0, .int .i64 0, .string ByteArray.empty, .int .i64 0] 26 :: blkA g2 #[.int .i64 0, .int .i64 0, .int .i64 0, .string ByteArray.empty, .int .i64 0] 26 :: blkA g1 #[.int .i64 k.kind, .int .i64 k.p, .int .i64 k.q, .string k.str, .int .i64 k.ref] 26 :: rmA b S :: F) (fun j => S.length - j) 0 ⟨Nat.le_refl _, by omega, by rw [Nat.sub_self]; rfl⟩ (sub_of rfl ⟨⟨rfl, rfl⟩, ⟨⟨rfl, rfl⟩, ⟨⟨rfl, rfl⟩, ⟨⟨rfl, rfl⟩, trivial⟩⟩⟩⟩) (fun _ h => h.re [0, 0, 0, 0] []) ?_
  rintro j hi35
  show SK _ _ _ _ _ [(0, .pointer (some ⟨b, 0, none⟩)), (4, .pointer (some ⟨g2, 0, none⟩)), (5, .pointer (some ⟨g3, 0, none⟩)), (9, .int .i64 (j : Int))] _ (blkA g3 #[.int .i64 0, .int .i64 0, .int .i64 0, .string ByteArray.empty, .int .i64 0] 26 :: blkA g2 #[.int .i64 0, .int .i64 0, .int .i64 0, .string ByteArray.empty, .int .i64 0] 26 :: blkA g1 #[.int .i64 k.kind, .int .i64 k.p, .int .i64 k.q, .string k.str, .int .i64 k.ref] 26 :: rmA b S :: F)
  refine k_seq ?_
  refine k_sr ?_
  refine sp (.int .i64 (j : Int)) ?_
  refine sp (pB b 0) ?_
  refine sp (pB b 0) ?_
  refine sp (pB b 0) ?_
  refine s_memX (fun H h => rm_open (h.re [3] [])) (fun sv36 hw => ?_)
  refine s_lt (t_load 0 sv36) ?_
  refine s_lt (t_len RSltT_ok Try.underlying146 (.own 1)) ?_
  refine s_lt t_cmp ?_
  refine s_nt ?_
  refine k_cond (decide ((j : Int) < (S.length : Int))) (fun c38 => ?_) (fun c38 => ?_)
  ·
   have p39 := of_decide_eq_true c38
   refine k_st ?_
   refine k_seq ?_
   refine k_block ?_
   refine k_sr ?_
   refine sp (pB b 0) ?_
   refine sp (pB b 0) ?_
   refine sp (pB b 0) ?_
   refine s_lt (t_load 0 sv36) ?_
   refine sp (.int .i64 (j : Int)) ?_
   refine s_lt (t_index RSltT_ok Try.underlying146 (.own 1) (j : Int) j (by omega) (by (try simp only [lnm]); omega) (by omega)) ?_
   refine sp (.pointer (some ((elemAt RSltT.size sv36 j).add 10))) ?_
   obtain ⟨y40, hy41⟩ : ∃ y, S[j]? = some y := ⟨_, List.getElem?_eq_getElem (by (try simp only [lnm]); omega)⟩
   refine s_lt (t_loadF 10 RSltT_ok (.own 1) hy41) ?_
   refine sp (.bool (!y40.gone)) ?_
   refine s_nt ?_
   refine k_cond (!y40.gone) (fun c42 => ?_) (fun c42 => ?_)
   ·
    have c43 := not_t c42
    refine k_seq ?_
    refine k_held [blkA b #[sv36] 148, own RSltT sv36 S, blkA g1 #[.int .i64 k.kind, .int .i64 k.p, .int .i64 k.q, .string k.str, .int .i64 k.ref] 26] ?_
    refine hp_ 0 [0, 0, 2] (pB b 0) ?_
    refine hp_ 1 [0, 0, 2] (pB b 0) ?_
    refine hp_ 2 [0, 0, 2] (pB b 0) ?_
    refine h_l 3 rfl [0, 0, 2] (fun _ => (t_load 0 sv36)) ?_
    refine hp_ 4 [0, 0, 2] (.int .i64 (j : Int)) ?_
    refine h_l 5 rfl [0, 0, 2] (fun _ => (t_index RSltT_ok Try.underlying146 (.own 1) (j : Int) j (by omega) (by (try simp only [lnm]); omega) (by omega))) ?_
    refine hp_ 6 [0, 0, 2] (.pointer (some (elemAt RSltT.size sv36 j))) ?_
    refine h_l 7 rfl [0, 0, 2] (fun _ => (t_loadG 0 #[.int .i64 y40.key.kind, .int .i64 y40.key.p, .int .i64 y40.key.q, .string y40.key.str, .int .i64 y40.key.ref] RSltT_ok (.own 1) hy41)) ?_
    refine hp_ 8 [0, 0, 2] (pB b 0) ?_
    refine hp_ 9 [0, 0, 2] (pB b 0) ?_
    refine hp_ 10 [0, 0, 2] (pB b 0) ?_
    refine h_l 11 rfl [0, 0, 2] (fun _ => (t_load 0 sv36)) ?_
    refine hp_ 12 [0, 0, 2] (.int .i64 (j : Int)) ?_
    refine h_l 13 rfl [0, 0, 2] (fun _ => (t_index RSltT_ok Try.underlying146 (.own 1) (j : Int) j (by omega) (by (try simp only [lnm]); omega) (by omega))) ?_
    refine hp_ 14 [0, 0, 2] (.pointer (some ((elemAt RSltT.size sv36 j).add 5))) ?_
    refine h_l 15 rfl [0, 0, 2] (fun _ => (t_loadG 5 #[.int .i64 y40.val.kind, .int .i64 y40.val.p, .int .i64 y40.val.q, .string y40.val.str, .int .i64 y40.val.ref] RSltT_ok (.own 1) hy41)) ?_
    refine h_stepS 16 ?_
    refine s_store 3 #[.int .i64 y40.key.kind, .int .i64 y40.key.p, .int .i64 y40.key.q, .string y40.key.str, .int .i64 y40.key.ref] ?_
    refine s_nil (xs_held [0, 0, 2] ?_)
    refine h_stepS 17 ?_
    refine s_store 2 #[.int .i64 y40.val.kind, .int .i64 y40.val.p, .int .i64 y40.val.q, .string y40.val.str, .int .i64 y40.val.ref] ?_
    refine s_nil (xs_held [0, 0, 2] ?_)
    refine hp_ 18 [0, 0, 2] (.bool true) ?_
    refine hp_ 19 [0, 0, 2] (.int .i64 0) ?_
    refine h_doneS ?_
    refine xs_then ?_
    refine k_ret ?_
    refine xs_retBlock ?_
    refine xs_ret ?_
    refine xs_ret ?_
    refine xs_retBlock ?_
    refine xs_ret ?_
    refine xs_mem (fun _ h => rm_shut (S := S) hinv0 (h.re [0, 0] [])) ?_
    have hz : k = zVl := (of_decide_eq_true c33)
    subst hz
    have hr := next_found2 (a := 0) (by omega) hi35.2.2 hy41 c43
    have hp : onext S zVl = (y40.key, y40.val, true, 0) := by rw [(onext_nil S)]; first | (rw [hr]; done) | (have hr0 : slotV (live S).head? = _ := hr; rw [hr0])
    refine xs_fin [.agg #[.int .i64 y40.key.kind, .int .i64 y40.key.p, .int .i64 y40.key.q, .string y40.key.str, .int .i64 y40.key.ref], .agg #[.int .i64 y40.val.kind, .int .i64 y40.val.p, .int .i64 y40.val.q, .string y40.val.str, .int .i64 y40.val.ref], .bool true, .int .i64 0] (rmA b S :: F) (SI.agg 4 26 2 (SI.agg 5 26 1 (SI.tmp 6 (SI.tmp 7 SI.nil)))) (fun _ h => h.re [0] [1, 1, 1]) ⟨?_, rfl⟩
    rw [hp]; rfl
   ·
    have c44 := not_f c42
    refine k_skip ?_
    refine xs_block ?_
    refine xs_then ?_
    refine k_reg ?_
    refine sp (.int .i64 (j : Int)) ?_
    refine s_lt (t_add (j : Int) 1 (by (try simp only [lnm]); omega)) ?_
    refine sp (.int .i64 ((j : Int) + 1)) ?_
    refine s_nil ?_
    refine xs_mem (fun _ h => rm_shut (S := S) hinv0 (h.re [0, 0] [])) ?_
    exact xs_round (j + 1) (by omega) ⟨by omega, by omega, next_step2 (by omega) hi35.2.2 hy41 c44⟩ (sub_of rfl ⟨⟨rfl, rfl⟩, ⟨⟨rfl, rfl⟩, ⟨⟨rfl, rfl⟩, ⟨⟨rfl, rfl⟩, trivial⟩⟩⟩⟩) (fun _ h => h.re [1, 1, 1, 0] [])
  ·
   have p45 := of_decide_eq_false c38
   refine k_exit ?_
   refine xs_exit ?_
   refine xs_exit ?_
   refine xs_here ?_
   refine xs_then ?_
   refine k_sr ?_
   refine s_lt (t_kern (.agg #[.int .i64 0, .int .i64 0, .int .i64 0, .string ByteArray.empty, .int .i64 0])) ?_
   refine s_lt (t_kern (.agg #[.int .i64 0, .int .i64 0, .int .i64 0, .string ByteArray.empty, .int .i64 0])) ?_
   refine s_store 3 #[.int .i64 0, .int .i64 0, .int .i64 0, .string ByteArray.empty, .int .i64 0] ?_
   refine s_store 2 #[.int .i64 0, .int .i64 0, .int .i64 0, .string ByteArray.empty, .int .i64 0] ?_
   refine sp (.bool false) ?_
   refine sp (.int .i64 0) ?_
   refine s_nt ?_
   refine k_ret ?_
   refine xs_mem (fun _ h => rm_shut (S := S) hinv0 (h.re [0, 0] [])) ?_
   have hz : k = zVl := (of_decide_eq_true c33)
   subst hz
   have hr := next_end2 (a := 0) (by omega) hi35.2.2 (by omega)
   have hp : onext S zVl = (zVl, zVl, false, 0) := by rw [(onext_nil S)]; first | (rw [hr]; done) | (have hr0 : slotV (live S).head? = _ := hr; rw [hr0])
   refine xs_fin [.agg #[.int .i64 0, .int .i64 0, .int .i64 0, .string ByteArray.empty, .int .i64 0], .agg #[.int .i64 0, .int .i64 0, .int .i64 0, .string ByteArray.empty, .int .i64 0], .bool false, .int .i64 0] (rmA b S :: F) (SI.agg 4 26 2 (SI.agg 5 26 1 (SI.tmp 6 (SI.tmp 7 SI.nil)))) (fun _ h => h.re [0] [1, 1, 1]) ⟨?_, rfl⟩
   rw [hp]; rfl
theorem rmset_s {Z : Zone} {F : List Asr} {b : Nat} {S : List Slt} (hs : S.length ≤ 1000000) (k v : Vl) : SF Try.prog 106 #[.pointer (some ⟨b, 0, none⟩), k.v, v.v] Z (rmA b S :: F) fun r Bs => r = .int .i64 (osetE k v) ∧ Bs = rmA b (osetL S k v) :: F := by
 refine sf_enter Try.func106 117 [(0, pB b 0), (1, .agg #[.int .i64 k.kind, .int .i64 k.p, .int .i64 k.q, .string k.str, .int .i64 k.ref]), (2, .agg #[.int .i64 v.kind, .int .i64 v.p, .int .i64 v.q, .string v.str, .int .i64 v.ref])] (fun w0 => ?_)
 refine k_fact (fun H h => rm_inv (h.re [0] [])) (fun hinv0 => ?_)
 refine k_sr ?_
 refine s_box #[.int .i64 k.kind, .int .i64 k.p, .int .i64 k.q, .string k.str, .int .i64 k.ref] (fun g1 => ?_)
 refine s_box #[.int .i64 v.kind, .int .i64 v.p, .int .i64 v.q, .string v.str, .int .i64 v.ref] (fun g2 => ?_)
 refine sp (.int .i64 0) ?_
 refine s_nt ?_
 refine k_seq ?_
 refine k_sr ?_
 refine sp (pB b 0) ?_
 refine sp (.bool false) ?_
 refine s_nt ?_
 refine k_false ?_
 refine k_st ?_
 refine k_seq ?_
 refine k_cut (ι := Unit) (fun _ => True) (fun _ => [(0, pB b 0), (4, pB g1 0), (5, pB g2 0), (20, .bool ((decide (k.kind = 0)) || (!(validB k))))]) (fun _ => blkA g2 #[.int .i64 v.kind, .int .i64 v.p, .int .i64 v.q, .string v.str, .int .i64 v.ref] 26 :: blkA g1 #[.int .i64 k.kind, .int .i64 k.p, .int .i64 k.q, .string k.str, .int .i64 k.ref] 26 :: rmA b S :: F) ?_ (fun _ _ => ?_)
 ·
  refine k_reg ?_
  refine sp (pB g1 0) ?_
  refine s_lt (t_load 1 (.int .i64 k.kind)) ?_
  refine s_lt t_cmp ?_
  refine sp (.bool (decide (k.kind = 0))) ?_
  refine s_fork 16 (decide (k.kind = 0)) (fun c3 => ?_) (fun c3 => ?_)
  ·
   have p4 := of_decide_eq_true c3
   refine s_skip ?_
   refine s_skip ?_
   refine s_skip ?_
   refine sp (.bool true) ?_
   refine s_nil ?_
   exact xs_cut () trivial (sub_of rfl ⟨⟨rfl, rfl⟩, ⟨⟨rfl, rfl⟩, ⟨⟨rfl, rfl⟩, ⟨⟨rfl, show Value.bool true = Value.bool ((decide (k.kind = 0)) || (!(validB k))) by first | (simp only [c3, bls]; done) | simp [c3]⟩, trivial⟩⟩⟩⟩) (fun _ h => h.re [0, 0, 0] [])
  ·
   have p5 := of_decide_eq_false c3
   refine s_lt (t_loadA 1 #[.int .i64 k.kind, .int .i64 k.p, .int .i64 k.q, .string k.str, .int .i64 k.ref]) ?_
   refine s_vcall (fun _ h => rvalid_s k) ?_
   rintro _ rfl
   refine sp (.bool (!(validB k))) ?_
   refine sp (.bool (!(validB k))) ?_
   refine s_nil ?_
   exact xs_cut () trivial (sub_of rfl ⟨⟨rfl, rfl⟩, ⟨⟨rfl, rfl⟩, ⟨⟨rfl, rfl⟩, ⟨⟨rfl, show Value.bool (!(validB k)) = Value.bool ((decide (k.kind = 0)) || (!(validB k))) by first | (simp only [c3, bls]; done) | simp [c3]⟩, trivial⟩⟩⟩⟩) (fun _ h => h.re [0, 0, 0] [])
 ·
  refine k_cond ((decide (k.kind = 0)) || (!(validB k))) (fun c6 => ?_) (fun c6 => ?_)
  ·
   have p7 := c6
   simp only [Bool.and_eq_true, Bool.or_eq_true, Bool.and_eq_false_iff, Bool.or_eq_false_iff, Bool.not_eq_true', Bool.not_eq_false', decide_eq_true_eq, decide_eq_false_iff_not] at p7
   refine k_sr ?_
   refine sp (.int .i64 13) ?_
   refine s_nt ?_
   refine k_ret ?_
   refine xs_ret ?_
   have hk := okKey_bad p7
   refine xs_fin [.int .i64 13] (rmA b S :: F) (SI.tmp 6 SI.nil) (fun _ h => h.re [2] [1, 1]) ⟨congrArg (Value.int .i64) (osetE_bad hk).symm, ?_⟩
   rw [osetL_bad (v := v) (.inl hk)]
  ·
   obtain ⟨c8, c9⟩ := or_f c6
   have p10 := of_decide_eq_false c8
   have c11 := not_f c9
   refine k_st ?_
   refine k_seq ?_
   refine k_sr ?_
   refine s_lt (t_loadA 0 #[.int .i64 v.kind, .int .i64 v.p, .int .i64 v.q, .string v.str, .int .i64 v.ref]) ?_
   refine s_vcall (fun _ h => rvalid_s v) ?_
   rintro _ rfl
   refine sp (.bool (!(validB v))) ?_
   refine s_nt ?_
   refine k_cond (!(validB v)) (fun c12 => ?_) (fun c12 => ?_)
   ·
    have c13 := not_t c12
    refine k_sr ?_
    refine sp (.int .i64 2) ?_
    refine s_nt ?_
    refine k_ret ?_
    refine xs_ret ?_
    have hk := okKey_good c8 c11
    refine xs_fin [.int .i64 2] (rmA b S :: F) (SI.tmp 6 SI.nil) (fun _ h => h.re [2] [1, 1]) ⟨congrArg (Value.int .i64) (osetE_val hk c13).symm, ?_⟩
    rw [osetL_bad (v := v) (.inr c13)]
   ·
    have c14 := not_f c12
    refine k_st ?_
    refine k_sr ?_
    refine sp (pB b 0) ?_
    refine s_lt (t_loadA 1 #[.int .i64 k.kind, .int .i64 k.p, .int .i64 k.q, .string k.str, .int .i64 k.ref]) ?_
    refine s_call [2] (rmfind_s (S := S) (by omega) k) ?_
    rintro u15 _ ⟨e16, rfl⟩
    rcases find_cases (S := S) k with ⟨hf17, hl18, ht19, hg20⟩ | ⟨i21, s22, hf23, hl24, hs25, hk26, hg27, ht28⟩
    ·
     rw [hf17] at e16; subst e16
     refine sp (.int .i64 (-1)) ?_
     refine s_nt ?_
     refine k_seq ?_
     refine k_sr ?_
     refine sp (pB g2 0) ?_
     refine s_lt (t_load 1 (.int .i64 v.kind)) ?_
     refine s_lt t_cmp ?_
     refine s_nt ?_
     refine k_cond (decide (v.kind = 0)) (fun c29 => ?_) (fun c29 => ?_)
     ·
      have p30 := of_decide_eq_true c29
      refine k_seq ?_
      refine k_sr ?_
      refine sp (.int .i64 (-1)) ?_
      refine s_lt (t_cmp (c := false)) ?_
      refine s_nt ?_
      refine k_false ?_
      refine k_st ?_
      refine k_sr ?_
      refine sp (.int .i64 0) ?_
      refine s_nt ?_
      refine k_ret ?_
      refine xs_ret ?_
      have hk := okKey_good c8 c11
      have hS : osetL S k v = S := by rw [osetL_rem hk c14 (of_decide_eq_true c29), ht19]
      refine xs_fin [.int .i64 0] (rmA b S :: F) (SI.tmp 6 SI.nil) (fun _ h => h.re [0] [1, 1]) ⟨congrArg (Value.int .i64) (osetE_ok hk c14).symm, ?_⟩
      rw [hS]
     ·
      have p31 := of_decide_eq_false c29
      refine k_st ?_
      refine k_seq ?_
      refine k_sr ?_
      refine sp (.int .i64 (-1)) ?_
      refine s_lt (t_cmp (c := false)) ?_
      refine sp (.bool false) ?_
      refine s_skip ?_
      refine s_skip ?_
      refine s_skip ?_
      refine s_skip ?_
      refine s_skip ?_
      refine s_skip ?_
      refine s_skip ?_
      refine s_skip ?_
      refine s_skip ?_
      refine sp (.bool false) ?_
      refine s_nt ?_
      refine k_false ?_
      refine k_st ?_
      refine k_sr ?_
      refine sp (pB b 0) ?_
      refine s_call [0] (rmlen_s (S := S) (by omega)) ?_
      rintro _ _ ⟨rfl, rfl⟩
      have hcl32 := cnt_le S
      refine sp (.int .i64 (cnt S : Int)) ?_
      refine s_nt ?_
      refine k_seq ?_
      refine k_sr ?_
      refine sp (pB b 0) ?_
      refine sp (pB b 0) ?_
      refine sp (pB b 0) ?_
      refine s_memX (fun H h => rm_open (h.re [0] [])) (fun sv33 hw => ?_)
      refine s_lt (t_load 0 sv33) ?_
      refine s_lt (t_len RSltT_ok Try.underlying146 (.own 1)) ?_
      refine sp (.int .i64 (cnt S : Int)) ?_
      refine s_lt (t_sub (S.length : Int) (cnt S : Int) (by (try simp only [lnm]); omega)) ?_
      refine sp (.int .i64 (cnt S : Int)) ?_
      refine s_lt (t_add (cnt S : Int) 8 (by (try simp only [lnm]); omega)) ?_
      refine s_lt t_cmp ?_
      refine s_nt ?_
      refine k_cond (decide (((cnt S : Int) + 8) < ((S.length : Int) - (cnt S : Int)))) (fun c35 => ?_) (fun c35 => ?_)
      ·
       have p36 := of_decide_eq_true c35
       refine k_sr ?_
       refine sp (.slice none 0 0) ?_
       refine s_nt ?_
       refine k_seq ?_
       refine k_sr ?_
       refine sp (.int .i64 0) ?_
       refine s_nt ?_
       refine k_block ?_
       refine k_mem (fun _ h => rm_shut (S := S) hinv0 (h.re [0, 0] [])) ?_
       refine k_mem (fun _ h => Holds.nilS (T := RSltT) h) ?_
       refine k_mem (Bs := own RSltT (.slice none 0 0) (live (S.take 0)) :: rmA b S :: blkA g2 #[.int .i64 v.kind, .int .i64 v.p, .int .i64 v.q, .string v.str, .int .i64 v.ref] 26 :: blkA g1 #[.int .i64 k.kind, .int .i64 k.p, .int .i64 k.q, .string k.str, .int .i64 k.ref] 26 :: F) (fun _ h => h) ?_
       refine k_loop (ι := Value × Nat) (fun (lx, i) => i ≤ S.length) (fun (lx, i) => [(0, pB b 0), (4, pB g1 0), (5, pB g2 0), (9, lx), (10, .int .i64 (i : Int))]) (fun (lx, i) => own RSltT lx (live (S.take i)) :: rmA b S :: blkA g2 #[.int .i64 v.kind, .int .i64 v.p, .int .i64 v.q, .string v.str, .int .i64 v.ref] 26 :: blkA g1 #[.int .i64 k.kind, .int .i64 k.p, .int .i64 k.q, .string k.str, .int .i64 k.ref] 26 :: F) (fun (lx, i) => S.length - i) ((.slice none 0 0), 0) (Nat.zero_le _) (sub_of rfl ⟨⟨rfl, rfl⟩, ⟨⟨rfl, rfl⟩, ⟨⟨rfl, rfl⟩, ⟨⟨rfl, rfl⟩, ⟨⟨rfl, rfl⟩, trivial⟩⟩⟩⟩⟩) (fun _ h => h.re [0, 0, 0, 0] []) ?_
       rintro ⟨lx, i⟩ hi37
       replace hi37 : i ≤ S.length := hi37
       show SK _ _ _ _ _ [(0, .pointer (some ⟨b, 0, none⟩)), (4, .pointer (some ⟨g1, 0, none⟩)), (5, .pointer (some ⟨g2, 0, none⟩)), (9, lx), (10, .int .i64 (i : Int))] _ (own RSltT lx (live (S.take i)) :: rmA b S :: blkA g2 #[.int .i64 v.kind, .int .i64 v.p, .int .i64 v.q, .string v.str, .int .i64 v.ref] 26 :: blkA g1 #[.int .i64 k.kind, .int .i64 k.p, .int .i64 k.q, .string k.str, .int .i64 k.ref] 26 :: F)
       have hli : (live (S.take i)).length ≤ i := Nat.le_trans (cnt_le _) (by rw [List.length_take]; omega)
       refine k_seq ?_
       refine k_sr ?_
       refine sp (.int .i64 (i : Int)) ?_
       refine sp (pB b 0) ?_
       refine sp (pB b 0) ?_
       refine sp (pB b 0) ?_
       refine s_memX (fun H h => rm_open (h.re [1] [])) (fun sv38 hw => ?_)
       refine s_lt (t_load 0 sv38) ?_
       refine s_lt (t_len RSltT_ok Try.underlying146 (.own 1)) ?_
       refine s_lt t_cmp ?_
       refine s_nt ?_
       refine k_cond (decide ((i : Int) < (S.length : Int))) (fun c40 => ?_) (fun c40 => ?_)
       ·
        have p41 := of_decide_eq_true c40
        refine k_st ?_
        refine k_seq ?_
        refine k_block ?_
        refine k_sr ?_
        refine sp (pB b 0) ?_
        refine sp (pB b 0) ?_
        refine sp (pB b 0) ?_
        refine s_lt (t_load 0 sv38) ?_
        refine sp (.int .i64 (i : Int)) ?_
        refine s_lt (t_index RSltT_ok Try.underlying146 (.own 1) (i : Int) i (by omega) (by (try simp only [lnm]); omega) (by omega)) ?_
        refine sp (.pointer (some ((elemAt RSltT.size sv38 i).add 10))) ?_
        obtain ⟨y42, hy43⟩ : ∃ y, S[i]? = some y := ⟨_, List.getElem?_eq_getElem (by (try simp only [lnm]); omega)⟩
        refine s_lt (t_loadF 10 RSltT_ok (.own 1) hy43) ?_
        refine sp (.bool (!y42.gone)) ?_
        refine s_nt ?_
        refine k_cond (!y42.gone) (fun c44 => ?_) (fun c44 => ?_)
        ·
         have c45 := not_t c44
         refine k_reg ?_
         refine sp lx ?_
         refine sp (pB b 0) ?_
         refine sp (pB b 0) ?_
         refine sp (pB b 0) ?_
         refine s_lt (t_load 0 sv38) ?_
         refine sp (.int .i64 (i : Int)) ?_
         refine s_lt (t_index RSltT_ok Try.underlying146 (.own 1) (i : Int) i (by omega) (by (try simp only [lnm]); omega) (by omega)) ?_
         refine s_lt (t_loadE RSltT_ok (.own 1) hy43) ?_
         refine s_buildSlice (e := 145) [(0, .agg #[.int .i64 y42.key.kind, .int .i64 y42.key.p, .int .i64 y42.key.q, .string y42.key.str, .int .i64 y42.key.ref, .int .i64 y42.val.kind, .int .i64 y42.val.p, .int .i64 y42.val.q, .string y42.val.str, .int .i64 y42.val.ref, .bool y42.gone])] #[.int .i64 y42.key.kind, .int .i64 y42.key.p, .int .i64 y42.key.q, .string y42.key.str, .int .i64 y42.key.ref, .int .i64 y42.val.kind, .int .i64 y42.val.p, .int .i64 y42.val.q, .string y42.val.str, .int .i64 y42.val.ref, .bool y42.gone] (fun g46 => ?_) (hb := by kernel_rfl)
         refine s_append (L := (live (S.take i))) 3 RSltT_ok Try.underlying146 (.lit 0 RSltT_ok [y42]) (by show _ * 104 ≤ _; (try simp only [lnm]); omega) (by (try simp only [lnm]); omega) (fun v47 => ?_)
         refine sp v47 ?_
         refine s_nil ?_
         refine xs_block ?_
         refine xs_then ?_
         refine k_reg ?_
         refine sp (.int .i64 (i : Int)) ?_
         refine s_lt (t_add (i : Int) 1 (by (try simp only [lnm]); omega)) ?_
         refine sp (.int .i64 ((i : Int) + 1)) ?_
         refine s_nil ?_
         have hks := live_take hy43
         rw [if_neg (by rw [c45]; decide)] at hks
         rw [← hks]
         refine xs_mem (fun _ h => rm_shut (S := S) hinv0 (h.re [1, 1] [])) ?_
         exact xs_round (v47, i + 1) (by show S.length - (i + 1) < S.length - i; omega) (by show i + 1 ≤ S.length; omega) (sub_of rfl ⟨⟨rfl, rfl⟩, ⟨⟨rfl, rfl⟩, ⟨⟨rfl, rfl⟩, ⟨⟨rfl, rfl⟩, ⟨⟨rfl, rfl⟩, trivial⟩⟩⟩⟩⟩) (fun _ h => h.re [2, 0, 1, 1] [4])
        ·
         have c48 := not_f c44
         refine k_skip ?_
         refine xs_block ?_
         refine xs_then ?_
         refine k_reg ?_
         refine sp (.int .i64 (i : Int)) ?_
         refine s_lt (t_add (i : Int) 1 (by (try simp only [lnm]); omega)) ?_
         refine sp (.int .i64 ((i : Int) + 1)) ?_
         refine s_nil ?_
         have hks := live_take hy43
         rw [if_pos c48] at hks
         rw [← hks]
         refine xs_mem (fun _ h => rm_shut (S := S) hinv0 (h.re [0, 0] [])) ?_
         exact xs_round (lx, i + 1) (by show S.length - (i + 1) < S.length - i; omega) (by show i + 1 ≤ S.length; omega) (sub_of rfl ⟨⟨rfl, rfl⟩, ⟨⟨rfl, rfl⟩, ⟨⟨rfl, rfl⟩, ⟨⟨rfl, rfl⟩, ⟨⟨rfl, rfl⟩, trivial⟩⟩⟩⟩⟩) (fun _ h => h.re [1, 0, 0, 0] [])
       ·
        have p49 := of_decide_eq_false c40
        refine k_exit ?_
        have hend : live (S.take i) = live S := by rw [List.take_of_length_le (by omega)]
        rw [hend]
        rw [hend] at hli
        have hinv1 := live_inv hinv0
        refine xs_exit ?_
        refine xs_exit ?_
        refine xs_here ?_
        refine xs_then ?_
        refine k_reg ?_
        refine sp (pB b 0) ?_
        refine sp lx ?_
        refine sp (pB b 0) ?_
        refine sp (pB b 0) ?_
        refine s_fact (fun H h => ((Acc.own (T := RSltT) (L := (live S)) 2 rfl) H h).form) (fun hf50 => ?_)
        refine s_store (u := lx) (m := 1) 0 #[lx] ?_ (hm := by (obtain ⟨_, _, e⟩ := hf50; rw [e]; rfl)) (h1 := by (obtain ⟨_, _, e⟩ := hf50; rw [e]; rfl)) (ha' := by (obtain ⟨_, _, e⟩ := hf50; rw [e]; rfl))
        refine s_nt ?_
        refine k_seq ?_
        refine k_draw ?_
        refine sp (pB b 0) ?_
        refine sp (pB b 0) ?_
        refine sp (pB b 0) ?_
        refine sp (pB b 0) ?_
        refine s_lt (t_load 0 lx) ?_
        refine s_lt (t_loadA 4 #[.int .i64 k.kind, .int .i64 k.p, .int .i64 k.q, .string k.str, .int .i64 k.ref]) ?_
        refine s_lt (t_loadA 3 #[.int .i64 v.kind, .int .i64 v.p, .int .i64 v.q, .string v.str, .int .i64 v.ref]) ?_
        refine s_lt (t_kern (.agg #[.int .i64 k.kind, .int .i64 k.p, .int .i64 k.q, .string k.str, .int .i64 k.ref, .int .i64 v.kind, .int .i64 v.p, .int .i64 v.q, .string v.str, .int .i64 v.ref, .bool false])) ?_
        refine s_buildSlice (e := 145) [(0, .agg #[.int .i64 k.kind, .int .i64 k.p, .int .i64 k.q, .string k.str, .int .i64 k.ref, .int .i64 v.kind, .int .i64 v.p, .int .i64 v.q, .string v.str, .int .i64 v.ref, .bool false])] #[.int .i64 k.kind, .int .i64 k.p, .int .i64 k.q, .string k.str, .int .i64 k.ref, .int .i64 v.kind, .int .i64 v.p, .int .i64 v.q, .string v.str, .int .i64 v.ref, .bool false] (fun g51 => ?_) (hb := by kernel_rfl)
        refine s_append (L := (live S)) 3 RSltT_ok Try.underlying146 (.lit 0 RSltT_ok [(⟨k, v, false⟩ : Slt)]) (by show _ * 104 ≤ _; (try simp only [lnm]); omega) (by (try simp only [lnm]); omega) (fun v52 => ?_)
        refine sp (pB b 0) ?_
        refine sp (pB b 0) ?_
        refine s_fact (fun H h => ((Acc.own (T := RSltT) (L := ((live S) ++ [(⟨k, v, false⟩ : Slt)])) 3 rfl) H h).form) (fun hf53 => ?_)
        refine s_store (u := v52) (m := 1) 1 #[v52] ?_ (hm := by (obtain ⟨_, _, e⟩ := hf53; rw [e]; rfl)) (h1 := by (obtain ⟨_, _, e⟩ := hf53; rw [e]; rfl)) (ha' := by (obtain ⟨_, _, e⟩ := hf53; rw [e]; rfl))
        refine s_nil ?_
        refine x_dynS (fun _ h => by kernel_rfl) ?_
        refine xs_then ?_
        refine k_sr ?_
        refine sp (.int .i64 0) ?_
        refine s_nt ?_
        refine k_ret ?_
        have hk := okKey_good c8 c11
        have hcl := cnt_le S
        have hS : osetL S k v = ((live S) ++ [(⟨k, v, false⟩ : Slt)]) := by rw [osetL_put hk c14 (of_decide_eq_false c29), ht19]; show (if _ then _ else _) ++ _ = _; rw [if_pos (by have hx := of_decide_eq_true c35; omega)]
        refine xs_mem (fun _ h => rm_shut (S := ((live S) ++ [(⟨k, v, false⟩ : Slt)])) (by rw [← hS]; exact osetL_inv hinv0 k v) (h.re [1, 2] [])) ?_
        refine xs_fin [.int .i64 0] (rmA b ((live S) ++ [(⟨k, v, false⟩ : Slt)]) :: F) (SI.tmp 6 SI.nil) (fun _ h => h.re [0] [1, 1, 1, 1]) ⟨congrArg (Value.int .i64) (osetE_ok hk c14).symm, ?_⟩
        rw [hS]
      ·
       have p54 := of_decide_eq_false c35
       refine k_st ?_
       refine k_seq ?_
       refine k_draw ?_
       refine sp (pB b 0) ?_
       refine sp (pB b 0) ?_
       refine sp (pB b 0) ?_
       refine sp (pB b 0) ?_
       refine s_lt (t_load 0 sv33) ?_
       refine s_lt (t_loadA 3 #[.int .i64 k.kind, .int .i64 k.p, .int .i64 k.q, .string k.str, .int .i64 k.ref]) ?_
       refine s_lt (t_loadA 2 #[.int .i64 v.kind, .int .i64 v.p, .int .i64 v.q, .string v.str, .int .i64 v.ref]) ?_
       refine s_lt (t_kern (.agg #[.int .i64 k.kind, .int .i64 k.p, .int .i64 k.q, .string k.str, .int .i64 k.ref, .int .i64 v.kind, .int .i64 v.p, .int .i64 v.q, .string v.str, .int .i64 v.ref, .bool false])) ?_
       refine s_buildSlice (e := 145) [(0, .agg #[.int .i64 k.kind, .int .i64 k.p, .int .i64 k.q, .string k.str, .int .i64 k.ref, .int .i64 v.kind, .int .i64 v.p, .int .i64 v.q, .string v.str, .int .i64 v.ref, .bool false])] #[.int .i64 k.kind, .int .i64 k.p, .int .i64 k.q, .string k.str, .int .i64 k.ref, .int .i64 v.kind, .int .i64 v.p, .int .i64 v.q, .string v.str, .int .i64 v.ref, .bool false] (fun g55 => ?_) (hb := by kernel_rfl)
       refine s_append (L := S) 2 RSltT_ok Try.underlying146 (.lit 0 RSltT_ok [(⟨k, v, false⟩ : Slt)]) (by show _ * 104 ≤ _; (try simp only [lnm]); omega) (by (try simp only [lnm]); omega) (fun v56 => ?_)
       refine sp (pB b 0) ?_
       refine sp (pB b 0) ?_
       refine s_fact (fun H h => ((Acc.own (T := RSltT) (L := (S ++ [(⟨k, v, false⟩ : Slt)])) 2 rfl) H h).form) (fun hf57 => ?_)
       refine s_store (u := v56) (m := 1) 1 #[v56] ?_ (hm := by (obtain ⟨_, _, e⟩ := hf57; rw [e]; rfl)) (h1 := by (obtain ⟨_, _, e⟩ := hf57; rw [e]; rfl)) (ha' := by (obtain ⟨_, _, e⟩ := hf57; rw [e]; rfl))
       refine s_nil ?_
       refine x_dynS (fun _ h => by kernel_rfl) ?_
       refine xs_then ?_
       refine k_sr ?_
       refine sp (.int .i64 0) ?_
       refine s_nt ?_
       refine k_ret ?_
       have hk := okKey_good c8 c11
       have hcl := cnt_le S
       have hS : osetL S k v = (S ++ [(⟨k, v, false⟩ : Slt)]) := by rw [osetL_put hk c14 (of_decide_eq_false c29), ht19]; show (if _ then _ else _) ++ _ = _; rw [if_neg (by have hx := of_decide_eq_false c35; omega)]
       refine xs_mem (fun _ h => rm_shut (S := (S ++ [(⟨k, v, false⟩ : Slt)])) (by rw [← hS]; exact osetL_inv hinv0 k v) (h.re [1, 1] [])) ?_
       refine xs_fin [.int .i64 0] (rmA b (S ++ [(⟨k, v, false⟩ : Slt)]) :: F) (SI.tmp 6 SI.nil) (fun _ h => h.re [0] [1, 1, 1]) ⟨congrArg (Value.int .i64) (osetE_ok hk c14).symm, ?_⟩
       rw [hS]
    ·
     rw [hf23] at e16; subst e16
     have hlt58 : i21 < S.length := (List.getElem?_eq_some_iff.1 hs25).1
     refine sp (.int .i64 (i21 : Int)) ?_
     refine s_nt ?_
     refine k_seq ?_
     refine k_sr ?_
     refine sp (pB g2 0) ?_
     refine s_lt (t_load 1 (.int .i64 v.kind)) ?_
     refine s_lt t_cmp ?_
     refine s_nt ?_
     refine k_cond (decide (v.kind = 0)) (fun c59 => ?_) (fun c59 => ?_)
     ·
      have p60 := of_decide_eq_true c59
      refine k_seq ?_
      refine k_sr ?_
      refine sp (.int .i64 (i21 : Int)) ?_
      refine s_lt (Lt.to t_cmp (congrArg Value.bool (decide_eq_true (by omega) : (decide ((0 : Int) ≤ (i21 : Int))) = true))) ?_
      refine s_nt ?_
      refine k_true ?_
      refine k_draw ?_
      refine sp (pB b 0) ?_
      refine sp (pB b 0) ?_
      refine sp (pB b 0) ?_
      refine s_memX (fun H h => rm_open (h.re [0] [])) (fun sv61 hw => ?_)
      refine s_lt (t_load 0 sv61) ?_
      refine sp (.int .i64 (i21 : Int)) ?_
      refine s_lt (t_loadA 3 #[.int .i64 k.kind, .int .i64 k.p, .int .i64 k.q, .string k.str, .int .i64 k.ref]) ?_
      refine s_lt (t_kern (.agg #[.int .i64 k.kind, .int .i64 k.p, .int .i64 k.q, .string k.str, .int .i64 k.ref, .int .i64 0, .int .i64 0, .int .i64 0, .string ByteArray.empty, .int .i64 0, .bool true])) ?_
      refine s_lt (t_index RSltT_ok Try.underlying146 (.own 1) (i21 : Int) i21 (by omega) (by (try simp only [lnm]); omega) (by omega)) ?_
      refine s_storeE 1 0 (⟨k, zVl, true⟩ : Slt) RSltT_ok hs25 ?_
      refine s_nil ?_
      refine x_dynS (fun _ h => by kernel_rfl) ?_
      refine xs_then ?_
      refine k_sr ?_
      refine sp (.int .i64 0) ?_
      refine s_nt ?_
      refine k_ret ?_
      refine xs_ret ?_
      have hk := okKey_good c8 c11
      have hS : osetL S k v = (S.set i21 (⟨k, zVl, true⟩ : Slt)) := by rw [osetL_rem hk c14 (of_decide_eq_true c59), ht28]; cases hg : s22.gone with | true => exact set_gone hinv0 hs25 hk26 hg | false => rfl
      refine xs_mem (fun _ h => rm_shut (S := (S.set i21 (⟨k, zVl, true⟩ : Slt))) (by rw [← hS]; exact osetL_inv hinv0 k v) (h.re [0, 0] [])) ?_
      refine xs_fin [.int .i64 0] (rmA b (S.set i21 (⟨k, zVl, true⟩ : Slt)) :: F) (SI.tmp 6 SI.nil) (fun _ h => h.re [0] [1, 1]) ⟨congrArg (Value.int .i64) (osetE_ok hk c14).symm, ?_⟩
      rw [hS]
     ·
      have p63 := of_decide_eq_false c59
      refine k_st ?_
      refine k_seq ?_
      refine k_sr ?_
      refine sp (.int .i64 (i21 : Int)) ?_
      refine s_lt (Lt.to t_cmp (congrArg Value.bool (decide_eq_true (by omega) : (decide ((0 : Int) ≤ (i21 : Int))) = true))) ?_
      refine sp (.bool true) ?_
      refine sp (pB b 0) ?_
      refine sp (pB b 0) ?_
      refine sp (pB b 0) ?_
      refine s_memX (fun H h => rm_open (h.re [0] [])) (fun sv64 hw => ?_)
      refine s_lt (t_load 0 sv64) ?_
      refine sp (.int .i64 (i21 : Int)) ?_
      refine s_lt (t_index RSltT_ok Try.underlying146 (.own 1) (i21 : Int) i21 (by omega) (by (try simp only [lnm]); omega) (by omega)) ?_
      refine sp (.pointer (some ((elemAt RSltT.size sv64 i21).add 10))) ?_
      refine s_lt (t_loadF 10 RSltT_ok (.own 1) hs25) ?_
      refine sp (.bool (!s22.gone)) ?_
      refine sp (.bool (!s22.gone)) ?_
      refine s_nt ?_
      refine k_cond (!s22.gone) (fun c66 => ?_) (fun c66 => ?_)
      ·
       have c67 := not_t c66
       refine k_seq ?_
       refine k_draw ?_
       refine sp (pB b 0) ?_
       refine sp (pB b 0) ?_
       refine sp (pB b 0) ?_
       refine s_lt (t_load 0 sv64) ?_
       refine sp (.int .i64 (i21 : Int)) ?_
       refine s_lt (t_loadA 2 #[.int .i64 v.kind, .int .i64 v.p, .int .i64 v.q, .string v.str, .int .i64 v.ref]) ?_
       refine s_lt (t_index RSltT_ok Try.underlying146 (.own 1) (i21 : Int) i21 (by omega) (by (try simp only [lnm]); omega) (by omega)) ?_
       refine sp (.pointer (some ((elemAt RSltT.size sv64 i21).add 5))) ?_
       refine s_storeE 1 5 (⟨s22.key, v, s22.gone⟩ : Slt) RSltT_ok hs25 ?_
       refine s_nil ?_
       refine x_dynS (fun _ h => by kernel_rfl) ?_
       refine xs_then ?_
       refine k_sr ?_
       refine sp (.int .i64 0) ?_
       refine s_nt ?_
       refine k_ret ?_
       refine xs_ret ?_
       have hk := okKey_good c8 c11
       have hS : osetL S k v = (S.set i21 (⟨s22.key, v, s22.gone⟩ : Slt)) := by rw [osetL_put hk c14 (of_decide_eq_false c59), ht28, if_neg (by rw [c67]; decide), hk26, c67]
       refine xs_mem (fun _ h => rm_shut (S := (S.set i21 (⟨s22.key, v, s22.gone⟩ : Slt))) (by rw [← hS]; exact osetL_inv hinv0 k v) (h.re [0, 0] [])) ?_
       refine xs_fin [.int .i64 0] (rmA b (S.set i21 (⟨s22.key, v, s22.gone⟩ : Slt)) :: F) (SI.tmp 6 SI.nil) (fun _ h => h.re [0] [1, 1]) ⟨congrArg (Value.int .i64) (osetE_ok hk c14).symm, ?_⟩
       rw [hS]
      ·
       have c68 := not_f c66
       refine k_st ?_
       refine k_sr ?_
       refine sp (pB b 0) ?_
       refine s_mem (fun _ h => rm_shut (S := S) hinv0 (h.re [0, 0] [])) ?_
       refine s_call [0] (rmlen_s (S := S) (by omega)) ?_
       rintro _ _ ⟨rfl, rfl⟩
       have hcl69 := cnt_le S
       refine sp (.int .i64 (cnt S : Int)) ?_
       refine s_nt ?_
       refine k_seq ?_
       refine k_sr ?_
       refine sp (pB b 0) ?_
       refine sp (pB b 0) ?_
       refine sp (pB b 0) ?_
       refine s_memX (fun H h => rm_open (h.re [0] [])) (fun sv70 hw => ?_)
       refine s_lt (t_load 0 sv70) ?_
       refine s_lt (t_len RSltT_ok Try.underlying146 (.own 1)) ?_
       refine sp (.int .i64 (cnt S : Int)) ?_
       refine s_lt (t_sub (S.length : Int) (cnt S : Int) (by (try simp only [lnm]); omega)) ?_
       refine sp (.int .i64 (cnt S : Int)) ?_
       refine s_lt (t_add (cnt S : Int) 8 (by (try simp only [lnm]); omega)) ?_
       refine s_lt t_cmp ?_
       refine s_nt ?_
       refine k_cond (decide (((cnt S : Int) + 8) < ((S.length : Int) - (cnt S : Int)))) (fun c72 => ?_) (fun c72 => ?_)
       ·
        have p73 := of_decide_eq_true c72
        refine k_sr ?_
        refine sp (.slice none 0 0) ?_
        refine s_nt ?_
        refine k_seq ?_
        refine k_sr ?_
        refine sp (.int .i64 0) ?_
        refine s_nt ?_
        refine k_block ?_
        refine k_mem (fun _ h => rm_shut (S := S) hinv0 (h.re [0, 0] [])) ?_
        refine k_mem (fun _ h => Holds.nilS (T := RSltT) h) ?_
        refine k_mem (Bs := own RSltT (.slice none 0 0) (live (S.take 0)) :: rmA b S :: blkA g2 #[.int .i64 v.kind, .int .i64 v.p, .int .i64 v.q, .string v.str, .int .i64 v.ref] 26 :: blkA g1 #[.int .i64 k.kind, .int .i64 k.p, .int .i64 k.q, .string k.str, .int .i64 k.ref] 26 :: F) (fun _ h => h) ?_
        refine k_loop (ι := Value × Nat) (fun (lx, i) => i ≤ S.length) (fun (lx, i) => [(0, pB b 0), (4, pB g1 0), (5, pB g2 0), (9, lx), (10, .int .i64 (i : Int))]) (fun (lx, i) => own RSltT lx (live (S.take i)) :: rmA b S :: blkA g2 #[.int .i64 v.kind, .int .i64 v.p, .int .i64 v.q, .string v.str, .int .i64 v.ref] 26 :: blkA g1 #[.int .i64 k.kind, .int .i64 k.p, .int .i64 k.q, .string k.str, .int .i64 k.ref] 26 :: F) (fun (lx, i) => S.length - i) ((.slice none 0 0), 0) (Nat.zero_le _) (sub_of rfl ⟨⟨rfl, rfl⟩, ⟨⟨rfl, rfl⟩, ⟨⟨rfl, rfl⟩, ⟨⟨rfl, rfl⟩, ⟨⟨rfl, rfl⟩, trivial⟩⟩⟩⟩⟩) (fun _ h => h.re [0, 0, 0, 0] []) ?_
        rintro ⟨lx, i⟩ hi74
        replace hi74 : i ≤ S.length := hi74
        show SK _ _ _ _ _ [(0, .pointer (some ⟨b, 0, none⟩)), (4, .pointer (some ⟨g1, 0, none⟩)), (5, .pointer (some ⟨g2, 0, none⟩)), (9, lx), (10, .int .i64 (i : Int))] _ (own RSltT lx (live (S.take i)) :: rmA b S :: blkA g2 #[.int .i64 v.kind, .int .i64 v.p, .int .i64 v.q, .string v.str, .int .i64 v.ref] 26 :: blkA g1 #[.int .i64 k.kind, .int .i64 k.p, .int .i64 k.q, .string k.str, .int .i64 k.ref] 26 :: F)
        have hli : (live (S.take i)).length ≤ i := Nat.le_trans (cnt_le _) (by rw [List.length_take]; omega)
        refine k_seq ?_
        refine k_sr ?_
        refine sp (.int .i64 (i : Int)) ?_
        refine sp (pB b 0) ?_
        refine sp (pB b 0) ?_
        refine sp (pB b 0) ?_
        refine s_memX (fun H h => rm_open (h.re [1] [])) (fun sv75 hw => ?_)
        refine s_lt (t_load 0 sv75) ?_
        refine s_lt (t_len RSltT_ok Try.underlying146 (.own 1)) ?_
        refine s_lt t_cmp ?_
        refine s_nt ?_
        refine k_cond (decide ((i : Int) < (S.length : Int))) (fun c77 => ?_) (fun c77 => ?_)
        ·
         have p78 := of_decide_eq_true c77
         refine k_st ?_
         refine k_seq ?_
         refine k_block ?_
         refine k_sr ?_
         refine sp (pB b 0) ?_
         refine sp (pB b 0) ?_
         refine sp (pB b 0) ?_
         refine s_lt (t_load 0 sv75) ?_
         refine sp (.int .i64 (i : Int)) ?_
         refine s_lt (t_index RSltT_ok Try.underlying146 (.own 1) (i : Int) i (by omega) (by (try simp only [lnm]); omega) (by omega)) ?_
         refine sp (.pointer (some ((elemAt RSltT.size sv75 i).add 10))) ?_
         obtain ⟨y79, hy80⟩ : ∃ y, S[i]? = some y := ⟨_, List.getElem?_eq_getElem (by (try simp only [lnm]); omega)⟩
         refine s_lt (t_loadF 10 RSltT_ok (.own 1) hy80) ?_
         refine sp (.bool (!y79.gone)) ?_
         refine s_nt ?_
         refine k_cond (!y79.gone) (fun c81 => ?_) (fun c81 => ?_)
         ·
          have c82 := not_t c81
          refine k_reg ?_
          refine sp lx ?_
          refine sp (pB b 0) ?_
          refine sp (pB b 0) ?_
          refine sp (pB b 0) ?_
          refine s_lt (t_load 0 sv75) ?_
          refine sp (.int .i64 (i : Int)) ?_
          refine s_lt (t_index RSltT_ok Try.underlying146 (.own 1) (i : Int) i (by omega) (by (try simp only [lnm]); omega) (by omega)) ?_
          refine s_lt (t_loadE RSltT_ok (.own 1) hy80) ?_
          refine s_buildSlice (e := 145) [(0, .agg #[.int .i64 y79.key.kind, .int .i64 y79.key.p, .int .i64 y79.key.q, .string y79.key.str, .int .i64 y79.key.ref, .int .i64 y79.val.kind, .int .i64 y79.val.p, .int .i64 y79.val.q, .string y79.val.str, .int .i64 y79.val.ref, .bool y79.gone])] #[.int .i64 y79.key.kind, .int .i64 y79.key.p, .int .i64 y79.key.q, .string y79.key.str, .int .i64 y79.key.ref, .int .i64 y79.val.kind, .int .i64 y79.val.p, .int .i64 y79.val.q, .string y79.val.str, .int .i64 y79.val.ref, .bool y79.gone] (fun g83 => ?_) (hb := by kernel_rfl)
          refine s_append (L := (live (S.take i))) 3 RSltT_ok Try.underlying146 (.lit 0 RSltT_ok [y79]) (by show _ * 104 ≤ _; (try simp only [lnm]); omega) (by (try simp only [lnm]); omega) (fun v84 => ?_)
          refine sp v84 ?_
          refine s_nil ?_
          refine xs_block ?_
          refine xs_then ?_
          refine k_reg ?_
          refine sp (.int .i64 (i : Int)) ?_
          refine s_lt (t_add (i : Int) 1 (by (try simp only [lnm]); omega)) ?_
          refine sp (.int .i64 ((i : Int) + 1)) ?_
          refine s_nil ?_
          have hks := live_take hy80
          rw [if_neg (by rw [c82]; decide)] at hks
          rw [← hks]
          refine xs_mem (fun _ h => rm_shut (S := S) hinv0 (h.re [1, 1] [])) ?_
          exact xs_round (v84, i + 1) (by show S.length - (i + 1) < S.length - i; omega) (by show i + 1 ≤ S.length; omega) (sub_of rfl ⟨⟨rfl, rfl⟩, ⟨⟨rfl, rfl⟩, ⟨⟨rfl, rfl⟩, ⟨⟨rfl, rfl⟩, ⟨⟨rfl, rfl⟩, trivial⟩⟩⟩⟩⟩) (fun _ h => h.re [2, 0, 1, 1] [4])
         ·
          have c85 := not_f c81
          refine k_skip ?_
          refine xs_block ?_
          refine xs_then ?_
          refine k_reg ?_
          refine sp (.int .i64 (i : Int)) ?_
          refine s_lt (t_add (i : Int) 1 (by (try simp only [lnm]); omega)) ?_
          refine sp (.int .i64 ((i : Int) + 1)) ?_
          refine s_nil ?_
          have hks := live_take hy80
          rw [if_pos c85] at hks
          rw [← hks]
          refine xs_mem (fun _ h => rm_shut (S := S) hinv0 (h.re [0, 0] [])) ?_
          exact xs_round (lx, i + 1) (by show S.length - (i + 1) < S.length - i; omega) (by show i + 1 ≤ S.length; omega) (sub_of rfl ⟨⟨rfl, rfl⟩, ⟨⟨rfl, rfl⟩, ⟨⟨rfl, rfl⟩, ⟨⟨rfl, rfl⟩, ⟨⟨rfl, rfl⟩, trivial⟩⟩⟩⟩⟩) (fun _ h => h.re [1, 0, 0, 0] [])
        ·
         have p86 := of_decide_eq_false c77
         refine k_exit ?_
         have hend : live (S.take i) = live S := by rw [List.take_of_length_le (by omega)]
         rw [hend]
         rw [hend] at hli
         have hinv1 := live_inv hinv0
         refine xs_exit ?_
         refine xs_exit ?_
         refine xs_here ?_
         refine xs_then ?_
         refine k_reg ?_
         refine sp (pB b 0) ?_
         refine sp lx ?_
         refine sp (pB b 0) ?_
         refine sp (pB b 0) ?_
         refine s_fact (fun H h => ((Acc.own (T := RSltT) (L := (live S)) 2 rfl) H h).form) (fun hf87 => ?_)
         refine s_store (u := lx) (m := 1) 0 #[lx] ?_ (hm := by (obtain ⟨_, _, e⟩ := hf87; rw [e]; rfl)) (h1 := by (obtain ⟨_, _, e⟩ := hf87; rw [e]; rfl)) (ha' := by (obtain ⟨_, _, e⟩ := hf87; rw [e]; rfl))
         refine s_nt ?_
         refine k_seq ?_
         refine k_draw ?_
         refine sp (pB b 0) ?_
         refine sp (pB b 0) ?_
         refine sp (pB b 0) ?_
         refine sp (pB b 0) ?_
         refine s_lt (t_load 0 lx) ?_
         refine s_lt (t_loadA 4 #[.int .i64 k.kind, .int .i64 k.p, .int .i64 k.q, .string k.str, .int .i64 k.ref]) ?_
         refine s_lt (t_loadA 3 #[.int .i64 v.kind, .int .i64 v.p, .int .i64 v.q, .string v.str, .int .i64 v.ref]) ?_
         refine s_lt (t_kern (.agg #[.int .i64 k.kind, .int .i64 k.p, .int .i64 k.q, .string k.str, .int .i64 k.ref, .int .i64 v.kind, .int .i64 v.p, .int .i64 v.q, .string v.str, .int .i64 v.ref, .bool false])) ?_
         refine s_buildSlice (e := 145) [(0, .agg #[.int .i64 k.kind, .int .i64 k.p, .int .i64 k.q, .string k.str, .int .i64 k.ref, .int .i64 v.kind, .int .i64 v.p, .int .i64 v.q, .string v.str, .int .i64 v.ref, .bool false])] #[.int .i64 k.kind, .int .i64 k.p, .int .i64 k.q, .string k.str, .int .i64 k.ref, .int .i64 v.kind, .int .i64 v.p, .int .i64 v.q, .string v.str, .int .i64 v.ref, .bool false] (fun g88 => ?_) (hb := by kernel_rfl)
         refine s_append (L := (live S)) 3 RSltT_ok Try.underlying146 (.lit 0 RSltT_ok [(⟨k, v, false⟩ : Slt)]) (by show _ * 104 ≤ _; (try simp only [lnm]); omega) (by (try simp only [lnm]); omega) (fun v89 => ?_)
         refine sp (pB b 0) ?_
         refine sp (pB b 0) ?_
         refine s_fact (fun H h => ((Acc.own (T := RSltT) (L := ((live S) ++ [(⟨k, v, false⟩ : Slt)])) 3 rfl) H h).form) (fun hf90 => ?_)
         refine s_store (u := v89) (m := 1) 1 #[v89] ?_ (hm := by (obtain ⟨_, _, e⟩ := hf90; rw [e]; rfl)) (h1 := by (obtain ⟨_, _, e⟩ := hf90; rw [e]; rfl)) (ha' := by (obtain ⟨_, _, e⟩ := hf90; rw [e]; rfl))
         refine s_nil ?_
         refine x_dynS (fun _ h => by kernel_rfl) ?_
         refine xs_then ?_
         refine k_sr ?_
         refine sp (.int .i64 0) ?_
         refine s_nt ?_
         refine k_ret ?_
         have hk := okKey_good c8 c11
         have hcl := cnt_le S
         have hS : osetL S k v = ((live S) ++ [(⟨k, v, false⟩ : Slt)]) := by rw [osetL_put hk c14 (of_decide_eq_false c59), ht28, if_pos c68]; show (if _ then _ else _) ++ _ = _; rw [if_pos (by have hx := of_decide_eq_true c72; omega)]
         refine xs_mem (fun _ h => rm_shut (S := ((live S) ++ [(⟨k, v, false⟩ : Slt)])) (by rw [← hS]; exact osetL_inv hinv0 k v) (h.re [1, 2] [])) ?_
         refine xs_fin [.int .i64 0] (rmA b ((live S) ++ [(⟨k, v, false⟩ : Slt)]) :: F) (SI.tmp 6 SI.nil) (fun _ h => h.re [0] [1, 1, 1, 1]) ⟨congrArg (Value.int .i64) (osetE_ok hk c14).symm, ?_⟩
         rw [hS]
       ·
        have p91 := of_decide_eq_false c72
        refine k_st ?_
        refine k_seq ?_
        refine k_draw ?_
        refine sp (pB b 0) ?_
        refine sp (pB b 0) ?_
        refine sp (pB b 0) ?_
        refine sp (pB b 0) ?_
        refine s_lt (t_load 0 sv70) ?_
        refine s_lt (t_loadA 3 #[.int .i64 k.kind, .int .i64 k.p, .int .i64 k.q, .string k.str, .int .i64 k.ref]) ?_
        refine s_lt (t_loadA 2 #[.int .i64 v.kind, .int .i64 v.p, .int .i64 v.q, .string v.str, .int .i64 v.ref]) ?_
        refine s_lt (t_kern (.agg #[.int .i64 k.kind, .int .i64 k.p, .int .i64 k.q, .string k.str, .int .i64 k.ref, .int .i64 v.kind, .int .i64 v.p, .int .i64 v.q, .string v.str, .int .i64 v.ref, .bool false])) ?_
        refine s_buildSlice (e := 145) [(0, .agg #[.int .i64 k.kind, .int .i64 k.p, .int .i64 k.q, .string k.str, .int .i64 k.ref, .int .i64 v.kind, .int .i64 v.p, .int .i64 v.q, .string v.str, .int .i64 v.ref, .bool false])] #[.int .i64 k.kind, .int .i64 k.p, .int .i64 k.q, .string k.str, .int .i64 k.ref, .int .i64 v.kind, .int .i64 v.p, .int .i64 v.q, .string v.str, .int .i64 v.ref, .bool false] (fun g92 => ?_) (hb := by kernel_rfl)
        refine s_append (L := S) 2 RSltT_ok Try.underlying146 (.lit 0 RSltT_ok [(⟨k, v, false⟩ : Slt)]) (by show _ * 104 ≤ _; (try simp only [lnm]); omega) (by (try simp only [lnm]); omega) (fun v93 => ?_)
        refine sp (pB b 0) ?_
        refine sp (pB b 0) ?_
        refine s_fact (fun H h => ((Acc.own (T := RSltT) (L := (S ++ [(⟨k, v, false⟩ : Slt)])) 2 rfl) H h).form) (fun hf94 => ?_)
        refine s_store (u := v93) (m := 1) 1 #[v93] ?_ (hm := by (obtain ⟨_, _, e⟩ := hf94; rw [e]; rfl)) (h1 := by (obtain ⟨_, _, e⟩ := hf94; rw [e]; rfl)) (ha' := by (obtain ⟨_, _, e⟩ := hf94; rw [e]; rfl))
        refine s_nil ?_
        refine x_dynS (fun _ h => by kernel_rfl) ?_
        refine xs_then ?_
        refine k_sr ?_
        refine sp (.int .i64 0) ?_
        refine s_nt ?_
        refine k_ret ?_
        have hk := okKey_good c8 c11
        have hcl := cnt_le S
        have hS : osetL S k v = (S ++ [(⟨k, v, false⟩ : Slt)]) := by rw [osetL_put hk c14 (of_decide_eq_false c59), ht28, if_pos c68]; show (if _ then _ else _) ++ _ = _; rw [if_neg (by have hx := of_decide_eq_false c72; omega)]
        refine xs_mem (fun _ h => rm_shut (S := (S ++ [(⟨k, v, false⟩ : Slt)])) (by rw [← hS]; exact osetL_inv hinv0 k v) (h.re [1, 1] [])) ?_
        refine xs_fin [.int .i64 0] (rmA b (S ++ [(⟨k, v, false⟩ : Slt)]) :: F) (SI.tmp 6 SI.nil) (fun _ h => h.re [0] [1, 1, 1]) ⟨congrArg (Value.int .i64) (osetE_ok hk c14).symm, ?_⟩
        rw [hS]
end Go.Proofs.Ytplkkhpokodbmaa
