/-
  Ordered maps of the reference. Each law says its conditions.
-/
import Derived.Test.YtplkkhpokodbmaaGreatDoorG2
section
set_option linter.unusedSimpArgs false
set_option linter.unusedVariables false
set_option maxRecDepth 100000
set_option maxHeartbeats 2000000
namespace Go.Proofs.YtplkkhpokodbmaaGreatDoor
open Go.Hp Go.J Go.S
open Go.Mem (Ty KTy blk elemAt pre suf blk_pre blk_suf aget aset strK aggDesc)
open Go.Mem (adel apos aget_aset aget_adel)
/-- An ordered map of the reference in memory. -/
def rmA (b : Nat) (S : List Slt) : Asr := exA fun sv => stA (OInv S) [blkA b #[sv] 147, own RSltT sv S]
theorem rm_open {b : Nat} {S : List Slt} {Z : Zone} {F : List Asr} {H : Heap} (h : Holds Z (rmA b S :: F) H) : ∃ (sv : Value), OInv S ∧ Holds Z (blkA b #[sv] 147 :: own RSltT sv S :: F) H := by
  obtain ⟨sv, h⟩ := h.open_ex
  exact ⟨sv, h.open_st⟩
theorem rm_shut {b : Nat} {S : List Slt} {Z : Zone} {F : List Asr} {H : Heap} {sv : Value} (hp : OInv S) (h : Holds Z (blkA b #[sv] 147 :: own RSltT sv S :: F) H) : Holds Z (rmA b S :: F) H :=
  Holds.shut_ex sv (Holds.shut_st hp h)
theorem rm_inv {b : Nat} {S : List Slt} {Z : Zone} {F : List Asr} {H : Heap} (h : Holds Z (rmA b S :: F) H) : OInv S := by
  obtain ⟨_, h, _⟩ := rm_open h; exact h
theorem cnt_step {S : List Slt} {i : Nat} {s : Slt} (h : S[i]? = some s) : cnt (S.take (i + 1)) = if s.gone then cnt (S.take i) else cnt (S.take i) + 1 := by
  unfold cnt; rw [live_take h]; split <;> simp
theorem set_gone {S : List Slt} (h : OInv S) {k : Vl} {i : Nat} {s : Slt} (hs : S[i]? = some s) (hk : s.key = k) (hg : s.gone = true) : S = S.set i ⟨k, zVl, true⟩ := by
  have e := h.zero s (List.mem_of_getElem? hs) hg
  have : s = ⟨k, zVl, true⟩ := by rw [← hk, ← e, ← hg]
  rw [← this]; exact (set_same hs).symm
theorem rmnew_s {Z : Zone} : SF Tryz.prog 106 #[] Z [] fun r Bs => ∃ b, r = .pointer (some ⟨b, 0, none⟩) ∧ Bs = [rmA b []] := by
 refine sf_enter Tryz.func106 3 [] (fun w0 => ?_)
 refine k_sr ?_
 refine sp (.pointer none) ?_
 refine s_nr ?_
 refine s_lt (t_kern (.agg #[(.slice none 0 0)])) ?_
 refine s_box #[(.slice none 0 0)] (fun g1 => ?_)
 refine sp (pB g1 0) ?_
 refine s_nt ?_
 refine k_ret ?_
 refine xs_fin [pB g1 0] [rmA g1 []] (SI.tmp 0 SI.nil) (fun _ h => rm_shut (b := g1) (sv := .slice none 0 0) OInv.nil ((Holds.nilS (T := RSltT) h).re [1, 0] [])) ⟨g1, rfl, rfl⟩
theorem rmfind_s {Z : Zone} {F : List Asr} {b : Nat} {S : List Slt} (hs : S.length ≤ 1000000) (k : Vl) : SF Tryz.prog 127 #[.pointer (some ⟨b, 0, none⟩), k.v] Z (rmA b S :: F) fun r Bs => r = .int .i64 (findI S k) ∧ Bs = rmA b S :: F := by
 refine sf_enter Tryz.func127 38 [(0, pB b 0), (1, .agg #[.int .i64 k.kind, .int .i64 k.p, .int .i64 k.q, .string k.str, .int .i64 k.ref])] (fun w0 => ?_)
 refine k_fact (fun H h => rm_inv (h.re [0] [])) (fun hinv0 => ?_)
 refine k_sr ?_
 refine s_box #[.int .i64 k.kind, .int .i64 k.p, .int .i64 k.q, .string k.str, .int .i64 k.ref] (fun g1 => ?_)
 refine sp (.int .i64 0) ?_
 refine s_nr ?_
 refine sp (.int .i64 (-1)) ?_
 refine s_nt ?_
 refine k_seq ?_
 refine k_sr ?_
 refine sp (.int .i64 0) ?_
 refine s_nt ?_
 refine k_block ?_
 refine k_loop (ι := Nat) (fun i => i ≤ S.length) (fun i => [(0, pB b 0), (3, pB g1 0), (5, .int .i64 (findI (S.take i) k)), (6, .int .i64 (i : Int))]) (fun i => blkA g1 #[.int .i64 k.kind, .int .i64 k.p, .int .i64 k.q, .string k.str, .int .i64 k.ref] 26 :: rmA b S :: F) (fun i => S.length - i) 0 (Nat.zero_le _) (sub_of rfl ⟨⟨rfl, rfl⟩, ⟨⟨rfl, rfl⟩, ⟨⟨rfl, rfl⟩, ⟨⟨rfl, rfl⟩, trivial⟩⟩⟩⟩) (fun _ h => h.re [0, 0] []) ?_
 rintro i hi2
 show SK _ _ _ _ _ [(0, .pointer (some ⟨b, 0, none⟩)), (3, .pointer (some ⟨g1, 0, none⟩)), (5, .int .i64 (findI (S.take i) k)), (6, .int .i64 (i : Int))] _ (blkA g1 #[.int .i64 k.kind, .int .i64 k.p, .int .i64 k.q, .string k.str, .int .i64 k.ref] 26 :: rmA b S :: F)
 refine k_seq ?_
 refine k_sr ?_
 refine sp (.int .i64 (i : Int)) ?_
 refine sp (pB b 0) ?_
 refine sp (pB b 0) ?_
 refine sp (pB b 0) ?_
 refine s_memX (fun H h => rm_open (h.re [1] [])) (fun sv3 hw => ?_)
 refine s_lt (t_load 0 sv3) ?_
 refine s_lt (t_len RSltT_ok Tryz.underlying145 (.own 1)) ?_
 refine s_lt t_cmp ?_
 refine s_nt ?_
 refine k_cond (decide ((i : Int) < (S.length : Int))) (fun c5 => ?_) (fun c5 => ?_)
 ·
  have p6 := of_decide_eq_true c5
  refine k_st ?_
  refine k_seq ?_
  refine k_block ?_
  refine k_seq ?_
  refine k_draw ?_
  refine sp (pB b 0) ?_
  refine sp (pB b 0) ?_
  refine sp (pB b 0) ?_
  refine s_lt (t_load 0 sv3) ?_
  refine sp (.int .i64 (i : Int)) ?_
  refine s_lt (t_index RSltT_ok Tryz.underlying145 (.own 1) (i : Int) i (by omega) (by (try simp only [lnm]); omega) (by omega)) ?_
  refine sp (.pointer (some (elemAt RSltT.size sv3 i))) ?_
  obtain ⟨y7, hy8⟩ : ∃ y, S[i]? = some y := ⟨_, List.getElem?_eq_getElem (by (try simp only [lnm]); omega)⟩
  refine s_lt (t_loadG 0 #[.int .i64 y7.key.kind, .int .i64 y7.key.p, .int .i64 y7.key.q, .string y7.key.str, .int .i64 y7.key.ref] RSltT_ok (.own 1) hy8) ?_
  refine s_lt (t_loadA 2 #[.int .i64 k.kind, .int .i64 k.p, .int .i64 k.q, .string k.str, .int .i64 k.ref]) ?_
  refine s_lt (t_eqS (fun w => (eqVlT y7.key k w).1)) ?_
  refine s_nil ?_
  refine x_dynS (fun _ h => by kernel_rfl) ?_
  refine xs_then ?_
  refine k_cond (decide (y7.key = k)) (fun c9 => ?_) (fun c9 => ?_)
  ·
   have p10 := of_decide_eq_true c9
   refine k_sr ?_
   refine sp (.int .i64 (i : Int)) ?_
   refine sp (.int .i64 (i : Int)) ?_
   refine s_nr ?_
   refine sp (pB b 0) ?_
   refine sp (pB b 0) ?_
   refine sp (pB b 0) ?_
   refine s_lt (t_load 0 sv3) ?_
   refine sp (.int .i64 (i : Int)) ?_
   refine s_lt (t_index RSltT_ok Tryz.underlying145 (.own 1) (i : Int) i (by omega) (by (try simp only [lnm]); omega) (by omega)) ?_
   refine sp (.pointer (some ((elemAt RSltT.size sv3 i).add 10))) ?_
   refine s_lt (t_loadF 10 RSltT_ok (.own 1) hy8) ?_
   refine sp (.bool (!y7.gone)) ?_
   refine s_nt ?_
   refine k_cond (!y7.gone) (fun c11 => ?_) (fun c11 => ?_)
   ·
    have c12 := not_t c11
    refine k_sr ?_
    refine sp (.int .i64 (i : Int)) ?_
    refine sp (.int .i64 (i : Int)) ?_
    refine s_nt ?_
    refine k_ret ?_
    refine xs_retBlock ?_
    refine xs_ret ?_
    refine xs_ret ?_
    refine xs_retBlock ?_
    refine xs_ret ?_
    refine xs_mem (fun _ h => rm_shut (S := S) hinv0 (h.re [0, 0] [])) ?_
    refine xs_fin [.int .i64 (i : Int)] (rmA b S :: F) (SI.tmp 4 SI.nil) (fun _ h => h.re [0] [1]) ⟨congrArg (Value.int .i64) ?_, rfl⟩
    rw [← of_decide_eq_true c9]; exact (find_here hinv0 hy8 c12).symm
   ·
    have c13 := not_f c11
    refine k_skip ?_
    refine xs_block ?_
    refine xs_then ?_
    refine k_reg ?_
    refine sp (.int .i64 (i : Int)) ?_
    refine s_lt (t_add (i : Int) 1 (by (try simp only [lnm]); omega)) ?_
    refine sp (.int .i64 ((i : Int) + 1)) ?_
    refine s_nil ?_
    have hst := find_step k hy8
    rw [if_pos (of_decide_eq_true c9)] at hst
    refine xs_mem (fun _ h => rm_shut (S := S) hinv0 (h.re [0, 0] [])) ?_
    exact xs_round (i + 1) (by omega) (by omega) (sub_of rfl ⟨⟨rfl, rfl⟩, ⟨⟨rfl, rfl⟩, ⟨⟨rfl, congrArg (Value.int .i64) hst.symm⟩, ⟨⟨rfl, rfl⟩, trivial⟩⟩⟩⟩) (fun _ h => h.re [1, 0] [])
  ·
   have p14 := of_decide_eq_false c9
   refine k_skip ?_
   refine xs_block ?_
   refine xs_then ?_
   refine k_reg ?_
   refine sp (.int .i64 (i : Int)) ?_
   refine s_lt (t_add (i : Int) 1 (by (try simp only [lnm]); omega)) ?_
   refine sp (.int .i64 ((i : Int) + 1)) ?_
   refine s_nil ?_
   have hst := find_step k hy8
   rw [if_neg (of_decide_eq_false c9)] at hst
   refine xs_mem (fun _ h => rm_shut (S := S) hinv0 (h.re [0, 0] [])) ?_
   exact xs_round (i + 1) (by omega) (by omega) (sub_of rfl ⟨⟨rfl, rfl⟩, ⟨⟨rfl, rfl⟩, ⟨⟨rfl, congrArg (Value.int .i64) hst.symm⟩, ⟨⟨rfl, rfl⟩, trivial⟩⟩⟩⟩) (fun _ h => h.re [1, 0] [])
 ·
  have p15 := of_decide_eq_false c5
  refine k_exit ?_
  refine xs_exit ?_
  refine xs_exit ?_
  refine xs_here ?_
  refine xs_then ?_
  refine k_sr ?_
  refine sp (.int .i64 (findI (S.take i) k)) ?_
  refine sp (.int .i64 (findI (S.take i) k)) ?_
  refine s_nt ?_
  refine k_ret ?_
  refine xs_mem (fun _ h => rm_shut (S := S) hinv0 (h.re [0, 0] [])) ?_
  refine xs_fin [.int .i64 (findI (S.take i) k)] (rmA b S :: F) (SI.tmp 4 SI.nil) (fun _ h => h.re [0] [1]) ⟨congrArg (Value.int .i64) ?_, rfl⟩
  exact find_end k (by omega)
theorem rmget_s {Z : Zone} {F : List Asr} {b : Nat} {S : List Slt} (hs : S.length ≤ 1000000) (k : Vl) : SF Tryz.prog 110 #[.pointer (some ⟨b, 0, none⟩), k.v] Z (rmA b S :: F) fun r Bs => r = (oget S k).v ∧ Bs = rmA b S :: F := by
 refine sf_enter Tryz.func110 33 [(0, pB b 0), (1, .agg #[.int .i64 k.kind, .int .i64 k.p, .int .i64 k.q, .string k.str, .int .i64 k.ref])] (fun w0 => ?_)
 refine k_fact (fun H h => rm_inv (h.re [0] [])) (fun hinv0 => ?_)
 refine k_sr ?_
 refine s_box #[.int .i64 k.kind, .int .i64 k.p, .int .i64 k.q, .string k.str, .int .i64 k.ref] (fun g1 => ?_)
 refine s_alloc (.agg #[.int .i64 0, .int .i64 0, .int .i64 0, .string ByteArray.empty, .int .i64 0]) #[.int .i64 0, .int .i64 0, .int .i64 0, .string ByteArray.empty, .int .i64 0] (fun g2 => ?_)
 refine s_nt ?_
 refine k_seq ?_
 refine k_sr ?_
 refine sp (pB b 0) ?_
 refine sp (.bool false) ?_
 refine s_nt ?_
 refine k_false ?_
 refine k_st ?_
 refine k_sr ?_
 refine sp (pB b 0) ?_
 refine s_lt (t_loadA 1 #[.int .i64 k.kind, .int .i64 k.p, .int .i64 k.q, .string k.str, .int .i64 k.ref]) ?_
 refine s_call [2] (rmfind_s (S := S) (by omega) k) ?_
 rintro u3 _ ⟨e4, rfl⟩
 rcases find_cases (S := S) k with ⟨hf5, hl6, ht7, hg8⟩ | ⟨i9, s10, hf11, hl12, hs13, hk14, hg15, ht16⟩
 ·
  rw [hf5] at e4; subst e4
  refine sp (.int .i64 (-1)) ?_
  refine s_nt ?_
  refine k_seq ?_
  refine k_sr ?_
  refine sp (.int .i64 (-1)) ?_
  refine s_lt (t_cmp (c := true)) ?_
  refine sp (.bool true) ?_
  refine s_skip ?_
  refine s_skip ?_
  refine s_skip ?_
  refine s_skip ?_
  refine s_skip ?_
  refine s_skip ?_
  refine s_skip ?_
  refine s_skip ?_
  refine sp (.bool true) ?_
  refine s_nt ?_
  refine k_true ?_
  refine k_sr ?_
  refine s_lt (t_kern (.agg #[.int .i64 0, .int .i64 0, .int .i64 0, .string ByteArray.empty, .int .i64 0])) ?_
  refine s_store 1 #[.int .i64 0, .int .i64 0, .int .i64 0, .string ByteArray.empty, .int .i64 0] ?_
  refine s_nt ?_
  refine k_ret ?_
  refine xs_ret ?_
  refine xs_fin [.agg #[.int .i64 0, .int .i64 0, .int .i64 0, .string ByteArray.empty, .int .i64 0]] (rmA b S :: F) (SI.agg 4 26 1 SI.nil) (fun _ h => h.re [0] [1, 1]) ⟨?_, rfl⟩
  exact (congrArg Vl.v hg8).symm
 ·
  rw [hf11] at e4; subst e4
  have hlt17 : i9 < S.length := (List.getElem?_eq_some_iff.1 hs13).1
  refine sp (.int .i64 (i9 : Int)) ?_
  refine s_nt ?_
  refine k_seq ?_
  refine k_sr ?_
  refine sp (.int .i64 (i9 : Int)) ?_
  refine s_lt (Lt.to t_cmp (congrArg Value.bool (decide_eq_false (by omega) : (decide ((i9 : Int) < 0)) = false))) ?_
  refine sp (.bool false) ?_
  refine sp (pB b 0) ?_
  refine sp (pB b 0) ?_
  refine sp (pB b 0) ?_
  refine s_memX (fun H h => rm_open (h.re [0] [])) (fun sv18 hw => ?_)
  refine s_lt (t_load 0 sv18) ?_
  refine sp (.int .i64 (i9 : Int)) ?_
  refine s_lt (t_index RSltT_ok Tryz.underlying145 (.own 1) (i9 : Int) i9 (by omega) (by (try simp only [lnm]); omega) (by omega)) ?_
  refine sp (.pointer (some ((elemAt RSltT.size sv18 i9).add 10))) ?_
  refine s_lt (t_loadF 10 RSltT_ok (.own 1) hs13) ?_
  refine sp (.bool s10.gone) ?_
  refine s_nt ?_
  refine k_cond s10.gone (fun c20 => ?_) (fun c20 => ?_)
  ·
   refine k_sr ?_
   refine s_lt (t_kern (.agg #[.int .i64 0, .int .i64 0, .int .i64 0, .string ByteArray.empty, .int .i64 0])) ?_
   refine s_store 2 #[.int .i64 0, .int .i64 0, .int .i64 0, .string ByteArray.empty, .int .i64 0] ?_
   refine s_nt ?_
   refine k_ret ?_
   refine xs_ret ?_
   refine xs_mem (fun _ h => rm_shut (S := S) hinv0 (h.re [0, 0] [])) ?_
   refine xs_fin [.agg #[.int .i64 0, .int .i64 0, .int .i64 0, .string ByteArray.empty, .int .i64 0]] (rmA b S :: F) (SI.agg 4 26 1 SI.nil) (fun _ h => h.re [0] [1, 1]) ⟨?_, rfl⟩
   exact (congrArg Vl.v (hg15.trans (hinv0.zero _ (List.mem_of_getElem? hs13) c20))).symm
  ·
   refine k_st ?_
   refine k_sr ?_
   refine sp (pB b 0) ?_
   refine sp (pB b 0) ?_
   refine sp (pB b 0) ?_
   refine s_lt (t_load 0 sv18) ?_
   refine sp (.int .i64 (i9 : Int)) ?_
   refine s_lt (t_index RSltT_ok Tryz.underlying145 (.own 1) (i9 : Int) i9 (by omega) (by (try simp only [lnm]); omega) (by omega)) ?_
   refine sp (.pointer (some ((elemAt RSltT.size sv18 i9).add 5))) ?_
   refine s_lt (t_loadG 5 #[.int .i64 s10.val.kind, .int .i64 s10.val.p, .int .i64 s10.val.q, .string s10.val.str, .int .i64 s10.val.ref] RSltT_ok (.own 1) hs13) ?_
   refine s_store 2 #[.int .i64 s10.val.kind, .int .i64 s10.val.p, .int .i64 s10.val.q, .string s10.val.str, .int .i64 s10.val.ref] ?_
   refine s_nt ?_
   refine k_ret ?_
   refine xs_mem (fun _ h => rm_shut (S := S) hinv0 (h.re [0, 0] [])) ?_
   refine xs_fin [.agg #[.int .i64 s10.val.kind, .int .i64 s10.val.p, .int .i64 s10.val.q, .string s10.val.str, .int .i64 s10.val.ref]] (rmA b S :: F) (SI.agg 4 26 1 SI.nil) (fun _ h => h.re [0] [1, 1]) ⟨?_, rfl⟩
   exact (congrArg Vl.v hg15).symm
theorem rmlen_s {Z : Zone} {F : List Asr} {b : Nat} {S : List Slt} (hs : S.length ≤ 1000000) : SF Tryz.prog 128 #[.pointer (some ⟨b, 0, none⟩)] Z (rmA b S :: F) fun r Bs => r = .int .i64 (cnt S : Int) ∧ Bs = rmA b S :: F := by
 refine sf_enter Tryz.func128 28 [(0, pB b 0)] (fun w0 => ?_)
 refine k_fact (fun H h => rm_inv (h.re [0] [])) (fun hinv0 => ?_)
 refine k_sr ?_
 refine sp (.int .i64 0) ?_
 refine s_nt ?_
 refine k_seq ?_
 refine k_sr ?_
 refine sp (pB b 0) ?_
 refine sp (.bool false) ?_
 refine s_nt ?_
 refine k_false ?_
 refine k_st ?_
 refine k_sr ?_
 refine sp (.int .i64 0) ?_
 refine s_nt ?_
 refine k_seq ?_
 refine k_sr ?_
 refine sp (.int .i64 0) ?_
 refine s_nt ?_
 refine k_block ?_
 refine k_loop (ι := Nat) (fun i => i ≤ S.length) (fun i => [(0, pB b 0), (3, .int .i64 (cnt (S.take i) : Int)), (4, .int .i64 (i : Int))]) (fun i => rmA b S :: F) (fun i => S.length - i) 0 (Nat.zero_le _) (sub_of rfl ⟨⟨rfl, rfl⟩, ⟨⟨rfl, rfl⟩, ⟨⟨rfl, rfl⟩, trivial⟩⟩⟩) (fun _ h => h.re [0] []) ?_
 rintro i hi1
 show SK _ _ _ _ _ [(0, .pointer (some ⟨b, 0, none⟩)), (3, .int .i64 (cnt (S.take i) : Int)), (4, .int .i64 (i : Int))] _ (rmA b S :: F)
 have hcl : cnt (S.take i) ≤ i := Nat.le_trans (cnt_le _) (by rw [List.length_take]; omega)
 refine k_seq ?_
 refine k_sr ?_
 refine sp (.int .i64 (i : Int)) ?_
 refine sp (pB b 0) ?_
 refine sp (pB b 0) ?_
 refine sp (pB b 0) ?_
 refine s_memX (fun H h => rm_open (h.re [0] [])) (fun sv2 hw => ?_)
 refine s_lt (t_load 0 sv2) ?_
 refine s_lt (t_len RSltT_ok Tryz.underlying145 (.own 1)) ?_
 refine s_lt t_cmp ?_
 refine s_nt ?_
 refine k_cond (decide ((i : Int) < (S.length : Int))) (fun c4 => ?_) (fun c4 => ?_)
 ·
  have p5 := of_decide_eq_true c4
  refine k_st ?_
  refine k_seq ?_
  refine k_block ?_
  refine k_sr ?_
  refine sp (pB b 0) ?_
  refine sp (pB b 0) ?_
  refine sp (pB b 0) ?_
  refine s_lt (t_load 0 sv2) ?_
  refine sp (.int .i64 (i : Int)) ?_
  refine s_lt (t_index RSltT_ok Tryz.underlying145 (.own 1) (i : Int) i (by omega) (by (try simp only [lnm]); omega) (by omega)) ?_
  refine sp (.pointer (some ((elemAt RSltT.size sv2 i).add 10))) ?_
  obtain ⟨y6, hy7⟩ : ∃ y, S[i]? = some y := ⟨_, List.getElem?_eq_getElem (by (try simp only [lnm]); omega)⟩
  refine s_lt (t_loadF 10 RSltT_ok (.own 1) hy7) ?_
  refine sp (.bool (!y6.gone)) ?_
  refine s_nt ?_
  refine k_cond (!y6.gone) (fun c8 => ?_) (fun c8 => ?_)
  ·
   have c9 := not_t c8
   refine k_reg ?_
   refine sp (.int .i64 (cnt (S.take i) : Int)) ?_
   refine s_lt (t_add (cnt (S.take i) : Int) 1 (by (try simp only [lnm]); omega)) ?_
   refine sp (.int .i64 ((cnt (S.take i) : Int) + 1)) ?_
   refine s_nil ?_
   refine xs_block ?_
   refine xs_then ?_
   refine k_reg ?_
   refine sp (.int .i64 (i : Int)) ?_
   refine s_lt (t_add (i : Int) 1 (by (try simp only [lnm]); omega)) ?_
   refine sp (.int .i64 ((i : Int) + 1)) ?_
   refine s_nil ?_
   have hst := cnt_step hy7
   rw [if_neg (by rw [c9]; decide)] at hst
   rw [show ((cnt (S.take i) : Int) + 1) = ((cnt (S.take (i + 1)) : Nat) : Int) by omega]
   refine xs_mem (fun _ h => rm_shut (S := S) hinv0 (h.re [0, 0] [])) ?_
   exact xs_round (i + 1) (by omega) (by omega) (sub_of rfl ⟨⟨rfl, rfl⟩, ⟨⟨rfl, rfl⟩, ⟨⟨rfl, rfl⟩, trivial⟩⟩⟩) (fun _ h => h.re [0] [])
  ·
   have c10 := not_f c8
   refine k_skip ?_
   refine xs_block ?_
   refine xs_then ?_
   refine k_reg ?_
   refine sp (.int .i64 (i : Int)) ?_
   refine s_lt (t_add (i : Int) 1 (by (try simp only [lnm]); omega)) ?_
   refine sp (.int .i64 ((i : Int) + 1)) ?_
   refine s_nil ?_
   have hst := cnt_step hy7
   rw [if_pos c10] at hst
   rw [← hst]
   refine xs_mem (fun _ h => rm_shut (S := S) hinv0 (h.re [0, 0] [])) ?_
   exact xs_round (i + 1) (by omega) (by omega) (sub_of rfl ⟨⟨rfl, rfl⟩, ⟨⟨rfl, rfl⟩, ⟨⟨rfl, rfl⟩, trivial⟩⟩⟩) (fun _ h => h.re [0] [])
 ·
  have p11 := of_decide_eq_false c4
  refine k_exit ?_
  refine xs_exit ?_
  refine xs_exit ?_
  refine xs_here ?_
  refine xs_then ?_
  refine k_sr ?_
  refine sp (.int .i64 (cnt (S.take i) : Int)) ?_
  refine sp (.int .i64 (cnt (S.take i) : Int)) ?_
  refine s_nt ?_
  refine k_ret ?_
  refine xs_mem (fun _ h => rm_shut (S := S) hinv0 (h.re [0, 0] [])) ?_
  refine xs_fin [.int .i64 (cnt (S.take i) : Int)] (rmA b S :: F) (SI.tmp 2 SI.nil) (fun _ h => h.re [0] []) ⟨?_, rfl⟩
  show Value.int .i64 (cnt (S.take i) : Int) = _; rw [List.take_of_length_le (by omega)]
theorem rmkeys_s {Z : Zone} {F : List Asr} {b : Nat} {S : List Slt} (hs : S.length ≤ 1000000) : SF Tryz.prog 130 #[.pointer (some ⟨b, 0, none⟩)] Z (rmA b S :: F) fun r Bs => Bs = own VlT r (okeys S) :: rmA b S :: F := by
 refine sf_enter Tryz.func130 38 [(0, pB b 0)] (fun w0 => ?_)
 refine k_fact (fun H h => rm_inv (h.re [0] [])) (fun hinv0 => ?_)
 refine k_sr ?_
 refine sp (.slice none 0 0) ?_
 refine s_nr ?_
 refine sp (.slice none 0 0) ?_
 refine s_nt ?_
 refine k_seq ?_
 refine k_sr ?_
 refine sp (pB b 0) ?_
 refine sp (.bool false) ?_
 refine s_nt ?_
 refine k_false ?_
 refine k_st ?_
 refine k_seq ?_
 refine k_sr ?_
 refine sp (.int .i64 0) ?_
 refine s_nt ?_
 refine k_block ?_
 refine k_mem (fun _ h => Holds.nilS (T := VlT) h) ?_
 refine k_mem (Bs := own VlT (.slice none 0 0) (okeys (S.take 0)) :: rmA b S :: F) (fun _ h => h) ?_
 refine k_loop (ι := Value × Nat) (fun (lx, i) => i ≤ S.length) (fun (lx, i) => [(0, pB b 0), (3, lx), (4, .int .i64 (i : Int))]) (fun (lx, i) => own VlT lx (okeys (S.take i)) :: rmA b S :: F) (fun (lx, i) => S.length - i) ((.slice none 0 0), 0) (Nat.zero_le _) (sub_of rfl ⟨⟨rfl, rfl⟩, ⟨⟨rfl, rfl⟩, ⟨⟨rfl, rfl⟩, trivial⟩⟩⟩) (fun _ h => h.re [0, 0] []) ?_
 rintro ⟨lx, i⟩ hi1
 replace hi1 : i ≤ S.length := hi1
 show SK _ _ _ _ _ [(0, .pointer (some ⟨b, 0, none⟩)), (3, lx), (4, .int .i64 (i : Int))] _ (own VlT lx (okeys (S.take i)) :: rmA b S :: F)
 have hli : (okeys (S.take i)).length ≤ i := Nat.le_trans (okeys_len _) (by rw [List.length_take]; omega)
 refine k_seq ?_
 refine k_sr ?_
 refine sp (.int .i64 (i : Int)) ?_
 refine sp (pB b 0) ?_
 refine sp (pB b 0) ?_
 refine sp (pB b 0) ?_
 refine s_memX (fun H h => rm_open (h.re [1] [])) (fun sv2 hw => ?_)
 refine s_lt (t_load 0 sv2) ?_
 refine s_lt (t_len RSltT_ok Tryz.underlying145 (.own 1)) ?_
 refine s_lt t_cmp ?_
 refine s_nt ?_
 refine k_cond (decide ((i : Int) < (S.length : Int))) (fun c4 => ?_) (fun c4 => ?_)
 ·
  have p5 := of_decide_eq_true c4
  refine k_st ?_
  refine k_seq ?_
  refine k_block ?_
  refine k_sr ?_
  refine sp (pB b 0) ?_
  refine sp (pB b 0) ?_
  refine sp (pB b 0) ?_
  refine s_lt (t_load 0 sv2) ?_
  refine sp (.int .i64 (i : Int)) ?_
  refine s_lt (t_index RSltT_ok Tryz.underlying145 (.own 1) (i : Int) i (by omega) (by (try simp only [lnm]); omega) (by omega)) ?_
  refine sp (.pointer (some ((elemAt RSltT.size sv2 i).add 10))) ?_
  obtain ⟨y6, hy7⟩ : ∃ y, S[i]? = some y := ⟨_, List.getElem?_eq_getElem (by (try simp only [lnm]); omega)⟩
  refine s_lt (t_loadF 10 RSltT_ok (.own 1) hy7) ?_
  refine sp (.bool (!y6.gone)) ?_
  refine s_nt ?_
  refine k_cond (!y6.gone) (fun c8 => ?_) (fun c8 => ?_)
  ·
   have c9 := not_t c8
   refine k_reg ?_
   refine sp lx ?_
   refine sp (pB b 0) ?_
   refine sp (pB b 0) ?_
   refine sp (pB b 0) ?_
   refine s_lt (t_load 0 sv2) ?_
   refine sp (.int .i64 (i : Int)) ?_
   refine s_lt (t_index RSltT_ok Tryz.underlying145 (.own 1) (i : Int) i (by omega) (by (try simp only [lnm]); omega) (by omega)) ?_
   refine sp (.pointer (some (elemAt RSltT.size sv2 i))) ?_
   refine s_lt (t_loadG 0 #[.int .i64 y6.key.kind, .int .i64 y6.key.p, .int .i64 y6.key.q, .string y6.key.str, .int .i64 y6.key.ref] RSltT_ok (.own 1) hy7) ?_
   refine s_buildSlice (e := 26) [(0, .agg #[.int .i64 y6.key.kind, .int .i64 y6.key.p, .int .i64 y6.key.q, .string y6.key.str, .int .i64 y6.key.ref])] #[.int .i64 y6.key.kind, .int .i64 y6.key.p, .int .i64 y6.key.q, .string y6.key.str, .int .i64 y6.key.ref] (fun g10 => ?_) (hb := by kernel_rfl)
   refine s_append (L := (okeys (S.take i))) 3 VlT_ok Tryz.underlying33 (.lit 0 VlT_ok [y6.key]) (by show _ * 48 ≤ _; (try simp only [lnm]); omega) (by (try simp only [lnm]); omega) (fun v11 => ?_)
   refine sp v11 ?_
   refine s_nil ?_
   refine xs_block ?_
   refine xs_then ?_
   refine k_reg ?_
   refine sp (.int .i64 (i : Int)) ?_
   refine s_lt (t_add (i : Int) 1 (by (try simp only [lnm]); omega)) ?_
   refine sp (.int .i64 ((i : Int) + 1)) ?_
   refine s_nil ?_
   have hks := okeys_step hy7
   rw [if_neg (by rw [c9]; decide)] at hks
   rw [← hks]
   refine xs_mem (fun _ h => rm_shut (S := S) hinv0 (h.re [1, 1] [])) ?_
   exact xs_round (v11, i + 1) (by show S.length - (i + 1) < S.length - i; omega) (by show i + 1 ≤ S.length; omega) (sub_of rfl ⟨⟨rfl, rfl⟩, ⟨⟨rfl, rfl⟩, ⟨⟨rfl, rfl⟩, trivial⟩⟩⟩) (fun _ h => h.re [2, 0] [2])
  ·
   have c12 := not_f c8
   refine k_skip ?_
   refine xs_block ?_
   refine xs_then ?_
   refine k_reg ?_
   refine sp (.int .i64 (i : Int)) ?_
   refine s_lt (t_add (i : Int) 1 (by (try simp only [lnm]); omega)) ?_
   refine sp (.int .i64 ((i : Int) + 1)) ?_
   refine s_nil ?_
   have hks := okeys_step hy7
   rw [if_pos c12] at hks
   rw [← hks]
   refine xs_mem (fun _ h => rm_shut (S := S) hinv0 (h.re [0, 0] [])) ?_
   exact xs_round (lx, i + 1) (by show S.length - (i + 1) < S.length - i; omega) (by show i + 1 ≤ S.length; omega) (sub_of rfl ⟨⟨rfl, rfl⟩, ⟨⟨rfl, rfl⟩, ⟨⟨rfl, rfl⟩, trivial⟩⟩⟩) (fun _ h => h.re [1, 0] [])
 ·
  have p13 := of_decide_eq_false c4
  refine k_exit ?_
  refine xs_exit ?_
  refine xs_exit ?_
  refine xs_here ?_
  refine xs_then ?_
  refine k_sr ?_
  refine sp lx ?_
  refine sp lx ?_
  refine s_nt ?_
  refine k_ret ?_
  refine xs_mem (fun _ h => rm_shut (S := S) hinv0 (h.re [0, 0] [])) ?_
  have hend : okeys (S.take i) = okeys S := by rw [List.take_of_length_le (by omega)]
  rw [hend]
  exact xs_fin [lx] (own VlT lx (okeys S) :: rmA b S :: F) (SI.tmp 2 SI.nil) (fun _ h => h.re [1, 0] []) rfl
theorem next_found2 {S : List Slt} {a j : Nat} {s : Slt} (ha : a ≤ j) (h : live ((S.drop a).take (j - a)) = []) (hs : S[j]? = some s) (hg : s.gone = false) : slotV (live (S.drop a)).head? = (s.key, s.val, true) :=
  next_found h (by rw [List.getElem?_drop, show a + (j - a) = j by omega]; exact hs) hg
theorem next_end2 {S : List Slt} {a j : Nat} (ha : a ≤ j) (h : live ((S.drop a).take (j - a)) = []) (hj : S.length ≤ j) : slotV (live (S.drop a)).head? = (zVl, zVl, false) :=
  next_end h (by rw [List.length_drop]; omega)
theorem next_step2 {S : List Slt} {a j : Nat} {s : Slt} (ha : a ≤ j) (h : live ((S.drop a).take (j - a)) = []) (hs : S[j]? = some s) (hg : s.gone = true) : live ((S.drop a).take (j + 1 - a)) = [] := by
  rw [show j + 1 - a = (j - a) + 1 by omega]
  exact live_gone_step h (by rw [List.getElem?_drop, show a + (j - a) = j by omega]; exact hs) hg
theorem rmnext_s {Z : Zone} {F : List Asr} {b : Nat} {S : List Slt} (hs : S.length ≤ 1000000) (k : Vl) : SF Tryz.prog 129 #[.pointer (some ⟨b, 0, none⟩), k.v] Z (rmA b S :: F) fun r Bs => r = nextV (onext S k) ∧ Bs = rmA b S :: F := by
 refine sf_enter Tryz.func129 62 [(0, pB b 0), (1, .agg #[.int .i64 k.kind, .int .i64 k.p, .int .i64 k.q, .string k.str, .int .i64 k.ref])] (fun w0 => ?_)
 refine k_fact (fun H h => rm_inv (h.re [0] [])) (fun hinv0 => ?_)
 refine k_sr ?_
 refine s_box #[.int .i64 k.kind, .int .i64 k.p, .int .i64 k.q, .string k.str, .int .i64 k.ref] (fun g1 => ?_)
 refine s_alloc (.agg #[.int .i64 0, .int .i64 0, .int .i64 0, .string ByteArray.empty, .int .i64 0]) #[.int .i64 0, .int .i64 0, .int .i64 0, .string ByteArray.empty, .int .i64 0] (fun g2 => ?_)
 refine s_alloc (.agg #[.int .i64 0, .int .i64 0, .int .i64 0, .string ByteArray.empty, .int .i64 0]) #[.int .i64 0, .int .i64 0, .int .i64 0, .string ByteArray.empty, .int .i64 0] (fun g3 => ?_)
 refine sp (.bool false) ?_
 refine sp (.int .i64 0) ?_
 refine s_nt ?_
 refine k_seq ?_
 refine k_sr ?_
 refine sp (pB b 0) ?_
 refine sp (.bool false) ?_
 refine s_nt ?_
 refine k_false ?_
 refine k_st ?_
 refine k_sr ?_
 refine sp (.int .i64 (-1)) ?_
 refine s_nt ?_
 refine k_seq ?_
 refine k_sr ?_
 refine s_lt (t_loadA 2 #[.int .i64 k.kind, .int .i64 k.p, .int .i64 k.q, .string k.str, .int .i64 k.ref]) ?_
 refine s_lt (t_kern (.agg #[.int .i64 0, .int .i64 0, .int .i64 0, .string ByteArray.empty, .int .i64 0])) ?_
 refine s_lt (t_eqS (fun w => (eqVlT k zVl w).2)) ?_
 refine s_nt ?_
 refine k_cond (!(decide (k = zVl))) (fun c4 => ?_) (fun c4 => ?_)
 ·
  have c5 := not_t c4
  have p6 := of_decide_eq_false c5
  refine k_sr ?_
  refine sp (pB b 0) ?_
  refine s_lt (t_loadA 2 #[.int .i64 k.kind, .int .i64 k.p, .int .i64 k.q, .string k.str, .int .i64 k.ref]) ?_
  refine s_call [3] (rmfind_s (S := S) (by omega) k) ?_
  rintro u7 _ ⟨e8, rfl⟩
  rcases find_cases (S := S) k with ⟨hf9, hl10, ht11, hg12⟩ | ⟨i13, s14, hf15, hl16, hs17, hk18, hg19, ht20⟩
  ·
   rw [hf9] at e8; subst e8
   refine sp (.int .i64 (-1)) ?_
   refine s_nr ?_
   refine sp (.int .i64 (-1)) ?_
   refine s_lt (t_cmp (c := true)) ?_
   refine s_nt ?_
   refine k_true ?_
   refine k_sr ?_
   refine s_lt (t_kern (.agg #[.int .i64 0, .int .i64 0, .int .i64 0, .string ByteArray.empty, .int .i64 0])) ?_
   refine s_lt (t_kern (.agg #[.int .i64 0, .int .i64 0, .int .i64 0, .string ByteArray.empty, .int .i64 0])) ?_
   refine s_store 2 #[.int .i64 0, .int .i64 0, .int .i64 0, .string ByteArray.empty, .int .i64 0] ?_
   refine s_store 1 #[.int .i64 0, .int .i64 0, .int .i64 0, .string ByteArray.empty, .int .i64 0] ?_
   refine sp (.bool false) ?_
   refine sp (.int .i64 13) ?_
   refine s_nt ?_
   refine k_ret ?_
   refine xs_ret ?_
   have hp : onext S k = (zVl, zVl, false, 13) := (onext_none (of_decide_eq_false c5) hl10)
   refine xs_fin [.agg #[.int .i64 0, .int .i64 0, .int .i64 0, .string ByteArray.empty, .int .i64 0], .agg #[.int .i64 0, .int .i64 0, .int .i64 0, .string ByteArray.empty, .int .i64 0], .bool false, .int .i64 13] (rmA b S :: F) (SI.agg 4 26 2 (SI.agg 5 26 1 (SI.tmp 6 (SI.tmp 7 SI.nil)))) (fun _ h => h.re [0] [1, 1, 1]) ⟨?_, rfl⟩
   rw [hp]; rfl
  ·
   rw [hf15] at e8; subst e8
   have hlt21 : i13 < S.length := (List.getElem?_eq_some_iff.1 hs17).1
   refine sp (.int .i64 (i13 : Int)) ?_
   refine s_nr ?_
   refine sp (.int .i64 (i13 : Int)) ?_
   refine s_lt (Lt.to t_cmp (congrArg Value.bool (decide_eq_false (by omega) : (decide ((i13 : Int) < 0)) = false))) ?_
   refine s_nt ?_
   refine k_false ?_
   refine k_st ?_
   refine k_seq ?_
   refine k_sr ?_
   refine sp (.int .i64 (i13 : Int)) ?_
   refine s_lt (t_add (i13 : Int) 1 (by (try simp only [lnm]); omega)) ?_
   refine sp (.int .i64 ((i13 : Int) + 1)) ?_
   refine s_nt ?_
   refine k_block ?_
   refine k_loop (ι := Nat) (fun j => (i13 + 1) ≤ j ∧ j ≤ S.length ∧ live ((S.drop (i13 + 1)).take (j - (i13 + 1))) = []) (fun j => [(0, pB b 0), (4, pB g2 0), (5, pB g3 0), (9, .int .i64 (j : Int))]) (fun j => rmA b S :: blkA g3 #[.int .i64 0, .int .i64 0, .int .i64 0, .string ByteArray.empty, .int .i64 0] 26 :: blkA g2 #[.int .i64 0, .int .i64 0, .int .i64 0, .string ByteArray.empty, .int .i64 0] 26 :: blkA g1 #[.int .i64 k.kind, .int .i64 k.p, .int .i64 k.q, .string k.str, .int .i64 k.ref] 26 :: F) (fun j => S.length - j) (i13 + 1) ⟨Nat.le_refl _, by omega, by rw [Nat.sub_self]; rfl⟩ (sub_of rfl ⟨⟨rfl, rfl⟩, ⟨⟨rfl, rfl⟩, ⟨⟨rfl, rfl⟩, ⟨⟨rfl, rfl⟩, trivial⟩⟩⟩⟩) (fun _ h => h.re [0, 0, 0, 0] []) ?_
   rintro j hi22
   show SK _ _ _ _ _ [(0, .pointer (some ⟨b, 0, none⟩)), (4, .pointer (some ⟨g2, 0, none⟩)), (5, .pointer (some ⟨g3, 0, none⟩)), (9, .int .i64 (j : Int))] _ (rmA b S :: blkA g3 #[.int .i64 0, .int .i64 0, .int .i64 0, .string ByteArray.empty, .int .i64 0] 26 :: blkA g2 #[.int .i64 0, .int .i64 0, .int .i64 0, .string ByteArray.empty, .int .i64 0] 26 :: blkA g1 #[.int .i64 k.kind, .int .i64 k.p, .int .i64 k.q, .string k.str, .int .i64 k.ref] 26 :: F)
   refine k_seq ?_
   refine k_sr ?_
   refine sp (.int .i64 (j : Int)) ?_
   refine sp (pB b 0) ?_
   refine sp (pB b 0) ?_
   refine sp (pB b 0) ?_
   refine s_memX (fun H h => rm_open (h.re [0] [])) (fun sv23 hw => ?_)
   refine s_lt (t_load 0 sv23) ?_
   refine s_lt (t_len RSltT_ok Tryz.underlying145 (.own 1)) ?_
   refine s_lt t_cmp ?_
   refine s_nt ?_
   refine k_cond (decide ((j : Int) < (S.length : Int))) (fun c25 => ?_) (fun c25 => ?_)
   ·
    have p26 := of_decide_eq_true c25
    refine k_st ?_
    refine k_seq ?_
    refine k_block ?_
    refine k_sr ?_
    refine sp (pB b 0) ?_
    refine sp (pB b 0) ?_
    refine sp (pB b 0) ?_
    refine s_lt (t_load 0 sv23) ?_
    refine sp (.int .i64 (j : Int)) ?_
    refine s_lt (t_index RSltT_ok Tryz.underlying145 (.own 1) (j : Int) j (by omega) (by (try simp only [lnm]); omega) (by omega)) ?_
    refine sp (.pointer (some ((elemAt RSltT.size sv23 j).add 10))) ?_
    obtain ⟨y27, hy28⟩ : ∃ y, S[j]? = some y := ⟨_, List.getElem?_eq_getElem (by (try simp only [lnm]); omega)⟩
    refine s_lt (t_loadF 10 RSltT_ok (.own 1) hy28) ?_
    refine sp (.bool (!y27.gone)) ?_
    refine s_nt ?_
    refine k_cond (!y27.gone) (fun c29 => ?_) (fun c29 => ?_)
    ·
     have c30 := not_t c29
     refine k_seq ?_
     refine k_held [blkA b #[sv23] 147, own RSltT sv23 S, blkA g1 #[.int .i64 k.kind, .int .i64 k.p, .int .i64 k.q, .string k.str, .int .i64 k.ref] 26] ?_
     refine hp_ 0 [0, 0, 2] (pB b 0) ?_
     refine hp_ 1 [0, 0, 2] (pB b 0) ?_
     refine hp_ 2 [0, 0, 2] (pB b 0) ?_
     refine h_l 3 rfl [0, 0, 2] (fun _ => (t_load 0 sv23)) ?_
     refine hp_ 4 [0, 0, 2] (.int .i64 (j : Int)) ?_
     refine h_l 5 rfl [0, 0, 2] (fun _ => (t_index RSltT_ok Tryz.underlying145 (.own 1) (j : Int) j (by omega) (by (try simp only [lnm]); omega) (by omega))) ?_
     refine hp_ 6 [0, 0, 2] (.pointer (some (elemAt RSltT.size sv23 j))) ?_
     refine h_l 7 rfl [0, 0, 2] (fun _ => (t_loadG 0 #[.int .i64 y27.key.kind, .int .i64 y27.key.p, .int .i64 y27.key.q, .string y27.key.str, .int .i64 y27.key.ref] RSltT_ok (.own 1) hy28)) ?_
     refine hp_ 8 [0, 0, 2] (pB b 0) ?_
     refine hp_ 9 [0, 0, 2] (pB b 0) ?_
     refine hp_ 10 [0, 0, 2] (pB b 0) ?_
     refine h_l 11 rfl [0, 0, 2] (fun _ => (t_load 0 sv23)) ?_
     refine hp_ 12 [0, 0, 2] (.int .i64 (j : Int)) ?_
     refine h_l 13 rfl [0, 0, 2] (fun _ => (t_index RSltT_ok Tryz.underlying145 (.own 1) (j : Int) j (by omega) (by (try simp only [lnm]); omega) (by omega))) ?_
     refine hp_ 14 [0, 0, 2] (.pointer (some ((elemAt RSltT.size sv23 j).add 5))) ?_
     refine h_l 15 rfl [0, 0, 2] (fun _ => (t_loadG 5 #[.int .i64 y27.val.kind, .int .i64 y27.val.p, .int .i64 y27.val.q, .string y27.val.str, .int .i64 y27.val.ref] RSltT_ok (.own 1) hy28)) ?_
     refine h_stepS 16 ?_
     refine s_store 3 #[.int .i64 y27.key.kind, .int .i64 y27.key.p, .int .i64 y27.key.q, .string y27.key.str, .int .i64 y27.key.ref] ?_
     refine s_nil (xs_held [0, 0, 2] ?_)
     refine h_stepS 17 ?_
     refine s_store 2 #[.int .i64 y27.val.kind, .int .i64 y27.val.p, .int .i64 y27.val.q, .string y27.val.str, .int .i64 y27.val.ref] ?_
     refine s_nil (xs_held [0, 0, 2] ?_)
     refine hp_ 18 [0, 0, 2] (.bool true) ?_
     refine hp_ 19 [0, 0, 2] (.int .i64 0) ?_
     refine h_doneS ?_
     refine xs_then ?_
     refine k_ret ?_
     refine xs_retBlock ?_
     refine xs_ret ?_
     refine xs_ret ?_
     refine xs_retBlock ?_
     refine xs_ret ?_
     refine xs_mem (fun _ h => rm_shut (S := S) hinv0 (h.re [0, 0] [])) ?_
     have hr := next_found2 (a := (i13 + 1)) (by omega) hi22.2.2 hy28 c30
     have hp : onext S k = (y27.key, y27.val, true, 0) := by rw [(onext_some (of_decide_eq_false c5) hl16)]; first | (rw [hr]; done) | (have hr0 : slotV (live S).head? = _ := hr; rw [hr0])
     refine xs_fin [.agg #[.int .i64 y27.key.kind, .int .i64 y27.key.p, .int .i64 y27.key.q, .string y27.key.str, .int .i64 y27.key.ref], .agg #[.int .i64 y27.val.kind, .int .i64 y27.val.p, .int .i64 y27.val.q, .string y27.val.str, .int .i64 y27.val.ref], .bool true, .int .i64 0] (rmA b S :: F) (SI.agg 4 26 2 (SI.agg 5 26 1 (SI.tmp 6 (SI.tmp 7 SI.nil)))) (fun _ h => h.re [0] [1, 1, 1]) ⟨?_, rfl⟩
     rw [hp]; rfl
    ·
     have c31 := not_f c29
     refine k_skip ?_
     refine xs_block ?_
     refine xs_then ?_
     refine k_reg ?_
     refine sp (.int .i64 (j : Int)) ?_
     refine s_lt (t_add (j : Int) 1 (by (try simp only [lnm]); omega)) ?_
     refine sp (.int .i64 ((j : Int) + 1)) ?_
     refine s_nil ?_
     refine xs_mem (fun _ h => rm_shut (S := S) hinv0 (h.re [0, 0] [])) ?_
     exact xs_round (j + 1) (by omega) ⟨by omega, by omega, next_step2 (by omega) hi22.2.2 hy28 c31⟩ (sub_of rfl ⟨⟨rfl, rfl⟩, ⟨⟨rfl, rfl⟩, ⟨⟨rfl, rfl⟩, ⟨⟨rfl, rfl⟩, trivial⟩⟩⟩⟩) (fun _ h => h.re [0, 0, 0, 0] [])
   ·
    have p32 := of_decide_eq_false c25
    refine k_exit ?_
    refine xs_exit ?_
    refine xs_exit ?_
    refine xs_here ?_
    refine xs_then ?_
    refine k_sr ?_
    refine s_lt (t_kern (.agg #[.int .i64 0, .int .i64 0, .int .i64 0, .string ByteArray.empty, .int .i64 0])) ?_
    refine s_lt (t_kern (.agg #[.int .i64 0, .int .i64 0, .int .i64 0, .string ByteArray.empty, .int .i64 0])) ?_
    refine s_store 3 #[.int .i64 0, .int .i64 0, .int .i64 0, .string ByteArray.empty, .int .i64 0] ?_
    refine s_store 2 #[.int .i64 0, .int .i64 0, .int .i64 0, .string ByteArray.empty, .int .i64 0] ?_
    refine sp (.bool false) ?_
    refine sp (.int .i64 0) ?_
    refine s_nt ?_
    refine k_ret ?_
    refine xs_mem (fun _ h => rm_shut (S := S) hinv0 (h.re [0, 0] [])) ?_
    have hr := next_end2 (a := (i13 + 1)) (by omega) hi22.2.2 (by omega)
    have hp : onext S k = (zVl, zVl, false, 0) := by rw [(onext_some (of_decide_eq_false c5) hl16)]; first | (rw [hr]; done) | (have hr0 : slotV (live S).head? = _ := hr; rw [hr0])
    refine xs_fin [.agg #[.int .i64 0, .int .i64 0, .int .i64 0, .string ByteArray.empty, .int .i64 0], .agg #[.int .i64 0, .int .i64 0, .int .i64 0, .string ByteArray.empty, .int .i64 0], .bool false, .int .i64 0] (rmA b S :: F) (SI.agg 4 26 2 (SI.agg 5 26 1 (SI.tmp 6 (SI.tmp 7 SI.nil)))) (fun _ h => h.re [0] [1, 1, 1]) ⟨?_, rfl⟩
    rw [hp]; rfl
 ·
  have c33 := not_f c4
  have p34 := of_decide_eq_true c33
  refine k_st ?_
  refine k_seq ?_
  refine k_sr ?_
  refine sp (.int .i64 (-1)) ?_
  refine sp (.int .i64 0) ?_
  refine sp (.int .i64 0) ?_
  refine s_nt ?_
  refine k_block ?_
  refine k_loop (ι := Nat) (fun j => 0 ≤ j ∧ j ≤ S.length ∧ live ((S.drop 0).take (j - 0)) = []) (fun j => [(0, pB b 0), (4, pB g2 0), (5, pB g3 0), (9, .int .i64 (j : Int))]) (fun j => blkA g3 #[.int .i64 0, .int .i64 0, .int .i64 0, .string ByteArray.empty, .int .i64 0] 26 :: blkA g2 #[.int .i64 0, .int .i64 0, .int .i64 0, .string ByteArray.empty, .int .i64 0] 26 :: blkA g1 #[.int .i64 k.kind, .int .i64 k.p, .int .i64 k.q, .string k.str, .int .i64 k.ref] 26 :: rmA b S :: F) (fun j => S.length - j) 0 ⟨Nat.le_refl _, by omega, by rw [Nat.sub_self]; rfl⟩ (sub_of rfl ⟨⟨rfl, rfl⟩, ⟨⟨rfl, rfl⟩, ⟨⟨rfl, rfl⟩, ⟨⟨rfl, rfl⟩, trivial⟩⟩⟩⟩) (fun _ h => h.re [0, 0, 0, 0] []) ?_
  rintro j hi35
  show SK _ _ _ _ _ [(0, .pointer (some ⟨b, 0, none⟩)), (4, .pointer (some ⟨g2, 0, none⟩)), (5, .pointer (some ⟨g3, 0, none⟩)), (9, .int .i64 (j : Int))] _ (blkA g3 #[.int .i64 0, .int .i64 0, .int .i64 0, .string ByteArray.empty, .int .i64 0] 26 :: blkA g2 #[.int .i64 0, .int .i64 0, .int .i64 0, .string ByteArray.empty, .int .i64 0] 26 :: blkA g1 #[.int .i64 k.kind, .int .i64 k.p, .int .i64 k.q, .string k.str, .int .i64 k.ref] 26 :: rmA b S :: F)
  refine k_seq ?_
  refine k_sr ?_
  refine sp (.int .i64 (j : Int)) ?_
  refine sp (pB b 0) ?_
  refine sp (pB b 0) ?_
  refine sp (pB b 0) ?_
  refine s_memX (fun H h => rm_open (h.re [3] [])) (fun sv36 hw => ?_)
  refine s_lt (t_load 0 sv36) ?_
  refine s_lt (t_len RSltT_ok Tryz.underlying145 (.own 1)) ?_
  refine s_lt t_cmp ?_
  refine s_nt ?_
  refine k_cond (decide ((j : Int) < (S.length : Int))) (fun c38 => ?_) (fun c38 => ?_)
  ·
   have p39 := of_decide_eq_true c38
   refine k_st ?_
   refine k_seq ?_
   refine k_block ?_
   refine k_sr ?_
   refine sp (pB b 0) ?_
   refine sp (pB b 0) ?_
   refine sp (pB b 0) ?_
   refine s_lt (t_load 0 sv36) ?_
   refine sp (.int .i64 (j : Int)) ?_
   refine s_lt (t_index RSltT_ok Tryz.underlying145 (.own 1) (j : Int) j (by omega) (by (try simp only [lnm]); omega) (by omega)) ?_
   refine sp (.pointer (some ((elemAt RSltT.size sv36 j).add 10))) ?_
   obtain ⟨y40, hy41⟩ : ∃ y, S[j]? = some y := ⟨_, List.getElem?_eq_getElem (by (try simp only [lnm]); omega)⟩
   refine s_lt (t_loadF 10 RSltT_ok (.own 1) hy41) ?_
   refine sp (.bool (!y40.gone)) ?_
   refine s_nt ?_
   refine k_cond (!y40.gone) (fun c42 => ?_) (fun c42 => ?_)
   ·
    have c43 := not_t c42
    refine k_seq ?_
    refine k_held [blkA b #[sv36] 147, own RSltT sv36 S, blkA g1 #[.int .i64 k.kind, .int .i64 k.p, .int .i64 k.q, .string k.str, .int .i64 k.ref] 26] ?_
    refine hp_ 0 [0, 0, 2] (pB b 0) ?_
    refine hp_ 1 [0, 0, 2] (pB b 0) ?_
    refine hp_ 2 [0, 0, 2] (pB b 0) ?_
    refine h_l 3 rfl [0, 0, 2] (fun _ => (t_load 0 sv36)) ?_
    refine hp_ 4 [0, 0, 2] (.int .i64 (j : Int)) ?_
    refine h_l 5 rfl [0, 0, 2] (fun _ => (t_index RSltT_ok Tryz.underlying145 (.own 1) (j : Int) j (by omega) (by (try simp only [lnm]); omega) (by omega))) ?_
    refine hp_ 6 [0, 0, 2] (.pointer (some (elemAt RSltT.size sv36 j))) ?_
    refine h_l 7 rfl [0, 0, 2] (fun _ => (t_loadG 0 #[.int .i64 y40.key.kind, .int .i64 y40.key.p, .int .i64 y40.key.q, .string y40.key.str, .int .i64 y40.key.ref] RSltT_ok (.own 1) hy41)) ?_
    refine hp_ 8 [0, 0, 2] (pB b 0) ?_
    refine hp_ 9 [0, 0, 2] (pB b 0) ?_
    refine hp_ 10 [0, 0, 2] (pB b 0) ?_
    refine h_l 11 rfl [0, 0, 2] (fun _ => (t_load 0 sv36)) ?_
    refine hp_ 12 [0, 0, 2] (.int .i64 (j : Int)) ?_
    refine h_l 13 rfl [0, 0, 2] (fun _ => (t_index RSltT_ok Tryz.underlying145 (.own 1) (j : Int) j (by omega) (by (try simp only [lnm]); omega) (by omega))) ?_
    refine hp_ 14 [0, 0, 2] (.pointer (some ((elemAt RSltT.size sv36 j).add 5))) ?_
    refine h_l 15 rfl [0, 0, 2] (fun _ => (t_loadG 5 #[.int .i64 y40.val.kind, .int .i64 y40.val.p, .int .i64 y40.val.q, .string y40.val.str, .int .i64 y40.val.ref] RSltT_ok (.own 1) hy41)) ?_
    refine h_stepS 16 ?_
    refine s_store 3 #[.int .i64 y40.key.kind, .int .i64 y40.key.p, .int .i64 y40.key.q, .string y40.key.str, .int .i64 y40.key.ref] ?_
    refine s_nil (xs_held [0, 0, 2] ?_)
    refine h_stepS 17 ?_
    refine s_store 2 #[.int .i64 y40.val.kind, .int .i64 y40.val.p, .int .i64 y40.val.q, .string y40.val.str, .int .i64 y40.val.ref] ?_
    refine s_nil (xs_held [0, 0, 2] ?_)
    refine hp_ 18 [0, 0, 2] (.bool true) ?_
    refine hp_ 19 [0, 0, 2] (.int .i64 0) ?_
    refine h_doneS ?_
    refine xs_then ?_
    refine k_ret ?_
    refine xs_retBlock ?_
    refine xs_ret ?_
    refine xs_ret ?_
    refine xs_retBlock ?_
    refine xs_ret ?_
    refine xs_mem (fun _ h => rm_shut (S := S) hinv0 (h.re [0, 0] [])) ?_
    have hz : k = zVl := (of_decide_eq_true c33)
    subst hz
    have hr := next_found2 (a := 0) (by omega) hi35.2.2 hy41 c43
    have hp : onext S zVl = (y40.key, y40.val, true, 0) := by rw [(onext_nil S)]; first | (rw [hr]; done) | (have hr0 : slotV (live S).head? = _ := hr; rw [hr0])
    refine xs_fin [.agg #[.int .i64 y40.key.kind, .int .i64 y40.key.p, .int .i64 y40.key.q, .string y40.key.str, .int .i64 y40.key.ref], .agg #[.int .i64 y40.val.kind, .int .i64 y40.val.p, .int .i64 y40.val.q, .string y40.val.str, .int .i64 y40.val.ref], .bool true, .int .i64 0] (rmA b S :: F) (SI.agg 4 26 2 (SI.agg 5 26 1 (SI.tmp 6 (SI.tmp 7 SI.nil)))) (fun _ h => h.re [0] [1, 1, 1]) ⟨?_, rfl⟩
    rw [hp]; rfl
   ·
    have c44 := not_f c42
    refine k_skip ?_
    refine xs_block ?_
    refine xs_then ?_
    refine k_reg ?_
    refine sp (.int .i64 (j : Int)) ?_
    refine s_lt (t_add (j : Int) 1 (by (try simp only [lnm]); omega)) ?_
    refine sp (.int .i64 ((j : Int) + 1)) ?_
    refine s_nil ?_
    refine xs_mem (fun _ h => rm_shut (S := S) hinv0 (h.re [0, 0] [])) ?_
    exact xs_round (j + 1) (by omega) ⟨by omega, by omega, next_step2 (by omega) hi35.2.2 hy41 c44⟩ (sub_of rfl ⟨⟨rfl, rfl⟩, ⟨⟨rfl, rfl⟩, ⟨⟨rfl, rfl⟩, ⟨⟨rfl, rfl⟩, trivial⟩⟩⟩⟩) (fun _ h => h.re [1, 1, 1, 0] [])
  ·
   have p45 := of_decide_eq_false c38
   refine k_exit ?_
   refine xs_exit ?_
   refine xs_exit ?_
   refine xs_here ?_
   refine xs_then ?_
   refine k_sr ?_
   refine s_lt (t_kern (.agg #[.int .i64 0, .int .i64 0, .int .i64 0, .string ByteArray.empty, .int .i64 0])) ?_
   refine s_lt (t_kern (.agg #[.int .i64 0, .int .i64 0, .int .i64 0, .string ByteArray.empty, .int .i64 0])) ?_
   refine s_store 3 #[.int .i64 0, .int .i64 0, .int .i64 0, .string ByteArray.empty, .int .i64 0] ?_
   refine s_store 2 #[.int .i64 0, .int .i64 0, .int .i64 0, .string ByteArray.empty, .int .i64 0] ?_
   refine sp (.bool false) ?_
   refine sp (.int .i64 0) ?_
   refine s_nt ?_
   refine k_ret ?_
   refine xs_mem (fun _ h => rm_shut (S := S) hinv0 (h.re [0, 0] [])) ?_
   have hz : k = zVl := (of_decide_eq_true c33)
   subst hz
   have hr := next_end2 (a := 0) (by omega) hi35.2.2 (by omega)
   have hp : onext S zVl = (zVl, zVl, false, 0) := by rw [(onext_nil S)]; first | (rw [hr]; done) | (have hr0 : slotV (live S).head? = _ := hr; rw [hr0])
   refine xs_fin [.agg #[.int .i64 0, .int .i64 0, .int .i64 0, .string ByteArray.empty, .int .i64 0], .agg #[.int .i64 0, .int .i64 0, .int .i64 0, .string ByteArray.empty, .int .i64 0], .bool false, .int .i64 0] (rmA b S :: F) (SI.agg 4 26 2 (SI.agg 5 26 1 (SI.tmp 6 (SI.tmp 7 SI.nil)))) (fun _ h => h.re [0] [1, 1, 1]) ⟨?_, rfl⟩
   rw [hp]; rfl
theorem rmset_s {Z : Zone} {F : List Asr} {b : Nat} {S : List Slt} (hs : S.length ≤ 1000000) (k v : Vl) : SF Tryz.prog 109 #[.pointer (some ⟨b, 0, none⟩), k.v, v.v] Z (rmA b S :: F) fun r Bs => r = .int .i64 (osetE k v) ∧ Bs = rmA b (osetL S k v) :: F := by
 refine sf_enter Tryz.func109 117 [(0, pB b 0), (1, .agg #[.int .i64 k.kind, .int .i64 k.p, .int .i64 k.q, .string k.str, .int .i64 k.ref]), (2, .agg #[.int .i64 v.kind, .int .i64 v.p, .int .i64 v.q, .string v.str, .int .i64 v.ref])] (fun w0 => ?_)
 refine k_fact (fun H h => rm_inv (h.re [0] [])) (fun hinv0 => ?_)
 refine k_sr ?_
 refine s_box #[.int .i64 k.kind, .int .i64 k.p, .int .i64 k.q, .string k.str, .int .i64 k.ref] (fun g1 => ?_)
 refine s_box #[.int .i64 v.kind, .int .i64 v.p, .int .i64 v.q, .string v.str, .int .i64 v.ref] (fun g2 => ?_)
 refine sp (.int .i64 0) ?_
 refine s_nt ?_
 refine k_seq ?_
 refine k_sr ?_
 refine sp (pB b 0) ?_
 refine sp (.bool false) ?_
 refine s_nt ?_
 refine k_false ?_
 refine k_st ?_
 refine k_seq ?_
 refine k_cut (ι := Unit) (fun _ => True) (fun _ => [(0, pB b 0), (4, pB g1 0), (5, pB g2 0), (20, .bool ((decide (k.kind = 0)) || (!(validB k))))]) (fun _ => blkA g2 #[.int .i64 v.kind, .int .i64 v.p, .int .i64 v.q, .string v.str, .int .i64 v.ref] 26 :: blkA g1 #[.int .i64 k.kind, .int .i64 k.p, .int .i64 k.q, .string k.str, .int .i64 k.ref] 26 :: rmA b S :: F) ?_ (fun _ _ => ?_)
 ·
  refine k_reg ?_
  refine sp (pB g1 0) ?_
  refine s_lt (t_load 1 (.int .i64 k.kind)) ?_
  refine s_lt t_cmp ?_
  refine sp (.bool (decide (k.kind = 0))) ?_
  refine s_fork 16 (decide (k.kind = 0)) (fun c3 => ?_) (fun c3 => ?_)
  ·
   have p4 := of_decide_eq_true c3
   refine s_skip ?_
   refine s_skip ?_
   refine s_skip ?_
   refine sp (.bool true) ?_
   refine s_nil ?_
   exact xs_cut () trivial (sub_of rfl ⟨⟨rfl, rfl⟩, ⟨⟨rfl, rfl⟩, ⟨⟨rfl, rfl⟩, ⟨⟨rfl, show Value.bool true = Value.bool ((decide (k.kind = 0)) || (!(validB k))) by first | (simp only [c3, bls]; done) | simp [c3]⟩, trivial⟩⟩⟩⟩) (fun _ h => h.re [0, 0, 0] [])
  ·
   have p5 := of_decide_eq_false c3
   refine s_lt (t_loadA 1 #[.int .i64 k.kind, .int .i64 k.p, .int .i64 k.q, .string k.str, .int .i64 k.ref]) ?_
   refine s_vcall (fun _ h => rvalid_s k) ?_
   rintro _ rfl
   refine sp (.bool (!(validB k))) ?_
   refine sp (.bool (!(validB k))) ?_
   refine s_nil ?_
   exact xs_cut () trivial (sub_of rfl ⟨⟨rfl, rfl⟩, ⟨⟨rfl, rfl⟩, ⟨⟨rfl, rfl⟩, ⟨⟨rfl, show Value.bool (!(validB k)) = Value.bool ((decide (k.kind = 0)) || (!(validB k))) by first | (simp only [c3, bls]; done) | simp [c3]⟩, trivial⟩⟩⟩⟩) (fun _ h => h.re [0, 0, 0] [])
 ·
  refine k_cond ((decide (k.kind = 0)) || (!(validB k))) (fun c6 => ?_) (fun c6 => ?_)
  ·
   have p7 := c6
   simp only [Bool.and_eq_true, Bool.or_eq_true, Bool.and_eq_false_iff, Bool.or_eq_false_iff, Bool.not_eq_true', Bool.not_eq_false', decide_eq_true_eq, decide_eq_false_iff_not] at p7
   refine k_sr ?_
   refine sp (.int .i64 13) ?_
   refine s_nt ?_
   refine k_ret ?_
   refine xs_ret ?_
   have hk := okKey_bad p7
   refine xs_fin [.int .i64 13] (rmA b S :: F) (SI.tmp 6 SI.nil) (fun _ h => h.re [2] [1, 1]) ⟨congrArg (Value.int .i64) (osetE_bad hk).symm, ?_⟩
   rw [osetL_bad (v := v) (.inl hk)]
  ·
   obtain ⟨c8, c9⟩ := or_f c6
   have p10 := of_decide_eq_false c8
   have c11 := not_f c9
   refine k_st ?_
   refine k_seq ?_
   refine k_sr ?_
   refine s_lt (t_loadA 0 #[.int .i64 v.kind, .int .i64 v.p, .int .i64 v.q, .string v.str, .int .i64 v.ref]) ?_
   refine s_vcall (fun _ h => rvalid_s v) ?_
   rintro _ rfl
   refine sp (.bool (!(validB v))) ?_
   refine s_nt ?_
   refine k_cond (!(validB v)) (fun c12 => ?_) (fun c12 => ?_)
   ·
    have c13 := not_t c12
    refine k_sr ?_
    refine sp (.int .i64 2) ?_
    refine s_nt ?_
    refine k_ret ?_
    refine xs_ret ?_
    have hk := okKey_good c8 c11
    refine xs_fin [.int .i64 2] (rmA b S :: F) (SI.tmp 6 SI.nil) (fun _ h => h.re [2] [1, 1]) ⟨congrArg (Value.int .i64) (osetE_val hk c13).symm, ?_⟩
    rw [osetL_bad (v := v) (.inr c13)]
   ·
    have c14 := not_f c12
    refine k_st ?_
    refine k_sr ?_
    refine sp (pB b 0) ?_
    refine s_lt (t_loadA 1 #[.int .i64 k.kind, .int .i64 k.p, .int .i64 k.q, .string k.str, .int .i64 k.ref]) ?_
    refine s_call [2] (rmfind_s (S := S) (by omega) k) ?_
    rintro u15 _ ⟨e16, rfl⟩
    rcases find_cases (S := S) k with ⟨hf17, hl18, ht19, hg20⟩ | ⟨i21, s22, hf23, hl24, hs25, hk26, hg27, ht28⟩
    ·
     rw [hf17] at e16; subst e16
     refine sp (.int .i64 (-1)) ?_
     refine s_nt ?_
     refine k_seq ?_
     refine k_sr ?_
     refine sp (pB g2 0) ?_
     refine s_lt (t_load 1 (.int .i64 v.kind)) ?_
     refine s_lt t_cmp ?_
     refine s_nt ?_
     refine k_cond (decide (v.kind = 0)) (fun c29 => ?_) (fun c29 => ?_)
     ·
      have p30 := of_decide_eq_true c29
      refine k_seq ?_
      refine k_sr ?_
      refine sp (.int .i64 (-1)) ?_
      refine s_lt (t_cmp (c := false)) ?_
      refine s_nt ?_
      refine k_false ?_
      refine k_st ?_
      refine k_sr ?_
      refine sp (.int .i64 0) ?_
      refine s_nt ?_
      refine k_ret ?_
      refine xs_ret ?_
      have hk := okKey_good c8 c11
      have hS : osetL S k v = S := by rw [osetL_rem hk c14 (of_decide_eq_true c29), ht19]
      refine xs_fin [.int .i64 0] (rmA b S :: F) (SI.tmp 6 SI.nil) (fun _ h => h.re [0] [1, 1]) ⟨congrArg (Value.int .i64) (osetE_ok hk c14).symm, ?_⟩
      rw [hS]
     ·
      have p31 := of_decide_eq_false c29
      refine k_st ?_
      refine k_seq ?_
      refine k_sr ?_
      refine sp (.int .i64 (-1)) ?_
      refine s_lt (t_cmp (c := false)) ?_
      refine sp (.bool false) ?_
      refine s_skip ?_
      refine s_skip ?_
      refine s_skip ?_
      refine s_skip ?_
      refine s_skip ?_
      refine s_skip ?_
      refine s_skip ?_
      refine s_skip ?_
      refine s_skip ?_
      refine sp (.bool false) ?_
      refine s_nt ?_
      refine k_false ?_
      refine k_st ?_
      refine k_sr ?_
      refine sp (pB b 0) ?_
      refine s_call [0] (rmlen_s (S := S) (by omega)) ?_
      rintro _ _ ⟨rfl, rfl⟩
      have hcl32 := cnt_le S
      refine sp (.int .i64 (cnt S : Int)) ?_
      refine s_nt ?_
      refine k_seq ?_
      refine k_sr ?_
      refine sp (pB b 0) ?_
      refine sp (pB b 0) ?_
      refine sp (pB b 0) ?_
      refine s_memX (fun H h => rm_open (h.re [0] [])) (fun sv33 hw => ?_)
      refine s_lt (t_load 0 sv33) ?_
      refine s_lt (t_len RSltT_ok Tryz.underlying145 (.own 1)) ?_
      refine sp (.int .i64 (cnt S : Int)) ?_
      refine s_lt (t_sub (S.length : Int) (cnt S : Int) (by (try simp only [lnm]); omega)) ?_
      refine sp (.int .i64 (cnt S : Int)) ?_
      refine s_lt (t_add (cnt S : Int) 8 (by (try simp only [lnm]); omega)) ?_
      refine s_lt t_cmp ?_
      refine s_nt ?_
      refine k_cond (decide (((cnt S : Int) + 8) < ((S.length : Int) - (cnt S : Int)))) (fun c35 => ?_) (fun c35 => ?_)
      ·
       have p36 := of_decide_eq_true c35
       refine k_sr ?_
       refine sp (.slice none 0 0) ?_
       refine s_nt ?_
       refine k_seq ?_
       refine k_sr ?_
       refine sp (.int .i64 0) ?_
       refine s_nt ?_
       refine k_block ?_
       refine k_mem (fun _ h => rm_shut (S := S) hinv0 (h.re [0, 0] [])) ?_
       refine k_mem (fun _ h => Holds.nilS (T := RSltT) h) ?_
       refine k_mem (Bs := own RSltT (.slice none 0 0) (live (S.take 0)) :: rmA b S :: blkA g2 #[.int .i64 v.kind, .int .i64 v.p, .int .i64 v.q, .string v.str, .int .i64 v.ref] 26 :: blkA g1 #[.int .i64 k.kind, .int .i64 k.p, .int .i64 k.q, .string k.str, .int .i64 k.ref] 26 :: F) (fun _ h => h) ?_
       refine k_loop (ι := Value × Nat) (fun (lx, i) => i ≤ S.length) (fun (lx, i) => [(0, pB b 0), (4, pB g1 0), (5, pB g2 0), (9, lx), (10, .int .i64 (i : Int))]) (fun (lx, i) => own RSltT lx (live (S.take i)) :: rmA b S :: blkA g2 #[.int .i64 v.kind, .int .i64 v.p, .int .i64 v.q, .string v.str, .int .i64 v.ref] 26 :: blkA g1 #[.int .i64 k.kind, .int .i64 k.p, .int .i64 k.q, .string k.str, .int .i64 k.ref] 26 :: F) (fun (lx, i) => S.length - i) ((.slice none 0 0), 0) (Nat.zero_le _) (sub_of rfl ⟨⟨rfl, rfl⟩, ⟨⟨rfl, rfl⟩, ⟨⟨rfl, rfl⟩, ⟨⟨rfl, rfl⟩, ⟨⟨rfl, rfl⟩, trivial⟩⟩⟩⟩⟩) (fun _ h => h.re [0, 0, 0, 0] []) ?_
       rintro ⟨lx, i⟩ hi37
       replace hi37 : i ≤ S.length := hi37
       show SK _ _ _ _ _ [(0, .pointer (some ⟨b, 0, none⟩)), (4, .pointer (some ⟨g1, 0, none⟩)), (5, .pointer (some ⟨g2, 0, none⟩)), (9, lx), (10, .int .i64 (i : Int))] _ (own RSltT lx (live (S.take i)) :: rmA b S :: blkA g2 #[.int .i64 v.kind, .int .i64 v.p, .int .i64 v.q, .string v.str, .int .i64 v.ref] 26 :: blkA g1 #[.int .i64 k.kind, .int .i64 k.p, .int .i64 k.q, .string k.str, .int .i64 k.ref] 26 :: F)
       have hli : (live (S.take i)).length ≤ i := Nat.le_trans (cnt_le _) (by rw [List.length_take]; omega)
       refine k_seq ?_
       refine k_sr ?_
       refine sp (.int .i64 (i : Int)) ?_
       refine sp (pB b 0) ?_
       refine sp (pB b 0) ?_
       refine sp (pB b 0) ?_
       refine s_memX (fun H h => rm_open (h.re [1] [])) (fun sv38 hw => ?_)
       refine s_lt (t_load 0 sv38) ?_
       refine s_lt (t_len RSltT_ok Tryz.underlying145 (.own 1)) ?_
       refine s_lt t_cmp ?_
       refine s_nt ?_
       refine k_cond (decide ((i : Int) < (S.length : Int))) (fun c40 => ?_) (fun c40 => ?_)
       ·
        have p41 := of_decide_eq_true c40
        refine k_st ?_
        refine k_seq ?_
        refine k_block ?_
        refine k_sr ?_
        refine sp (pB b 0) ?_
        refine sp (pB b 0) ?_
        refine sp (pB b 0) ?_
        refine s_lt (t_load 0 sv38) ?_
        refine sp (.int .i64 (i : Int)) ?_
        refine s_lt (t_index RSltT_ok Tryz.underlying145 (.own 1) (i : Int) i (by omega) (by (try simp only [lnm]); omega) (by omega)) ?_
        refine sp (.pointer (some ((elemAt RSltT.size sv38 i).add 10))) ?_
        obtain ⟨y42, hy43⟩ : ∃ y, S[i]? = some y := ⟨_, List.getElem?_eq_getElem (by (try simp only [lnm]); omega)⟩
        refine s_lt (t_loadF 10 RSltT_ok (.own 1) hy43) ?_
        refine sp (.bool (!y42.gone)) ?_
        refine s_nt ?_
        refine k_cond (!y42.gone) (fun c44 => ?_) (fun c44 => ?_)
        ·
         have c45 := not_t c44
         refine k_reg ?_
         refine sp lx ?_
         refine sp (pB b 0) ?_
         refine sp (pB b 0) ?_
         refine sp (pB b 0) ?_
         refine s_lt (t_load 0 sv38) ?_
         refine sp (.int .i64 (i : Int)) ?_
         refine s_lt (t_index RSltT_ok Tryz.underlying145 (.own 1) (i : Int) i (by omega) (by (try simp only [lnm]); omega) (by omega)) ?_
         refine s_lt (t_loadE RSltT_ok (.own 1) hy43) ?_
         refine s_buildSlice (e := 151) [(0, .agg #[.int .i64 y42.key.kind, .int .i64 y42.key.p, .int .i64 y42.key.q, .string y42.key.str, .int .i64 y42.key.ref, .int .i64 y42.val.kind, .int .i64 y42.val.p, .int .i64 y42.val.q, .string y42.val.str, .int .i64 y42.val.ref, .bool y42.gone])] #[.int .i64 y42.key.kind, .int .i64 y42.key.p, .int .i64 y42.key.q, .string y42.key.str, .int .i64 y42.key.ref, .int .i64 y42.val.kind, .int .i64 y42.val.p, .int .i64 y42.val.q, .string y42.val.str, .int .i64 y42.val.ref, .bool y42.gone] (fun g46 => ?_) (hb := by kernel_rfl)
         refine s_append (L := (live (S.take i))) 3 RSltT_ok Tryz.underlying145 (.lit 0 RSltT_ok [y42]) (by show _ * 104 ≤ _; (try simp only [lnm]); omega) (by (try simp only [lnm]); omega) (fun v47 => ?_)
         refine sp v47 ?_
         refine s_nil ?_
         refine xs_block ?_
         refine xs_then ?_
         refine k_reg ?_
         refine sp (.int .i64 (i : Int)) ?_
         refine s_lt (t_add (i : Int) 1 (by (try simp only [lnm]); omega)) ?_
         refine sp (.int .i64 ((i : Int) + 1)) ?_
         refine s_nil ?_
         have hks := live_take hy43
         rw [if_neg (by rw [c45]; decide)] at hks
         rw [← hks]
         refine xs_mem (fun _ h => rm_shut (S := S) hinv0 (h.re [1, 1] [])) ?_
         exact xs_round (v47, i + 1) (by show S.length - (i + 1) < S.length - i; omega) (by show i + 1 ≤ S.length; omega) (sub_of rfl ⟨⟨rfl, rfl⟩, ⟨⟨rfl, rfl⟩, ⟨⟨rfl, rfl⟩, ⟨⟨rfl, rfl⟩, ⟨⟨rfl, rfl⟩, trivial⟩⟩⟩⟩⟩) (fun _ h => h.re [2, 0, 1, 1] [4])
        ·
         have c48 := not_f c44
         refine k_skip ?_
         refine xs_block ?_
         refine xs_then ?_
         refine k_reg ?_
         refine sp (.int .i64 (i : Int)) ?_
         refine s_lt (t_add (i : Int) 1 (by (try simp only [lnm]); omega)) ?_
         refine sp (.int .i64 ((i : Int) + 1)) ?_
         refine s_nil ?_
         have hks := live_take hy43
         rw [if_pos c48] at hks
         rw [← hks]
         refine xs_mem (fun _ h => rm_shut (S := S) hinv0 (h.re [0, 0] [])) ?_
         exact xs_round (lx, i + 1) (by show S.length - (i + 1) < S.length - i; omega) (by show i + 1 ≤ S.length; omega) (sub_of rfl ⟨⟨rfl, rfl⟩, ⟨⟨rfl, rfl⟩, ⟨⟨rfl, rfl⟩, ⟨⟨rfl, rfl⟩, ⟨⟨rfl, rfl⟩, trivial⟩⟩⟩⟩⟩) (fun _ h => h.re [1, 0, 0, 0] [])
       ·
        have p49 := of_decide_eq_false c40
        refine k_exit ?_
        have hend : live (S.take i) = live S := by rw [List.take_of_length_le (by omega)]
        rw [hend]
        rw [hend] at hli
        have hinv1 := live_inv hinv0
        refine xs_exit ?_
        refine xs_exit ?_
        refine xs_here ?_
        refine xs_then ?_
        refine k_reg ?_
        refine sp (pB b 0) ?_
        refine sp lx ?_
        refine sp (pB b 0) ?_
        refine sp (pB b 0) ?_
        refine s_fact (fun H h => ((Acc.own (T := RSltT) (L := (live S)) 2 rfl) H h).form) (fun hf50 => ?_)
        refine s_store (u := lx) (m := 1) 0 #[lx] ?_ (hm := by (obtain ⟨_, _, e⟩ := hf50; rw [e]; rfl)) (h1 := by (obtain ⟨_, _, e⟩ := hf50; rw [e]; rfl)) (ha' := by (obtain ⟨_, _, e⟩ := hf50; rw [e]; rfl))
        refine s_nt ?_
        refine k_seq ?_
        refine k_draw ?_
        refine sp (pB b 0) ?_
        refine sp (pB b 0) ?_
        refine sp (pB b 0) ?_
        refine sp (pB b 0) ?_
        refine s_lt (t_load 0 lx) ?_
        refine s_lt (t_loadA 4 #[.int .i64 k.kind, .int .i64 k.p, .int .i64 k.q, .string k.str, .int .i64 k.ref]) ?_
        refine s_lt (t_loadA 3 #[.int .i64 v.kind, .int .i64 v.p, .int .i64 v.q, .string v.str, .int .i64 v.ref]) ?_
        refine s_lt (t_kern (.agg #[.int .i64 k.kind, .int .i64 k.p, .int .i64 k.q, .string k.str, .int .i64 k.ref, .int .i64 v.kind, .int .i64 v.p, .int .i64 v.q, .string v.str, .int .i64 v.ref, .bool false])) ?_
        refine s_buildSlice (e := 151) [(0, .agg #[.int .i64 k.kind, .int .i64 k.p, .int .i64 k.q, .string k.str, .int .i64 k.ref, .int .i64 v.kind, .int .i64 v.p, .int .i64 v.q, .string v.str, .int .i64 v.ref, .bool false])] #[.int .i64 k.kind, .int .i64 k.p, .int .i64 k.q, .string k.str, .int .i64 k.ref, .int .i64 v.kind, .int .i64 v.p, .int .i64 v.q, .string v.str, .int .i64 v.ref, .bool false] (fun g51 => ?_) (hb := by kernel_rfl)
        refine s_append (L := (live S)) 3 RSltT_ok Tryz.underlying145 (.lit 0 RSltT_ok [(⟨k, v, false⟩ : Slt)]) (by show _ * 104 ≤ _; (try simp only [lnm]); omega) (by (try simp only [lnm]); omega) (fun v52 => ?_)
        refine sp (pB b 0) ?_
        refine sp (pB b 0) ?_
        refine s_fact (fun H h => ((Acc.own (T := RSltT) (L := ((live S) ++ [(⟨k, v, false⟩ : Slt)])) 3 rfl) H h).form) (fun hf53 => ?_)
        refine s_store (u := v52) (m := 1) 1 #[v52] ?_ (hm := by (obtain ⟨_, _, e⟩ := hf53; rw [e]; rfl)) (h1 := by (obtain ⟨_, _, e⟩ := hf53; rw [e]; rfl)) (ha' := by (obtain ⟨_, _, e⟩ := hf53; rw [e]; rfl))
        refine s_nil ?_
        refine x_dynS (fun _ h => by kernel_rfl) ?_
        refine xs_then ?_
        refine k_sr ?_
        refine sp (.int .i64 0) ?_
        refine s_nt ?_
        refine k_ret ?_
        have hk := okKey_good c8 c11
        have hcl := cnt_le S
        have hS : osetL S k v = ((live S) ++ [(⟨k, v, false⟩ : Slt)]) := by rw [osetL_put hk c14 (of_decide_eq_false c29), ht19]; show (if _ then _ else _) ++ _ = _; rw [if_pos (by have hx := of_decide_eq_true c35; omega)]
        refine xs_mem (fun _ h => rm_shut (S := ((live S) ++ [(⟨k, v, false⟩ : Slt)])) (by rw [← hS]; exact osetL_inv hinv0 k v) (h.re [1, 2] [])) ?_
        refine xs_fin [.int .i64 0] (rmA b ((live S) ++ [(⟨k, v, false⟩ : Slt)]) :: F) (SI.tmp 6 SI.nil) (fun _ h => h.re [0] [1, 1, 1, 1]) ⟨congrArg (Value.int .i64) (osetE_ok hk c14).symm, ?_⟩
        rw [hS]
      ·
       have p54 := of_decide_eq_false c35
       refine k_st ?_
       refine k_seq ?_
       refine k_draw ?_
       refine sp (pB b 0) ?_
       refine sp (pB b 0) ?_
       refine sp (pB b 0) ?_
       refine sp (pB b 0) ?_
       refine s_lt (t_load 0 sv33) ?_
       refine s_lt (t_loadA 3 #[.int .i64 k.kind, .int .i64 k.p, .int .i64 k.q, .string k.str, .int .i64 k.ref]) ?_
       refine s_lt (t_loadA 2 #[.int .i64 v.kind, .int .i64 v.p, .int .i64 v.q, .string v.str, .int .i64 v.ref]) ?_
       refine s_lt (t_kern (.agg #[.int .i64 k.kind, .int .i64 k.p, .int .i64 k.q, .string k.str, .int .i64 k.ref, .int .i64 v.kind, .int .i64 v.p, .int .i64 v.q, .string v.str, .int .i64 v.ref, .bool false])) ?_
       refine s_buildSlice (e := 151) [(0, .agg #[.int .i64 k.kind, .int .i64 k.p, .int .i64 k.q, .string k.str, .int .i64 k.ref, .int .i64 v.kind, .int .i64 v.p, .int .i64 v.q, .string v.str, .int .i64 v.ref, .bool false])] #[.int .i64 k.kind, .int .i64 k.p, .int .i64 k.q, .string k.str, .int .i64 k.ref, .int .i64 v.kind, .int .i64 v.p, .int .i64 v.q, .string v.str, .int .i64 v.ref, .bool false] (fun g55 => ?_) (hb := by kernel_rfl)
       refine s_append (L := S) 2 RSltT_ok Tryz.underlying145 (.lit 0 RSltT_ok [(⟨k, v, false⟩ : Slt)]) (by show _ * 104 ≤ _; (try simp only [lnm]); omega) (by (try simp only [lnm]); omega) (fun v56 => ?_)
       refine sp (pB b 0) ?_
       refine sp (pB b 0) ?_
       refine s_fact (fun H h => ((Acc.own (T := RSltT) (L := (S ++ [(⟨k, v, false⟩ : Slt)])) 2 rfl) H h).form) (fun hf57 => ?_)
       refine s_store (u := v56) (m := 1) 1 #[v56] ?_ (hm := by (obtain ⟨_, _, e⟩ := hf57; rw [e]; rfl)) (h1 := by (obtain ⟨_, _, e⟩ := hf57; rw [e]; rfl)) (ha' := by (obtain ⟨_, _, e⟩ := hf57; rw [e]; rfl))
       refine s_nil ?_
       refine x_dynS (fun _ h => by kernel_rfl) ?_
       refine xs_then ?_
       refine k_sr ?_
       refine sp (.int .i64 0) ?_
       refine s_nt ?_
       refine k_ret ?_
       have hk := okKey_good c8 c11
       have hcl := cnt_le S
       have hS : osetL S k v = (S ++ [(⟨k, v, false⟩ : Slt)]) := by rw [osetL_put hk c14 (of_decide_eq_false c29), ht19]; show (if _ then _ else _) ++ _ = _; rw [if_neg (by have hx := of_decide_eq_false c35; omega)]
       refine xs_mem (fun _ h => rm_shut (S := (S ++ [(⟨k, v, false⟩ : Slt)])) (by rw [← hS]; exact osetL_inv hinv0 k v) (h.re [1, 1] [])) ?_
       refine xs_fin [.int .i64 0] (rmA b (S ++ [(⟨k, v, false⟩ : Slt)]) :: F) (SI.tmp 6 SI.nil) (fun _ h => h.re [0] [1, 1, 1]) ⟨congrArg (Value.int .i64) (osetE_ok hk c14).symm, ?_⟩
       rw [hS]
    ·
     rw [hf23] at e16; subst e16
     have hlt58 : i21 < S.length := (List.getElem?_eq_some_iff.1 hs25).1
     refine sp (.int .i64 (i21 : Int)) ?_
     refine s_nt ?_
     refine k_seq ?_
     refine k_sr ?_
     refine sp (pB g2 0) ?_
     refine s_lt (t_load 1 (.int .i64 v.kind)) ?_
     refine s_lt t_cmp ?_
     refine s_nt ?_
     refine k_cond (decide (v.kind = 0)) (fun c59 => ?_) (fun c59 => ?_)
     ·
      have p60 := of_decide_eq_true c59
      refine k_seq ?_
      refine k_sr ?_
      refine sp (.int .i64 (i21 : Int)) ?_
      refine s_lt (Lt.to t_cmp (congrArg Value.bool (decide_eq_true (by omega) : (decide ((0 : Int) ≤ (i21 : Int))) = true))) ?_
      refine s_nt ?_
      refine k_true ?_
      refine k_draw ?_
      refine sp (pB b 0) ?_
      refine sp (pB b 0) ?_
      refine sp (pB b 0) ?_
      refine s_memX (fun H h => rm_open (h.re [0] [])) (fun sv61 hw => ?_)
      refine s_lt (t_load 0 sv61) ?_
      refine sp (.int .i64 (i21 : Int)) ?_
      refine s_lt (t_loadA 3 #[.int .i64 k.kind, .int .i64 k.p, .int .i64 k.q, .string k.str, .int .i64 k.ref]) ?_
      refine s_lt (t_kern (.agg #[.int .i64 k.kind, .int .i64 k.p, .int .i64 k.q, .string k.str, .int .i64 k.ref, .int .i64 0, .int .i64 0, .int .i64 0, .string ByteArray.empty, .int .i64 0, .bool true])) ?_
      refine s_lt (t_index RSltT_ok Tryz.underlying145 (.own 1) (i21 : Int) i21 (by omega) (by (try simp only [lnm]); omega) (by omega)) ?_
      refine s_storeE 1 0 (⟨k, zVl, true⟩ : Slt) RSltT_ok hs25 ?_
      refine s_nil ?_
      refine x_dynS (fun _ h => by kernel_rfl) ?_
      refine xs_then ?_
      refine k_sr ?_
      refine sp (.int .i64 0) ?_
      refine s_nt ?_
      refine k_ret ?_
      refine xs_ret ?_
      have hk := okKey_good c8 c11
      have hS : osetL S k v = (S.set i21 (⟨k, zVl, true⟩ : Slt)) := by rw [osetL_rem hk c14 (of_decide_eq_true c59), ht28]; cases hg : s22.gone with | true => exact set_gone hinv0 hs25 hk26 hg | false => rfl
      refine xs_mem (fun _ h => rm_shut (S := (S.set i21 (⟨k, zVl, true⟩ : Slt))) (by rw [← hS]; exact osetL_inv hinv0 k v) (h.re [0, 0] [])) ?_
      refine xs_fin [.int .i64 0] (rmA b (S.set i21 (⟨k, zVl, true⟩ : Slt)) :: F) (SI.tmp 6 SI.nil) (fun _ h => h.re [0] [1, 1]) ⟨congrArg (Value.int .i64) (osetE_ok hk c14).symm, ?_⟩
      rw [hS]
     ·
      have p63 := of_decide_eq_false c59
      refine k_st ?_
      refine k_seq ?_
      refine k_sr ?_
      refine sp (.int .i64 (i21 : Int)) ?_
      refine s_lt (Lt.to t_cmp (congrArg Value.bool (decide_eq_true (by omega) : (decide ((0 : Int) ≤ (i21 : Int))) = true))) ?_
      refine sp (.bool true) ?_
      refine sp (pB b 0) ?_
      refine sp (pB b 0) ?_
      refine sp (pB b 0) ?_
      refine s_memX (fun H h => rm_open (h.re [0] [])) (fun sv64 hw => ?_)
      refine s_lt (t_load 0 sv64) ?_
      refine sp (.int .i64 (i21 : Int)) ?_
      refine s_lt (t_index RSltT_ok Tryz.underlying145 (.own 1) (i21 : Int) i21 (by omega) (by (try simp only [lnm]); omega) (by omega)) ?_
      refine sp (.pointer (some ((elemAt RSltT.size sv64 i21).add 10))) ?_
      refine s_lt (t_loadF 10 RSltT_ok (.own 1) hs25) ?_
      refine sp (.bool (!s22.gone)) ?_
      refine sp (.bool (!s22.gone)) ?_
      refine s_nt ?_
      refine k_cond (!s22.gone) (fun c66 => ?_) (fun c66 => ?_)
      ·
       have c67 := not_t c66
       refine k_seq ?_
       refine k_draw ?_
       refine sp (pB b 0) ?_
       refine sp (pB b 0) ?_
       refine sp (pB b 0) ?_
       refine s_lt (t_load 0 sv64) ?_
       refine sp (.int .i64 (i21 : Int)) ?_
       refine s_lt (t_loadA 2 #[.int .i64 v.kind, .int .i64 v.p, .int .i64 v.q, .string v.str, .int .i64 v.ref]) ?_
       refine s_lt (t_index RSltT_ok Tryz.underlying145 (.own 1) (i21 : Int) i21 (by omega) (by (try simp only [lnm]); omega) (by omega)) ?_
       refine sp (.pointer (some ((elemAt RSltT.size sv64 i21).add 5))) ?_
       refine s_storeE 1 5 (⟨s22.key, v, s22.gone⟩ : Slt) RSltT_ok hs25 ?_
       refine s_nil ?_
       refine x_dynS (fun _ h => by kernel_rfl) ?_
       refine xs_then ?_
       refine k_sr ?_
       refine sp (.int .i64 0) ?_
       refine s_nt ?_
       refine k_ret ?_
       refine xs_ret ?_
       have hk := okKey_good c8 c11
       have hS : osetL S k v = (S.set i21 (⟨s22.key, v, s22.gone⟩ : Slt)) := by rw [osetL_put hk c14 (of_decide_eq_false c59), ht28, if_neg (by rw [c67]; decide), hk26, c67]
       refine xs_mem (fun _ h => rm_shut (S := (S.set i21 (⟨s22.key, v, s22.gone⟩ : Slt))) (by rw [← hS]; exact osetL_inv hinv0 k v) (h.re [0, 0] [])) ?_
       refine xs_fin [.int .i64 0] (rmA b (S.set i21 (⟨s22.key, v, s22.gone⟩ : Slt)) :: F) (SI.tmp 6 SI.nil) (fun _ h => h.re [0] [1, 1]) ⟨congrArg (Value.int .i64) (osetE_ok hk c14).symm, ?_⟩
       rw [hS]
      ·
       have c68 := not_f c66
       refine k_st ?_
       refine k_sr ?_
       refine sp (pB b 0) ?_
       refine s_mem (fun _ h => rm_shut (S := S) hinv0 (h.re [0, 0] [])) ?_
       refine s_call [0] (rmlen_s (S := S) (by omega)) ?_
       rintro _ _ ⟨rfl, rfl⟩
       have hcl69 := cnt_le S
       refine sp (.int .i64 (cnt S : Int)) ?_
       refine s_nt ?_
       refine k_seq ?_
       refine k_sr ?_
       refine sp (pB b 0) ?_
       refine sp (pB b 0) ?_
       refine sp (pB b 0) ?_
       refine s_memX (fun H h => rm_open (h.re [0] [])) (fun sv70 hw => ?_)
       refine s_lt (t_load 0 sv70) ?_
       refine s_lt (t_len RSltT_ok Tryz.underlying145 (.own 1)) ?_
       refine sp (.int .i64 (cnt S : Int)) ?_
       refine s_lt (t_sub (S.length : Int) (cnt S : Int) (by (try simp only [lnm]); omega)) ?_
       refine sp (.int .i64 (cnt S : Int)) ?_
       refine s_lt (t_add (cnt S : Int) 8 (by (try simp only [lnm]); omega)) ?_
       refine s_lt t_cmp ?_
       refine s_nt ?_
       refine k_cond (decide (((cnt S : Int) + 8) < ((S.length : Int) - (cnt S : Int)))) (fun c72 => ?_) (fun c72 => ?_)
       ·
        have p73 := of_decide_eq_true c72
        refine k_sr ?_
        refine sp (.slice none 0 0) ?_
        refine s_nt ?_
        refine k_seq ?_
        refine k_sr ?_
        refine sp (.int .i64 0) ?_
        refine s_nt ?_
        refine k_block ?_
        refine k_mem (fun _ h => rm_shut (S := S) hinv0 (h.re [0, 0] [])) ?_
        refine k_mem (fun _ h => Holds.nilS (T := RSltT) h) ?_
        refine k_mem (Bs := own RSltT (.slice none 0 0) (live (S.take 0)) :: rmA b S :: blkA g2 #[.int .i64 v.kind, .int .i64 v.p, .int .i64 v.q, .string v.str, .int .i64 v.ref] 26 :: blkA g1 #[.int .i64 k.kind, .int .i64 k.p, .int .i64 k.q, .string k.str, .int .i64 k.ref] 26 :: F) (fun _ h => h) ?_
        refine k_loop (ι := Value × Nat) (fun (lx, i) => i ≤ S.length) (fun (lx, i) => [(0, pB b 0), (4, pB g1 0), (5, pB g2 0), (9, lx), (10, .int .i64 (i : Int))]) (fun (lx, i) => own RSltT lx (live (S.take i)) :: rmA b S :: blkA g2 #[.int .i64 v.kind, .int .i64 v.p, .int .i64 v.q, .string v.str, .int .i64 v.ref] 26 :: blkA g1 #[.int .i64 k.kind, .int .i64 k.p, .int .i64 k.q, .string k.str, .int .i64 k.ref] 26 :: F) (fun (lx, i) => S.length - i) ((.slice none 0 0), 0) (Nat.zero_le _) (sub_of rfl ⟨⟨rfl, rfl⟩, ⟨⟨rfl, rfl⟩, ⟨⟨rfl, rfl⟩, ⟨⟨rfl, rfl⟩, ⟨⟨rfl, rfl⟩, trivial⟩⟩⟩⟩⟩) (fun _ h => h.re [0, 0, 0, 0] []) ?_
        rintro ⟨lx, i⟩ hi74
        replace hi74 : i ≤ S.length := hi74
        show SK _ _ _ _ _ [(0, .pointer (some ⟨b, 0, none⟩)), (4, .pointer (some ⟨g1, 0, none⟩)), (5, .pointer (some ⟨g2, 0, none⟩)), (9, lx), (10, .int .i64 (i : Int))] _ (own RSltT lx (live (S.take i)) :: rmA b S :: blkA g2 #[.int .i64 v.kind, .int .i64 v.p, .int .i64 v.q, .string v.str, .int .i64 v.ref] 26 :: blkA g1 #[.int .i64 k.kind, .int .i64 k.p, .int .i64 k.q, .string k.str, .int .i64 k.ref] 26 :: F)
        have hli : (live (S.take i)).length ≤ i := Nat.le_trans (cnt_le _) (by rw [List.length_take]; omega)
        refine k_seq ?_
        refine k_sr ?_
        refine sp (.int .i64 (i : Int)) ?_
        refine sp (pB b 0) ?_
        refine sp (pB b 0) ?_
        refine sp (pB b 0) ?_
        refine s_memX (fun H h => rm_open (h.re [1] [])) (fun sv75 hw => ?_)
        refine s_lt (t_load 0 sv75) ?_
        refine s_lt (t_len RSltT_ok Tryz.underlying145 (.own 1)) ?_
        refine s_lt t_cmp ?_
        refine s_nt ?_
        refine k_cond (decide ((i : Int) < (S.length : Int))) (fun c77 => ?_) (fun c77 => ?_)
        ·
         have p78 := of_decide_eq_true c77
         refine k_st ?_
         refine k_seq ?_
         refine k_block ?_
         refine k_sr ?_
         refine sp (pB b 0) ?_
         refine sp (pB b 0) ?_
         refine sp (pB b 0) ?_
         refine s_lt (t_load 0 sv75) ?_
         refine sp (.int .i64 (i : Int)) ?_
         refine s_lt (t_index RSltT_ok Tryz.underlying145 (.own 1) (i : Int) i (by omega) (by (try simp only [lnm]); omega) (by omega)) ?_
         refine sp (.pointer (some ((elemAt RSltT.size sv75 i).add 10))) ?_
         obtain ⟨y79, hy80⟩ : ∃ y, S[i]? = some y := ⟨_, List.getElem?_eq_getElem (by (try simp only [lnm]); omega)⟩
         refine s_lt (t_loadF 10 RSltT_ok (.own 1) hy80) ?_
         refine sp (.bool (!y79.gone)) ?_
         refine s_nt ?_
         refine k_cond (!y79.gone) (fun c81 => ?_) (fun c81 => ?_)
         ·
          have c82 := not_t c81
          refine k_reg ?_
          refine sp lx ?_
          refine sp (pB b 0) ?_
          refine sp (pB b 0) ?_
          refine sp (pB b 0) ?_
          refine s_lt (t_load 0 sv75) ?_
          refine sp (.int .i64 (i : Int)) ?_
          refine s_lt (t_index RSltT_ok Tryz.underlying145 (.own 1) (i : Int) i (by omega) (by (try simp only [lnm]); omega) (by omega)) ?_
          refine s_lt (t_loadE RSltT_ok (.own 1) hy80) ?_
          refine s_buildSlice (e := 151) [(0, .agg #[.int .i64 y79.key.kind, .int .i64 y79.key.p, .int .i64 y79.key.q, .string y79.key.str, .int .i64 y79.key.ref, .int .i64 y79.val.kind, .int .i64 y79.val.p, .int .i64 y79.val.q, .string y79.val.str, .int .i64 y79.val.ref, .bool y79.gone])] #[.int .i64 y79.key.kind, .int .i64 y79.key.p, .int .i64 y79.key.q, .string y79.key.str, .int .i64 y79.key.ref, .int .i64 y79.val.kind, .int .i64 y79.val.p, .int .i64 y79.val.q, .string y79.val.str, .int .i64 y79.val.ref, .bool y79.gone] (fun g83 => ?_) (hb := by kernel_rfl)
          refine s_append (L := (live (S.take i))) 3 RSltT_ok Tryz.underlying145 (.lit 0 RSltT_ok [y79]) (by show _ * 104 ≤ _; (try simp only [lnm]); omega) (by (try simp only [lnm]); omega) (fun v84 => ?_)
          refine sp v84 ?_
          refine s_nil ?_
          refine xs_block ?_
          refine xs_then ?_
          refine k_reg ?_
          refine sp (.int .i64 (i : Int)) ?_
          refine s_lt (t_add (i : Int) 1 (by (try simp only [lnm]); omega)) ?_
          refine sp (.int .i64 ((i : Int) + 1)) ?_
          refine s_nil ?_
          have hks := live_take hy80
          rw [if_neg (by rw [c82]; decide)] at hks
          rw [← hks]
          refine xs_mem (fun _ h => rm_shut (S := S) hinv0 (h.re [1, 1] [])) ?_
          exact xs_round (v84, i + 1) (by show S.length - (i + 1) < S.length - i; omega) (by show i + 1 ≤ S.length; omega) (sub_of rfl ⟨⟨rfl, rfl⟩, ⟨⟨rfl, rfl⟩, ⟨⟨rfl, rfl⟩, ⟨⟨rfl, rfl⟩, ⟨⟨rfl, rfl⟩, trivial⟩⟩⟩⟩⟩) (fun _ h => h.re [2, 0, 1, 1] [4])
         ·
          have c85 := not_f c81
          refine k_skip ?_
          refine xs_block ?_
          refine xs_then ?_
          refine k_reg ?_
          refine sp (.int .i64 (i : Int)) ?_
          refine s_lt (t_add (i : Int) 1 (by (try simp only [lnm]); omega)) ?_
          refine sp (.int .i64 ((i : Int) + 1)) ?_
          refine s_nil ?_
          have hks := live_take hy80
          rw [if_pos c85] at hks
          rw [← hks]
          refine xs_mem (fun _ h => rm_shut (S := S) hinv0 (h.re [0, 0] [])) ?_
          exact xs_round (lx, i + 1) (by show S.length - (i + 1) < S.length - i; omega) (by show i + 1 ≤ S.length; omega) (sub_of rfl ⟨⟨rfl, rfl⟩, ⟨⟨rfl, rfl⟩, ⟨⟨rfl, rfl⟩, ⟨⟨rfl, rfl⟩, ⟨⟨rfl, rfl⟩, trivial⟩⟩⟩⟩⟩) (fun _ h => h.re [1, 0, 0, 0] [])
        ·
         have p86 := of_decide_eq_false c77
         refine k_exit ?_
         have hend : live (S.take i) = live S := by rw [List.take_of_length_le (by omega)]
         rw [hend]
         rw [hend] at hli
         have hinv1 := live_inv hinv0
         refine xs_exit ?_
         refine xs_exit ?_
         refine xs_here ?_
         refine xs_then ?_
         refine k_reg ?_
         refine sp (pB b 0) ?_
         refine sp lx ?_
         refine sp (pB b 0) ?_
         refine sp (pB b 0) ?_
         refine s_fact (fun H h => ((Acc.own (T := RSltT) (L := (live S)) 2 rfl) H h).form) (fun hf87 => ?_)
         refine s_store (u := lx) (m := 1) 0 #[lx] ?_ (hm := by (obtain ⟨_, _, e⟩ := hf87; rw [e]; rfl)) (h1 := by (obtain ⟨_, _, e⟩ := hf87; rw [e]; rfl)) (ha' := by (obtain ⟨_, _, e⟩ := hf87; rw [e]; rfl))
         refine s_nt ?_
         refine k_seq ?_
         refine k_draw ?_
         refine sp (pB b 0) ?_
         refine sp (pB b 0) ?_
         refine sp (pB b 0) ?_
         refine sp (pB b 0) ?_
         refine s_lt (t_load 0 lx) ?_
         refine s_lt (t_loadA 4 #[.int .i64 k.kind, .int .i64 k.p, .int .i64 k.q, .string k.str, .int .i64 k.ref]) ?_
         refine s_lt (t_loadA 3 #[.int .i64 v.kind, .int .i64 v.p, .int .i64 v.q, .string v.str, .int .i64 v.ref]) ?_
         refine s_lt (t_kern (.agg #[.int .i64 k.kind, .int .i64 k.p, .int .i64 k.q, .string k.str, .int .i64 k.ref, .int .i64 v.kind, .int .i64 v.p, .int .i64 v.q, .string v.str, .int .i64 v.ref, .bool false])) ?_
         refine s_buildSlice (e := 151) [(0, .agg #[.int .i64 k.kind, .int .i64 k.p, .int .i64 k.q, .string k.str, .int .i64 k.ref, .int .i64 v.kind, .int .i64 v.p, .int .i64 v.q, .string v.str, .int .i64 v.ref, .bool false])] #[.int .i64 k.kind, .int .i64 k.p, .int .i64 k.q, .string k.str, .int .i64 k.ref, .int .i64 v.kind, .int .i64 v.p, .int .i64 v.q, .string v.str, .int .i64 v.ref, .bool false] (fun g88 => ?_) (hb := by kernel_rfl)
         refine s_append (L := (live S)) 3 RSltT_ok Tryz.underlying145 (.lit 0 RSltT_ok [(⟨k, v, false⟩ : Slt)]) (by show _ * 104 ≤ _; (try simp only [lnm]); omega) (by (try simp only [lnm]); omega) (fun v89 => ?_)
         refine sp (pB b 0) ?_
         refine sp (pB b 0) ?_
         refine s_fact (fun H h => ((Acc.own (T := RSltT) (L := ((live S) ++ [(⟨k, v, false⟩ : Slt)])) 3 rfl) H h).form) (fun hf90 => ?_)
         refine s_store (u := v89) (m := 1) 1 #[v89] ?_ (hm := by (obtain ⟨_, _, e⟩ := hf90; rw [e]; rfl)) (h1 := by (obtain ⟨_, _, e⟩ := hf90; rw [e]; rfl)) (ha' := by (obtain ⟨_, _, e⟩ := hf90; rw [e]; rfl))
         refine s_nil ?_
         refine x_dynS (fun _ h => by kernel_rfl) ?_
         refine xs_then ?_
         refine k_sr ?_
         refine sp (.int .i64 0) ?_
         refine s_nt ?_
         refine k_ret ?_
         have hk := okKey_good c8 c11
         have hcl := cnt_le S
         have hS : osetL S k v = ((live S) ++ [(⟨k, v, false⟩ : Slt)]) := by rw [osetL_put hk c14 (of_decide_eq_false c59), ht28, if_pos c68]; show (if _ then _ else _) ++ _ = _; rw [if_pos (by have hx := of_decide_eq_true c72; omega)]
         refine xs_mem (fun _ h => rm_shut (S := ((live S) ++ [(⟨k, v, false⟩ : Slt)])) (by rw [← hS]; exact osetL_inv hinv0 k v) (h.re [1, 2] [])) ?_
         refine xs_fin [.int .i64 0] (rmA b ((live S) ++ [(⟨k, v, false⟩ : Slt)]) :: F) (SI.tmp 6 SI.nil) (fun _ h => h.re [0] [1, 1, 1, 1]) ⟨congrArg (Value.int .i64) (osetE_ok hk c14).symm, ?_⟩
         rw [hS]
       ·
        have p91 := of_decide_eq_false c72
        refine k_st ?_
        refine k_seq ?_
        refine k_draw ?_
        refine sp (pB b 0) ?_
        refine sp (pB b 0) ?_
        refine sp (pB b 0) ?_
        refine sp (pB b 0) ?_
        refine s_lt (t_load 0 sv70) ?_
        refine s_lt (t_loadA 3 #[.int .i64 k.kind, .int .i64 k.p, .int .i64 k.q, .string k.str, .int .i64 k.ref]) ?_
        refine s_lt (t_loadA 2 #[.int .i64 v.kind, .int .i64 v.p, .int .i64 v.q, .string v.str, .int .i64 v.ref]) ?_
        refine s_lt (t_kern (.agg #[.int .i64 k.kind, .int .i64 k.p, .int .i64 k.q, .string k.str, .int .i64 k.ref, .int .i64 v.kind, .int .i64 v.p, .int .i64 v.q, .string v.str, .int .i64 v.ref, .bool false])) ?_
        refine s_buildSlice (e := 151) [(0, .agg #[.int .i64 k.kind, .int .i64 k.p, .int .i64 k.q, .string k.str, .int .i64 k.ref, .int .i64 v.kind, .int .i64 v.p, .int .i64 v.q, .string v.str, .int .i64 v.ref, .bool false])] #[.int .i64 k.kind, .int .i64 k.p, .int .i64 k.q, .string k.str, .int .i64 k.ref, .int .i64 v.kind, .int .i64 v.p, .int .i64 v.q, .string v.str, .int .i64 v.ref, .bool false] (fun g92 => ?_) (hb := by kernel_rfl)
        refine s_append (L := S) 2 RSltT_ok Tryz.underlying145 (.lit 0 RSltT_ok [(⟨k, v, false⟩ : Slt)]) (by show _ * 104 ≤ _; (try simp only [lnm]); omega) (by (try simp only [lnm]); omega) (fun v93 => ?_)
        refine sp (pB b 0) ?_
        refine sp (pB b 0) ?_
        refine s_fact (fun H h => ((Acc.own (T := RSltT) (L := (S ++ [(⟨k, v, false⟩ : Slt)])) 2 rfl) H h).form) (fun hf94 => ?_)
        refine s_store (u := v93) (m := 1) 1 #[v93] ?_ (hm := by (obtain ⟨_, _, e⟩ := hf94; rw [e]; rfl)) (h1 := by (obtain ⟨_, _, e⟩ := hf94; rw [e]; rfl)) (ha' := by (obtain ⟨_, _, e⟩ := hf94; rw [e]; rfl))
        refine s_nil ?_
        refine x_dynS (fun _ h => by kernel_rfl) ?_
        refine xs_then ?_
        refine k_sr ?_
        refine sp (.int .i64 0) ?_
        refine s_nt ?_
        refine k_ret ?_
        have hk := okKey_good c8 c11
        have hcl := cnt_le S
        have hS : osetL S k v = (S ++ [(⟨k, v, false⟩ : Slt)]) := by rw [osetL_put hk c14 (of_decide_eq_false c59), ht28, if_pos c68]; show (if _ then _ else _) ++ _ = _; rw [if_neg (by have hx := of_decide_eq_false c72; omega)]
        refine xs_mem (fun _ h => rm_shut (S := (S ++ [(⟨k, v, false⟩ : Slt)])) (by rw [← hS]; exact osetL_inv hinv0 k v) (h.re [1, 1] [])) ?_
        refine xs_fin [.int .i64 0] (rmA b (S ++ [(⟨k, v, false⟩ : Slt)]) :: F) (SI.tmp 6 SI.nil) (fun _ h => h.re [0] [1, 1, 1]) ⟨congrArg (Value.int .i64) (osetE_ok hk c14).symm, ?_⟩
        rw [hS]
end Go.Proofs.YtplkkhpokodbmaaGreatDoor
end
section
set_option linter.unusedSimpArgs false
set_option linter.unusedVariables false
set_option maxRecDepth 100000
set_option maxHeartbeats 2000000
namespace Go.Proofs.YtplkkhpokodbmaaGreatDoor
open Go.Hp Go.J Go.S
open Go.Mem (Ty KTy blk elemAt pre suf blk_pre blk_suf aget aset strK aggDesc)
open Go.Mem (adel apos aget_aset aget_adel)
/-- A table in memory. -/
def tbA (b : Nat) (L : List Vl) (S : List Slt) : Asr := exA fun lv => exA fun r => stA True [blkA b #[lv, .pointer (some ⟨r, 0, none⟩)] 119, own VlT lv L, omA r S]
theorem tb_open {b : Nat} {L : List Vl} {S : List Slt} {Z : Zone} {F : List Asr} {H : Heap} (h : Holds Z (tbA b L S :: F) H) : ∃ (lv : Value) (r : Nat), True ∧ Holds Z (blkA b #[lv, .pointer (some ⟨r, 0, none⟩)] 119 :: own VlT lv L :: omA r S :: F) H := by
  obtain ⟨lv, h⟩ := h.open_ex
  obtain ⟨r, h⟩ := h.open_ex
  exact ⟨lv, r, h.open_st⟩
theorem tb_shut {b : Nat} {L : List Vl} {S : List Slt} {Z : Zone} {F : List Asr} {H : Heap} {lv : Value} {r : Nat} (h : Holds Z (blkA b #[lv, .pointer (some ⟨r, 0, none⟩)] 119 :: own VlT lv L :: omA r S :: F) H) : Holds Z (tbA b L S :: F) H :=
  Holds.shut_ex lv (Holds.shut_ex r (Holds.shut_st trivial h))
theorem tb_inv {b : Nat} {L : List Vl} {S : List Slt} {Z : Zone} {F : List Asr} {H : Heap} (h : Holds Z (tbA b L S :: F) H) : OInv S := by
  obtain ⟨_, _, _, h⟩ := tb_open h; exact om_inv (h.re [2] [])
theorem ofint_s {Z : Zone} (x : Int) : SF Tryz.prog 46 #[.int .i64 x] Z [] fun r Bs => r = (ofI x).v ∧ Bs = [] := by
 refine sf_enter Tryz.func46 13 [(0, .int .i64 x)] (fun w0 => ?_)
 refine k_sr ?_
 refine s_alloc (.agg #[.int .i64 0, .int .i64 0, .int .i64 0, .string ByteArray.empty, .int .i64 0]) #[.int .i64 0, .int .i64 0, .int .i64 0, .string ByteArray.empty, .int .i64 0] (fun g1 => ?_)
 refine s_nt ?_
 refine k_seq ?_
 refine k_cut (ι := Unit) (fun _ => True) (fun _ => [(0, .int .i64 x), (2, pB g1 0), (8, .bool ((decide (x < (-2147483647))) || (decide ((2147483647 : Int) < x))))]) (fun _ => [blkA g1 #[.int .i64 0, .int .i64 0, .int .i64 0, .string ByteArray.empty, .int .i64 0] 26]) ?_ (fun _ _ => ?_)
 ·
  refine k_reg ?_
  refine sp (.int .i64 x) ?_
  refine s_lt t_cmp ?_
  refine sp (.bool (decide (x < (-2147483647)))) ?_
  refine s_fork 5 (decide (x < (-2147483647))) (fun c2 => ?_) (fun c2 => ?_)
  ·
   have p3 := of_decide_eq_true c2
   refine s_skip ?_
   refine s_skip ?_
   refine sp (.bool true) ?_
   refine s_nil ?_
   exact xs_cut () trivial (sub_of rfl ⟨⟨rfl, rfl⟩, ⟨⟨rfl, rfl⟩, ⟨⟨rfl, show Value.bool true = Value.bool ((decide (x < (-2147483647))) || (decide ((2147483647 : Int) < x))) by first | (simp only [c2, bls]; done) | simp [c2]⟩, trivial⟩⟩⟩) (fun _ h => h.re [0] [])
  ·
   have p4 := of_decide_eq_false c2
   refine sp (.int .i64 x) ?_
   refine s_lt t_cmp ?_
   refine sp (.bool (decide ((2147483647 : Int) < x))) ?_
   refine s_nil ?_
   exact xs_cut () trivial (sub_of rfl ⟨⟨rfl, rfl⟩, ⟨⟨rfl, rfl⟩, ⟨⟨rfl, show Value.bool (decide ((2147483647 : Int) < x)) = Value.bool ((decide (x < (-2147483647))) || (decide ((2147483647 : Int) < x))) by first | (simp only [c2, bls]; done) | simp [c2]⟩, trivial⟩⟩⟩) (fun _ h => h.re [0] [])
 ·
  refine k_cond ((decide (x < (-2147483647))) || (decide ((2147483647 : Int) < x))) (fun c5 => ?_) (fun c5 => ?_)
  ·
   have p6 := c5
   simp only [Bool.and_eq_true, Bool.or_eq_true, Bool.and_eq_false_iff, Bool.or_eq_false_iff, Bool.not_eq_true', Bool.not_eq_false', decide_eq_true_eq, decide_eq_false_iff_not] at p6
   refine k_sr ?_
   refine s_lt (t_kern (.agg #[.int .i64 0, .int .i64 0, .int .i64 0, .string ByteArray.empty, .int .i64 0])) ?_
   refine s_store 0 #[.int .i64 0, .int .i64 0, .int .i64 0, .string ByteArray.empty, .int .i64 0] ?_
   refine s_nt ?_
   refine k_ret ?_
   refine xs_ret ?_
   refine xs_fin [.agg #[.int .i64 0, .int .i64 0, .int .i64 0, .string ByteArray.empty, .int .i64 0]] [] (SI.agg 2 26 0 SI.nil) (fun _ h => h.re [] [0]) ⟨?_, rfl⟩
   show Value.agg _ = Vl.v (ofI x); unfold ofI; rw [if_pos (by omega)]; rfl
  ·
   obtain ⟨c7, c8⟩ := or_f c5
   have p9 := of_decide_eq_false c7
   have p10 := of_decide_eq_false c8
   refine k_st ?_
   refine k_sr ?_
   refine sp (.int .i64 x) ?_
   refine s_lt (t_kern (.agg #[.int .i64 x, .int .i64 1])) ?_
   refine s_lt (t_kern (.agg #[.int .i64 2, .int .i64 x, .int .i64 1, .string ByteArray.empty, .int .i64 0])) ?_
   refine s_store 0 #[.int .i64 2, .int .i64 x, .int .i64 1, .string ByteArray.empty, .int .i64 0] ?_
   refine s_nt ?_
   refine k_ret ?_
   refine xs_fin [.agg #[.int .i64 2, .int .i64 x, .int .i64 1, .string ByteArray.empty, .int .i64 0]] [] (SI.agg 2 26 0 SI.nil) (fun _ h => h.re [] [0]) ⟨?_, rfl⟩
   show Value.agg _ = Vl.v (ofI x); unfold ofI; rw [if_neg (by omega)]
theorem rofint_s {Z : Zone} (x : Int) : SF Tryz.prog 51 #[.int .i64 x] Z [] fun r Bs => r = (ofI x).v ∧ Bs = [] := by
 refine sf_enter Tryz.func51 13 [(0, .int .i64 x)] (fun w0 => ?_)
 refine k_sr ?_
 refine s_alloc (.agg #[.int .i64 0, .int .i64 0, .int .i64 0, .string ByteArray.empty, .int .i64 0]) #[.int .i64 0, .int .i64 0, .int .i64 0, .string ByteArray.empty, .int .i64 0] (fun g1 => ?_)
 refine s_nt ?_
 refine k_seq ?_
 refine k_cut (ι := Unit) (fun _ => True) (fun _ => [(0, .int .i64 x), (2, pB g1 0), (8, .bool ((decide (x < (-2147483647))) || (decide ((2147483647 : Int) < x))))]) (fun _ => [blkA g1 #[.int .i64 0, .int .i64 0, .int .i64 0, .string ByteArray.empty, .int .i64 0] 26]) ?_ (fun _ _ => ?_)
 ·
  refine k_reg ?_
  refine sp (.int .i64 x) ?_
  refine s_lt t_cmp ?_
  refine sp (.bool (decide (x < (-2147483647)))) ?_
  refine s_fork 5 (decide (x < (-2147483647))) (fun c2 => ?_) (fun c2 => ?_)
  ·
   have p3 := of_decide_eq_true c2
   refine s_skip ?_
   refine s_skip ?_
   refine sp (.bool true) ?_
   refine s_nil ?_
   exact xs_cut () trivial (sub_of rfl ⟨⟨rfl, rfl⟩, ⟨⟨rfl, rfl⟩, ⟨⟨rfl, show Value.bool true = Value.bool ((decide (x < (-2147483647))) || (decide ((2147483647 : Int) < x))) by first | (simp only [c2, bls]; done) | simp [c2]⟩, trivial⟩⟩⟩) (fun _ h => h.re [0] [])
  ·
   have p4 := of_decide_eq_false c2
   refine sp (.int .i64 x) ?_
   refine s_lt t_cmp ?_
   refine sp (.bool (decide ((2147483647 : Int) < x))) ?_
   refine s_nil ?_
   exact xs_cut () trivial (sub_of rfl ⟨⟨rfl, rfl⟩, ⟨⟨rfl, rfl⟩, ⟨⟨rfl, show Value.bool (decide ((2147483647 : Int) < x)) = Value.bool ((decide (x < (-2147483647))) || (decide ((2147483647 : Int) < x))) by first | (simp only [c2, bls]; done) | simp [c2]⟩, trivial⟩⟩⟩) (fun _ h => h.re [0] [])
 ·
  refine k_cond ((decide (x < (-2147483647))) || (decide ((2147483647 : Int) < x))) (fun c5 => ?_) (fun c5 => ?_)
  ·
   have p6 := c5
   simp only [Bool.and_eq_true, Bool.or_eq_true, Bool.and_eq_false_iff, Bool.or_eq_false_iff, Bool.not_eq_true', Bool.not_eq_false', decide_eq_true_eq, decide_eq_false_iff_not] at p6
   refine k_sr ?_
   refine s_lt (t_kern (.agg #[.int .i64 0, .int .i64 0, .int .i64 0, .string ByteArray.empty, .int .i64 0])) ?_
   refine s_store 0 #[.int .i64 0, .int .i64 0, .int .i64 0, .string ByteArray.empty, .int .i64 0] ?_
   refine s_nt ?_
   refine k_ret ?_
   refine xs_ret ?_
   refine xs_fin [.agg #[.int .i64 0, .int .i64 0, .int .i64 0, .string ByteArray.empty, .int .i64 0]] [] (SI.agg 2 26 0 SI.nil) (fun _ h => h.re [] [0]) ⟨?_, rfl⟩
   show Value.agg _ = Vl.v (ofI x); unfold ofI; rw [if_pos (by omega)]; rfl
  ·
   obtain ⟨c7, c8⟩ := or_f c5
   have p9 := of_decide_eq_false c7
   have p10 := of_decide_eq_false c8
   refine k_st ?_
   refine k_sr ?_
   refine sp (.int .i64 x) ?_
   refine s_lt (t_kern (.agg #[.int .i64 x, .int .i64 1])) ?_
   refine s_lt (t_kern (.agg #[.int .i64 2, .int .i64 x, .int .i64 1, .string ByteArray.empty, .int .i64 0])) ?_
   refine s_store 0 #[.int .i64 2, .int .i64 x, .int .i64 1, .string ByteArray.empty, .int .i64 0] ?_
   refine s_nt ?_
   refine k_ret ?_
   refine xs_fin [.agg #[.int .i64 2, .int .i64 x, .int .i64 1, .string ByteArray.empty, .int .i64 0]] [] (SI.agg 2 26 0 SI.nil) (fun _ h => h.re [] [0]) ⟨?_, rfl⟩
   show Value.agg _ = Vl.v (ofI x); unfold ofI; rw [if_neg (by omega)]
theorem rkey_s {Z : Zone} (x : Int) : SF Tryz.prog 111 #[.int .i64 x] Z [] fun r Bs => r = (ofI x).v ∧ Bs = [] := by
 refine sf_enter Tryz.func111 5 [(0, .int .i64 x)] (fun w0 => ?_)
 refine k_sr ?_
 refine s_alloc (.agg #[.int .i64 0, .int .i64 0, .int .i64 0, .string ByteArray.empty, .int .i64 0]) #[.int .i64 0, .int .i64 0, .int .i64 0, .string ByteArray.empty, .int .i64 0] (fun g1 => ?_)
 refine s_nr ?_
 refine sp (.int .i64 x) ?_
 refine s_vcall (fun _ h => rofint_s x) ?_
 rintro _ rfl
 refine s_store 0 #[.int .i64 ((ofI x).kind), .int .i64 ((ofI x).p), .int .i64 ((ofI x).q), .string ((ofI x).str), .int .i64 ((ofI x).ref)] ?_
 refine s_nt ?_
 refine k_ret ?_
 refine xs_fin [.agg #[.int .i64 ((ofI x).kind), .int .i64 ((ofI x).p), .int .i64 ((ofI x).q), .string ((ofI x).str), .int .i64 ((ofI x).ref)]] [] (SI.agg 2 26 0 SI.nil) (fun _ h => h.re [] [0]) ⟨?_, rfl⟩
 rfl
theorem integer_s {Z : Zone} (k : Vl) : SF Tryz.prog 102 #[k.v] Z [] fun r Bs => r = .tuple #[.int .i64 k.p, .bool (isIntB k)] ∧ Bs = [] := by
 refine sf_enter Tryz.func102 20 [(0, .agg #[.int .i64 k.kind, .int .i64 k.p, .int .i64 k.q, .string k.str, .int .i64 k.ref])] (fun w0 => ?_)
 refine k_sr ?_
 refine s_box #[.int .i64 k.kind, .int .i64 k.p, .int .i64 k.q, .string k.str, .int .i64 k.ref] (fun g1 => ?_)
 refine sp (.int .i64 0) ?_
 refine sp (.bool false) ?_
 refine s_nt ?_
 refine k_seq ?_
 refine k_held [blkA g1 #[.int .i64 k.kind, .int .i64 k.p, .int .i64 k.q, .string k.str, .int .i64 k.ref] 26] ?_
 refine hp_ 0 [0] (pB g1 1) ?_
 refine hp_ 1 [0] (pB g1 1) ?_
 refine h_l 2 rfl [0] (fun _ => (t_load 0 (.int .i64 k.p))) ?_
 refine hp_ 3 [0] (pB g1 0) ?_
 refine h_l 4 rfl [0] (fun _ => (t_load 0 (.int .i64 k.kind))) ?_
 refine h_l 5 rfl [0] (fun _ => t_cmp) ?_
 refine hp_ 6 [0] (.bool (decide (k.kind = 2))) ?_
 refine h_forkS 10 (decide (k.kind = 2)) (fun c2 => ?_) (fun c2 => ?_)
 ·
  have p3 := of_decide_eq_true c2
  refine hp_ 7 [0] (pB g1 1) ?_
  refine hp_ 8 [0] (pB g1 2) ?_
  refine h_l 9 rfl [0] (fun _ => (t_load 0 (.int .i64 k.q))) ?_
  refine h_l 10 rfl [0] (fun _ => t_cmp) ?_
  refine hp_ 11 [0] (.bool (decide (k.q = 1))) ?_
  refine hp_ 12 [0] (.bool (decide (k.q = 1))) ?_
  refine h_forkS 16 (decide (k.q = 1)) (fun c4 => ?_) (fun c4 => ?_)
  ·
   have p5 := of_decide_eq_true c4
   refine h_l 13 rfl [0] (fun _ => (t_loadA 0 #[.int .i64 k.kind, .int .i64 k.p, .int .i64 k.q, .string k.str, .int .i64 k.ref])) ?_
   refine h_stepS 14 ?_
   refine s_vcall (fun _ h => valid_s k) ?_
   rintro _ rfl
   refine s_nil (xs_held [0] ?_)
   refine hp_ 15 [0] (.bool (validB k)) ?_
   refine hp_ 16 [0] (.int .i64 k.p) ?_
   refine hp_ 17 [0] (.bool (validB k)) ?_
   refine h_doneS ?_
   refine xs_then ?_
   refine k_ret ?_
   refine xs_fin [.int .i64 k.p, .bool (validB k)] [] (SI.tmp 2 (SI.tmp 3 SI.nil)) (fun _ h => h.re [] [0]) ⟨?_, rfl⟩
   show Value.tuple #[.int .i64 k.p, .bool (validB k)] = Value.tuple #[.int .i64 k.p, .bool (isIntB k)]
   unfold isIntB; simp [c2, c4]
  ·
   have p6 := of_decide_eq_false c4
   refine h_sk 13 [0] ?_
   refine h_stepS 14 ?_
   refine s_skip ?_
   refine s_nil (xs_held [0] ?_)
   refine hp_ 15 [0] (.bool false) ?_
   refine hp_ 16 [0] (.int .i64 k.p) ?_
   refine hp_ 17 [0] (.bool false) ?_
   refine h_doneS ?_
   refine xs_then ?_
   refine k_ret ?_
   refine xs_fin [.int .i64 k.p, .bool false] [] (SI.tmp 2 (SI.tmp 3 SI.nil)) (fun _ h => h.re [] [0]) ⟨?_, rfl⟩
   show Value.tuple #[.int .i64 k.p, .bool false] = Value.tuple #[.int .i64 k.p, .bool (isIntB k)]
   unfold isIntB; simp [c2, c4]
 ·
  have p7 := of_decide_eq_false c2
  refine h_sk 7 [0] ?_
  refine h_sk 8 [0] ?_
  refine h_sk 9 [0] ?_
  refine h_sk 10 [0] ?_
  refine hp_ 11 [0] (.bool false) ?_
  refine hp_ 12 [0] (.bool false) ?_
  refine h_sk 13 [0] ?_
  refine h_stepS 14 ?_
  refine s_skip ?_
  refine s_nil (xs_held [0] ?_)
  refine hp_ 15 [0] (.bool false) ?_
  refine hp_ 16 [0] (.int .i64 k.p) ?_
  refine hp_ 17 [0] (.bool false) ?_
  refine h_doneS ?_
  refine xs_then ?_
  refine k_ret ?_
  refine xs_fin [.int .i64 k.p, .bool false] [] (SI.tmp 2 (SI.tmp 3 SI.nil)) (fun _ h => h.re [] [0]) ⟨?_, rfl⟩
  show Value.tuple #[.int .i64 k.p, .bool false] = Value.tuple #[.int .i64 k.p, .bool (isIntB k)]
  unfold isIntB; simp [c2]
theorem tbnew_s {Z : Zone} : SF Tryz.prog 71 #[] Z [] fun r Bs => ∃ b, r = .pointer (some ⟨b, 0, none⟩) ∧ Bs = [tbA b [] []] := by
 refine sf_enter Tryz.func71 4 [] (fun w0 => ?_)
 refine k_sr ?_
 refine sp (.pointer none) ?_
 refine s_nr ?_
 refine s_pcall (fun _ h => omnew_s) ?_
 rintro _ _ ⟨r1, rfl, rfl⟩
 refine s_lt (t_kern (.agg #[(.slice none 0 0), pB r1 0])) ?_
 refine s_box #[(.slice none 0 0), pB r1 0] (fun g2 => ?_)
 refine sp (pB g2 0) ?_
 refine s_nt ?_
 refine k_ret ?_
 refine xs_fin [pB g2 0] [tbA g2 [] []] (SI.tmp 0 SI.nil) (fun _ h => tb_shut (b := g2) (lv := .slice none 0 0) (r := r1) ((Holds.nilS (T := VlT) h).re [1, 0, 0] [])) ⟨g2, rfl, rfl⟩
theorem tbget_s {Z : Zone} {F : List Asr} {b : Nat} {L : List Vl} {S : List Slt} (hl : L.length ≤ 1000000) (k : Vl) : SF Tryz.prog 96 #[.pointer (some ⟨b, 0, none⟩), k.v] Z (tbA b L S :: F) fun r Bs => r = (tget ⟨L, S⟩ k).v ∧ Bs = tbA b L S :: F := by
 refine sf_enter Tryz.func96 48 [(0, pB b 0), (1, .agg #[.int .i64 k.kind, .int .i64 k.p, .int .i64 k.q, .string k.str, .int .i64 k.ref])] (fun w0 => ?_)
 refine k_sr ?_
 refine s_box #[.int .i64 k.kind, .int .i64 k.p, .int .i64 k.q, .string k.str, .int .i64 k.ref] (fun g1 => ?_)
 refine s_alloc (.agg #[.int .i64 0, .int .i64 0, .int .i64 0, .string ByteArray.empty, .int .i64 0]) #[.int .i64 0, .int .i64 0, .int .i64 0, .string ByteArray.empty, .int .i64 0] (fun g2 => ?_)
 refine s_nt ?_
 refine k_seq ?_
 refine k_sr ?_
 refine sp (pB b 0) ?_
 refine sp (.bool false) ?_
 refine sp (.bool false) ?_
 refine s_lt (t_loadA 1 #[.int .i64 k.kind, .int .i64 k.p, .int .i64 k.q, .string k.str, .int .i64 k.ref]) ?_
 refine s_vcall (fun _ h => valid_s k) ?_
 rintro _ rfl
 refine sp (.bool (!(validB k))) ?_
 refine sp (.bool (!(validB k))) ?_
 refine s_nt ?_
 refine k_cond (!(validB k)) (fun c3 => ?_) (fun c3 => ?_)
 ·
  have c4 := not_t c3
  refine k_sr ?_
  refine s_lt (t_kern (.agg #[.int .i64 0, .int .i64 0, .int .i64 0, .string ByteArray.empty, .int .i64 0])) ?_
  refine s_store 0 #[.int .i64 0, .int .i64 0, .int .i64 0, .string ByteArray.empty, .int .i64 0] ?_
  refine s_nt ?_
  refine k_ret ?_
  refine xs_ret ?_
  refine xs_fin [.agg #[.int .i64 0, .int .i64 0, .int .i64 0, .string ByteArray.empty, .int .i64 0]] (tbA b L S :: F) (SI.agg 4 26 0 SI.nil) (fun _ h => h.re [2] [1, 1]) ⟨?_, rfl⟩
  rw [tget_bad c4]; rfl
 ·
  have c5 := not_f c3
  refine k_st ?_
  refine k_seq ?_
  refine k_sr ?_
  refine s_lt (t_loadA 1 #[.int .i64 k.kind, .int .i64 k.p, .int .i64 k.q, .string k.str, .int .i64 k.ref]) ?_
  refine s_vcall (fun _ h => integer_s k) ?_
  rintro u6 e7
  rcases int_cases k with ⟨hi8, hp9, hv10⟩ | ⟨hi11, hw12⟩
  ·
   rw [hi8, hp9] at e7; subst e7
   refine sp (.tuple #[.int .i64 (whole k), .bool true]) ?_
   refine sp (.int .i64 (whole k)) ?_
   refine sp (.bool true) ?_
   refine sp (.int .i64 (whole k)) ?_
   refine sp (.bool true) ?_
   refine s_nr ?_
   refine sp (.bool true) ?_
   refine sp (.bool true) ?_
   refine sp (.int .i64 (whole k)) ?_
   refine s_lt t_cmp ?_
   refine sp (.bool (decide ((1 : Int) ≤ (whole k)))) ?_
   refine sp (.bool (decide ((1 : Int) ≤ (whole k)))) ?_
   refine s_fork 25 (decide ((1 : Int) ≤ (whole k))) (fun c13 => ?_) (fun c13 => ?_)
   ·
    have p14 := of_decide_eq_true c13
    refine sp (.int .i64 (whole k)) ?_
    refine sp (pB b 0) ?_
    refine sp (pB b 0) ?_
    refine sp (pB b 0) ?_
    refine s_mem2 (fun H h => tb_open (h.re [2] [])) (fun lv15 r16 hw => ?_)
    refine s_lt (t_load 0 lv15) ?_
    refine s_lt (t_len VlT_ok Tryz.underlying33 (.own 1)) ?_
    refine s_lt t_cmp ?_
    refine sp (.bool (decide ((whole k) ≤ (L.length : Int)))) ?_
    refine s_nt ?_
    refine k_cond (decide ((whole k) ≤ (L.length : Int))) (fun c17 => ?_) (fun c17 => ?_)
    ·
     have p18 := of_decide_eq_true c17
     refine k_sr ?_
     refine sp (pB b 0) ?_
     refine sp (pB b 0) ?_
     refine sp (pB b 0) ?_
     refine s_lt (t_load 0 lv15) ?_
     refine sp (.int .i64 (whole k)) ?_
     refine s_lt (t_sub (whole k) 1 (by (try simp only [lnm]); omega)) ?_
     refine s_lt (t_index VlT_ok Tryz.underlying33 (.own 1) ((whole k) - 1) ((((whole k) - 1)).toNat) (by omega) (by (try simp only [lnm]); omega) (by omega)) ?_
     obtain ⟨y19, hy20⟩ : ∃ y, L[(((whole k) - 1)).toNat]? = some y := ⟨_, List.getElem?_eq_getElem (by (try simp only [lnm]); omega)⟩
     refine s_lt (t_loadE VlT_ok (.own 1) hy20) ?_
     refine s_store 3 #[.int .i64 y19.kind, .int .i64 y19.p, .int .i64 y19.q, .string y19.str, .int .i64 y19.ref] ?_
     refine s_nt ?_
     refine k_ret ?_
     refine xs_ret ?_
     refine xs_mem (fun _ h => tb_shut (h.re [0, 0, 0] [])) ?_
     refine xs_fin [.agg #[.int .i64 y19.kind, .int .i64 y19.p, .int .i64 y19.q, .string y19.str, .int .i64 y19.ref]] (tbA b L S :: F) (SI.agg 4 26 1 SI.nil) (fun _ h => h.re [0] [1, 1]) ⟨?_, rfl⟩
     rw [tget_in (T := ⟨L, S⟩) c5 (by omega) (by show _ ≤ (L.length : Int); omega) hy20]; rfl
    ·
     have p21 := of_decide_eq_false c17
     refine k_st ?_
     refine k_seq ?_
     refine k_draw ?_
     refine sp (pB b 0) ?_
     refine sp (pB b 0) ?_
     refine sp (pB b 1) ?_
     refine s_lt (t_load 0 (pB r16 0)) ?_
     refine s_lt (t_loadA 4 #[.int .i64 k.kind, .int .i64 k.p, .int .i64 k.q, .string k.str, .int .i64 k.ref]) ?_
     refine s_call [2] (omget_s (S := S) k) ?_
     rintro _ _ ⟨rfl, rfl⟩
     refine s_store 3 #[.int .i64 ((oget S k).kind), .int .i64 ((oget S k).p), .int .i64 ((oget S k).q), .string ((oget S k).str), .int .i64 ((oget S k).ref)] ?_
     refine s_nil ?_
     refine x_dynS (fun _ h => by kernel_rfl) ?_
     refine xs_then ?_
     refine k_ret ?_
     refine xs_mem (fun _ h => tb_shut (h.re [1, 1, 0] [])) ?_
     refine xs_fin [.agg #[.int .i64 ((oget S k).kind), .int .i64 ((oget S k).p), .int .i64 ((oget S k).q), .string ((oget S k).str), .int .i64 ((oget S k).ref)]] (tbA b L S :: F) (SI.agg 4 26 1 SI.nil) (fun _ h => h.re [0] [1, 1]) ⟨?_, rfl⟩
     rw [tget_out (T := ⟨L, S⟩) c5 (by show ¬ (_ ∧ _ ≤ (L.length : Int)); omega)]; rfl
   ·
    have p22 := of_decide_eq_false c13
    refine s_skip ?_
    refine s_skip ?_
    refine s_skip ?_
    refine s_skip ?_
    refine s_skip ?_
    refine s_skip ?_
    refine s_skip ?_
    refine sp (.bool false) ?_
    refine s_nt ?_
    refine k_false ?_
    refine k_st ?_
    refine k_seq ?_
    refine k_draw ?_
    refine sp (pB b 0) ?_
    refine sp (pB b 0) ?_
    refine sp (pB b 1) ?_
    refine s_mem2 (fun H h => tb_open (h.re [2] [])) (fun lv23 r24 hw => ?_)
    refine s_lt (t_load 0 (pB r24 0)) ?_
    refine s_lt (t_loadA 4 #[.int .i64 k.kind, .int .i64 k.p, .int .i64 k.q, .string k.str, .int .i64 k.ref]) ?_
    refine s_call [2] (omget_s (S := S) k) ?_
    rintro _ _ ⟨rfl, rfl⟩
    refine s_store 3 #[.int .i64 ((oget S k).kind), .int .i64 ((oget S k).p), .int .i64 ((oget S k).q), .string ((oget S k).str), .int .i64 ((oget S k).ref)] ?_
    refine s_nil ?_
    refine x_dynS (fun _ h => by kernel_rfl) ?_
    refine xs_then ?_
    refine k_ret ?_
    refine xs_mem (fun _ h => tb_shut (h.re [1, 1, 0] [])) ?_
    refine xs_fin [.agg #[.int .i64 ((oget S k).kind), .int .i64 ((oget S k).p), .int .i64 ((oget S k).q), .string ((oget S k).str), .int .i64 ((oget S k).ref)]] (tbA b L S :: F) (SI.agg 4 26 1 SI.nil) (fun _ h => h.re [0] [1, 1]) ⟨?_, rfl⟩
    rw [tget_out (T := ⟨L, S⟩) c5 (by show ¬ (_ ∧ _ ≤ (L.length : Int)); omega)]; rfl
  ·
   rw [hi11] at e7; subst e7
   refine sp (.tuple #[.int .i64 k.p, .bool false]) ?_
   refine sp (.int .i64 k.p) ?_
   refine sp (.bool false) ?_
   refine sp (.int .i64 k.p) ?_
   refine sp (.bool false) ?_
   refine s_nr ?_
   refine sp (.bool false) ?_
   refine sp (.bool false) ?_
   refine s_skip ?_
   refine s_skip ?_
   refine sp (.bool false) ?_
   refine sp (.bool false) ?_
   refine s_skip ?_
   refine s_skip ?_
   refine s_skip ?_
   refine s_skip ?_
   refine s_skip ?_
   refine s_skip ?_
   refine s_skip ?_
   refine sp (.bool false) ?_
   refine s_nt ?_
   refine k_false ?_
   refine k_st ?_
   refine k_seq ?_
   refine k_draw ?_
   refine sp (pB b 0) ?_
   refine sp (pB b 0) ?_
   refine sp (pB b 1) ?_
   refine s_mem2 (fun H h => tb_open (h.re [2] [])) (fun lv25 r26 hw => ?_)
   refine s_lt (t_load 0 (pB r26 0)) ?_
   refine s_lt (t_loadA 4 #[.int .i64 k.kind, .int .i64 k.p, .int .i64 k.q, .string k.str, .int .i64 k.ref]) ?_
   refine s_call [2] (omget_s (S := S) k) ?_
   rintro _ _ ⟨rfl, rfl⟩
   refine s_store 3 #[.int .i64 ((oget S k).kind), .int .i64 ((oget S k).p), .int .i64 ((oget S k).q), .string ((oget S k).str), .int .i64 ((oget S k).ref)] ?_
   refine s_nil ?_
   refine x_dynS (fun _ h => by kernel_rfl) ?_
   refine xs_then ?_
   refine k_ret ?_
   refine xs_mem (fun _ h => tb_shut (h.re [1, 1, 0] [])) ?_
   refine xs_fin [.agg #[.int .i64 ((oget S k).kind), .int .i64 ((oget S k).p), .int .i64 ((oget S k).q), .string ((oget S k).str), .int .i64 ((oget S k).ref)]] (tbA b L S :: F) (SI.agg 4 26 1 SI.nil) (fun _ h => h.re [0] [1, 1]) ⟨?_, rfl⟩
   rw [tget_out (T := ⟨L, S⟩) c5 (by show ¬ (_ ∧ _ ≤ (L.length : Int)); omega)]; rfl
theorem tbshrink_s {Z : Zone} {F : List Asr} {b : Nat} {L : List Vl} {S : List Slt} (hl : L.length ≤ 1000000) : SF Tryz.prog 103 #[.pointer (some ⟨b, 0, none⟩)] Z (tbA b L S :: F) fun r Bs => r = .tuple #[] ∧ Bs = tbA b (shr L) S :: F := by
 refine sf_enter Tryz.func103 34 [(0, pB b 0)] (fun w0 => ?_)
 refine k_sr ?_
 refine sp (pB b 0) ?_
 refine sp (pB b 0) ?_
 refine sp (pB b 0) ?_
 refine s_mem2 (fun H h => tb_open (h.re [0] [])) (fun lv1 r2 hw => ?_)
 refine s_lt (t_load 0 lv1) ?_
 refine s_lt (t_len VlT_ok Tryz.underlying33 (.own 1)) ?_
 refine sp (.int .i64 (L.length : Int)) ?_
 refine s_nt ?_
 refine k_seq ?_
 refine k_block ?_
 refine k_mem (fun _ h => tb_shut (h.re [0, 0, 0] [])) ?_
 refine k_loop (ι := Nat) (fun n => n ≤ L.length ∧ shr L = shr (L.take n)) (fun n => [(0, pB b 0), (2, .int .i64 (n : Int))]) (fun n => tbA b L S :: F) (fun n => n) L.length ⟨Nat.le_refl _, by rw [List.take_length]⟩ (sub_of rfl ⟨⟨rfl, rfl⟩, ⟨⟨rfl, rfl⟩, trivial⟩⟩) (fun _ h => h.re [0] []) ?_
 rintro n hi3
 show SK _ _ _ _ _ [(0, .pointer (some ⟨b, 0, none⟩)), (2, .int .i64 (n : Int))] _ (tbA b L S :: F)
 refine k_seq ?_
 refine k_sr ?_
 refine sp (.int .i64 (n : Int)) ?_
 refine s_lt t_cmp ?_
 refine sp (.bool (decide ((0 : Int) < (n : Int)))) ?_
 refine s_fork 10 (decide ((0 : Int) < (n : Int))) (fun c4 => ?_) (fun c4 => ?_)
 ·
  have p5 := of_decide_eq_true c4
  refine sp (pB b 0) ?_
  refine sp (pB b 0) ?_
  refine sp (pB b 0) ?_
  refine s_mem2 (fun H h => tb_open (h.re [0] [])) (fun lv6 r7 hw => ?_)
  refine s_lt (t_load 0 lv6) ?_
  refine sp (.int .i64 (n : Int)) ?_
  refine s_lt (t_sub (n : Int) 1 (by (try simp only [lnm]); omega)) ?_
  refine s_lt (t_index VlT_ok Tryz.underlying33 (.own 1) ((n : Int) - 1) (n - 1) (by omega) (by (try simp only [lnm]); omega) (by omega)) ?_
  refine sp (.pointer (some (elemAt VlT.size lv6 (n - 1)))) ?_
  obtain ⟨y8, hy9⟩ : ∃ y, L[(n - 1)]? = some y := ⟨_, List.getElem?_eq_getElem (by (try simp only [lnm]); omega)⟩
  refine s_lt (t_loadF 0 VlT_ok (.own 1) hy9) ?_
  refine s_lt t_cmp ?_
  refine sp (.bool (decide (y8.kind = 0))) ?_
  refine s_nt ?_
  refine k_cond (decide (y8.kind = 0)) (fun c10 => ?_) (fun c10 => ?_)
  ·
   have p11 := of_decide_eq_true c10
   refine k_st ?_
   refine k_block ?_
   refine k_reg ?_
   refine sp (.int .i64 (n : Int)) ?_
   refine s_lt (t_sub (n : Int) 1 (by (try simp only [lnm]); omega)) ?_
   refine sp (.int .i64 ((n : Int) - 1)) ?_
   refine s_nil ?_
   refine xs_block ?_
   refine xs_mem (fun _ h => tb_shut (h.re [0, 0, 0] [])) ?_
   exact xs_round (n - 1) (by omega) ⟨by omega, by rw [← shr_step (n := n - 1) (by omega) hy9 (by omega), show n - 1 + 1 = n by omega]; exact hi3.2⟩ (sub_of rfl ⟨⟨rfl, rfl⟩, ⟨⟨rfl, congrArg (Value.int .i64) (by omega)⟩, trivial⟩⟩) (fun _ h => h.re [0] [])
  ·
   have p12 := of_decide_eq_false c10
   refine k_exit ?_
   refine xs_exit ?_
   refine xs_exit ?_
   refine xs_here ?_
   refine xs_then ?_
   refine k_reg ?_
   refine sp (pB b 0) ?_
   refine sp (pB b 0) ?_
   refine sp (pB b 0) ?_
   refine sp (pB b 0) ?_
   refine s_lt (t_load 0 lv6) ?_
   refine sp (.int .i64 (n : Int)) ?_
   refine sp (.int .i64 (n : Int)) ?_
   refine s_lt (t_pre3 VlT_ok Tryz.underlying33 (.own 1) (n : Int) n (by omega) (by (try simp only [lnm]); omega) (by omega)) ?_
   refine sp (pB b 0) ?_
   refine sp (pB b 0) ?_
   refine s_mem (fun _ h => Holds.pre3 (i := 1) h VlT_ok n rfl (by (try simp only [lnm]); omega)) ?_
   refine s_fact (fun H h => ((Acc.own (T := VlT) (L := (L.take n)) 1 rfl) H h).form) (fun hf13 => ?_)
   refine s_store (u := (pre3 lv6 n)) (m := 1) 0 #[(pre3 lv6 n), pB r7 0] ?_ (hm := by (obtain ⟨_, _, e⟩ := hf13; rw [e]; rfl)) (h1 := by (obtain ⟨_, _, e⟩ := hf13; rw [e]; rfl)) (ha' := by (obtain ⟨_, _, e⟩ := hf13; rw [e]; rfl))
   refine s_nil ?_
   refine xs_mem (fun _ h => tb_shut (h.re [0, 0, 0] [])) ?_
   have hS : shr L = L.take n := by rw [hi3.2, show n = n - 1 + 1 by omega]; exact shr_stop hy9 (by omega)
   refine xs_finN [] (tbA b (L.take n) S :: F) SI.nil (fun _ h => h.re [0] []) ⟨rfl, ?_⟩
   rw [hS]
 ·
  have p14 := of_decide_eq_false c4
  refine s_skip ?_
  refine s_skip ?_
  refine s_skip ?_
  refine s_skip ?_
  refine s_skip ?_
  refine s_skip ?_
  refine s_skip ?_
  refine s_skip ?_
  refine s_skip ?_
  refine s_skip ?_
  refine sp (.bool false) ?_
  refine s_nt ?_
  refine k_false ?_
  refine k_exit ?_
  refine xs_exit ?_
  refine xs_exit ?_
  refine xs_here ?_
  refine xs_then ?_
  refine k_reg ?_
  refine sp (pB b 0) ?_
  refine sp (pB b 0) ?_
  refine sp (pB b 0) ?_
  refine sp (pB b 0) ?_
  refine s_mem2 (fun H h => tb_open (h.re [0] [])) (fun lv15 r16 hw => ?_)
  refine s_lt (t_load 0 lv15) ?_
  refine sp (.int .i64 (n : Int)) ?_
  refine sp (.int .i64 (n : Int)) ?_
  refine s_lt (t_pre3 VlT_ok Tryz.underlying33 (.own 1) (n : Int) n (by omega) (by (try simp only [lnm]); omega) (by omega)) ?_
  refine sp (pB b 0) ?_
  refine sp (pB b 0) ?_
  refine s_mem (fun _ h => Holds.pre3 (i := 1) h VlT_ok n rfl (by (try simp only [lnm]); omega)) ?_
  refine s_fact (fun H h => ((Acc.own (T := VlT) (L := (L.take n)) 1 rfl) H h).form) (fun hf17 => ?_)
  refine s_store (u := (pre3 lv15 n)) (m := 1) 0 #[(pre3 lv15 n), pB r16 0] ?_ (hm := by (obtain ⟨_, _, e⟩ := hf17; rw [e]; rfl)) (h1 := by (obtain ⟨_, _, e⟩ := hf17; rw [e]; rfl)) (ha' := by (obtain ⟨_, _, e⟩ := hf17; rw [e]; rfl))
  refine s_nil ?_
  refine xs_mem (fun _ h => tb_shut (h.re [0, 0, 0] [])) ?_
  have hS : shr L = L.take n := by obtain rfl : n = 0 := (by omega); rw [hi3.2]; rfl
  refine xs_finN [] (tbA b (L.take n) S :: F) SI.nil (fun _ h => h.re [0] []) ⟨rfl, ?_⟩
  rw [hS]
theorem stale_step (S : List Slt) {n m : Nat} (h : n ≤ m) : (staleB S n m || decide ((onext S (ofI ((m : Int) + 1))).2.2.2 = 0)) = staleB S n (m + 1) := by
  rw [staleB_snoc S h, hasK_iff]
  cases hasK S (ofI ((m : Int) + 1)) <;> simp
theorem tadd_eq {L L' : List Vl} {S : List Slt} {v : Vl} (h : grow S (S.length + 2) L v = L') : tadd ⟨L, S⟩ v = ⟨L', if staleB S L.length L'.length then purge S L'.length else S⟩ := by
  unfold tadd; simp only [h]
theorem purgeS_len (S : List Slt) (m i : Nat) : (purgeS S m i).length ≤ S.length := by
  unfold purgeS
  refine Nat.le_trans (List.length_filter_le _ _) ?_
  rw [List.length_take]; have := cnt_le S; unfold cnt at this; omega
theorem okeys_length (S : List Slt) : (okeys S).length = (live S).length := by unfold okeys; simp
theorem mu_le (S : List Slt) (n : Nat) (v : Vl) : mu S n v ≤ S.length + 1 := by
  unfold mu; have := more_le S (n + 1); split <;> omega
theorem tbadd_s {Z : Zone} {F : List Asr} {b : Nat} {L : List Vl} {S : List Slt} (hl : L.length ≤ 100000) (hs : S.length ≤ 100000) (v : Vl) : SF Tryz.prog 104 #[.pointer (some ⟨b, 0, none⟩), v.v] Z (tbA b L S :: F) fun r Bs => r = .tuple #[] ∧ Bs = tbA b (tadd ⟨L, S⟩ v).list (tadd ⟨L, S⟩ v).rest :: F := by
 refine sf_enter Tryz.func104 107 [(0, pB b 0), (1, .agg #[.int .i64 v.kind, .int .i64 v.p, .int .i64 v.q, .string v.str, .int .i64 v.ref])] (fun w0 => ?_)
 refine k_fact (fun H h => tb_inv (h.re [0] [])) (fun hinv0 => ?_)
 have hol := okeys_len S
 refine k_sr ?_
 refine s_box #[.int .i64 v.kind, .int .i64 v.p, .int .i64 v.q, .string v.str, .int .i64 v.ref] (fun g1 => ?_)
 refine s_nr ?_
 refine sp (.bool false) ?_
 refine s_nt ?_
 refine k_seq ?_
 refine k_block ?_
 refine k_mem2 (fun H h => tb_open (h.re [1] [])) (fun lv2 r3 hw => ?_)
 have hmu0 := mu_le S L.length v
 refine k_loop (ι := Value × List Vl × Vl × Nat) (fun (lx, X, x, f) => grow S (S.length + 2) L v = grow S f X x ∧ mu S X.length x ≤ f ∧ L.length ≤ X.length ∧ X.length + mu S X.length x ≤ L.length + S.length + 1) (fun (lx, X, x, f) => [(0, pB b 0), (3, pB g1 0), (4, .bool (staleB S L.length X.length))]) (fun (lx, X, x, f) => blkA b #[lx, pB r3 0] 119 :: own VlT lx X :: omA r3 S :: blkA g1 #[.int .i64 x.kind, .int .i64 x.p, .int .i64 x.q, .string x.str, .int .i64 x.ref] 26 :: F) (fun (lx, X, x, f) => mu S X.length x) (lv2, L, v, S.length + 2) ⟨rfl, by omega, by omega, by omega⟩ (sub_of rfl ⟨⟨rfl, rfl⟩, ⟨⟨rfl, rfl⟩, ⟨⟨rfl, congrArg Value.bool (staleB_self S L.length).symm⟩, trivial⟩⟩⟩) (fun _ h => h.re [0, 0, 0, 0] []) ?_
 rintro ⟨lx, X, x, f⟩ hi4
 replace hi4 : grow S (S.length + 2) L v = grow S f X x ∧ mu S X.length x ≤ f ∧ L.length ≤ X.length ∧ X.length + mu S X.length x ≤ L.length + S.length + 1 := hi4
 show SK _ _ _ _ _ [(0, .pointer (some ⟨b, 0, none⟩)), (3, .pointer (some ⟨g1, 0, none⟩)), (4, .bool (staleB S L.length X.length))] _ (blkA b #[lx, .pointer (some ⟨r3, 0, none⟩)] 119 :: own VlT lx X :: omA r3 S :: blkA g1 #[.int .i64 x.kind, .int .i64 x.p, .int .i64 x.q, .string x.str, .int .i64 x.ref] 26 :: F)
 refine k_seq ?_
 refine k_sr ?_
 refine sp (pB g1 0) ?_
 refine s_lt (t_load 3 (.int .i64 x.kind)) ?_
 refine s_lt t_cmp ?_
 refine s_nt ?_
 refine k_cond (decide (x.kind ≠ 0)) (fun c5 => ?_) (fun c5 => ?_)
 ·
  have p6 := of_decide_eq_true c5
  have hx0 : x.kind ≠ 0 := of_decide_eq_true c5
  obtain ⟨f1, hf1, hg1⟩ := grow_step S X hx0 hi4.2.1
  have hg2 : grow S (S.length + 2) L v = grow S (f - 1) (X ++ [x]) (oget S (ofI ((X.length : Int) + 2))) := by rw [hi4.1, hg1, hf1]; rfl
  refine k_st ?_
  refine k_block ?_
  refine k_seq ?_
  refine k_draw ?_
  refine sp (pB b 0) ?_
  refine sp (pB b 0) ?_
  refine sp (pB b 0) ?_
  refine sp (pB b 0) ?_
  refine s_lt (t_load 0 lx) ?_
  refine s_lt (t_loadA 3 #[.int .i64 x.kind, .int .i64 x.p, .int .i64 x.q, .string x.str, .int .i64 x.ref]) ?_
  refine s_buildSlice (e := 26) [(0, .agg #[.int .i64 x.kind, .int .i64 x.p, .int .i64 x.q, .string x.str, .int .i64 x.ref])] #[.int .i64 x.kind, .int .i64 x.p, .int .i64 x.q, .string x.str, .int .i64 x.ref] (fun g7 => ?_) (hb := by kernel_rfl)
  refine s_append (L := X) 2 VlT_ok Tryz.underlying33 (.lit 0 VlT_ok [x]) (by show _ * 48 ≤ _; (try simp only [lnm]); omega) (by (try simp only [lnm]); omega) (fun v8 => ?_)
  obtain ⟨L2, hL2⟩ : ∃ y, y = X ++ [x] := ⟨_, rfl⟩
  rw [← hL2]
  have ll2 : L2.length = X.length + 1 := by rw [hL2]; simp
  refine sp (pB b 0) ?_
  refine sp (pB b 0) ?_
  refine s_fact (fun H h => ((Acc.own (T := VlT) (L := L2) 2 rfl) H h).form) (fun hf9 => ?_)
  refine s_store (u := v8) (m := 1) 1 #[v8, pB r3 0] ?_ (hm := by (obtain ⟨_, _, e⟩ := hf9; rw [e]; rfl)) (h1 := by (obtain ⟨_, _, e⟩ := hf9; rw [e]; rfl)) (ha' := by (obtain ⟨_, _, e⟩ := hf9; rw [e]; rfl))
  refine s_nil ?_
  refine x_dynS (fun _ h => by kernel_rfl) ?_
  refine xs_then ?_
  refine k_cut (ι := Unit) (fun _ => True) (fun _ => [(0, pB b 0), (3, pB g1 0), (4, .bool (staleB S L.length X.length)), (8, .int .i64 ((onext S (ofI ((X.length : Int) + 1))).2.2.2))]) (fun _ => blkA g7 #[.int .i64 x.kind, .int .i64 x.p, .int .i64 x.q, .string x.str, .int .i64 x.ref] 26 :: blkA b #[v8, pB r3 0] 119 :: own VlT v8 L2 :: omA r3 S :: blkA g1 #[.int .i64 x.kind, .int .i64 x.p, .int .i64 x.q, .string x.str, .int .i64 x.ref] 26 :: F) ?_ (fun _ _ => ?_)
  ·
   refine k_held [blkA g7 #[.int .i64 x.kind, .int .i64 x.p, .int .i64 x.q, .string x.str, .int .i64 x.ref] 26, blkA b #[v8, pB r3 0] 119, own VlT v8 L2, blkA g1 #[.int .i64 x.kind, .int .i64 x.p, .int .i64 x.q, .string x.str, .int .i64 x.ref] 26] ?_
   refine hp_ 0 [0, 0, 0, 1] (pB b 0) ?_
   refine hp_ 1 [0, 0, 0, 1] (pB b 0) ?_
   refine hp_ 2 [0, 0, 0, 1] (pB b 1) ?_
   refine h_l 3 rfl [0, 0, 0, 1] (fun _ => (t_load 1 (pB r3 0))) ?_
   refine hp_ 4 [0, 0, 0, 1] (pB b 0) ?_
   refine hp_ 5 [0, 0, 0, 1] (pB b 0) ?_
   refine hp_ 6 [0, 0, 0, 1] (pB b 0) ?_
   refine h_l 7 rfl [0, 0, 0, 1] (fun _ => (t_load 1 v8)) ?_
   refine h_l 8 rfl [0, 0, 0, 1] (fun _ => (t_len VlT_ok Tryz.underlying33 (.own 2))) ?_
   refine h_stepS3 9 16 17 ?_ ?_ ?_
   ·
    refine s_vcall (fun _ h => ofint_s (L2.length : Int)) ?_
    rintro u11 e10
    obtain rfl : u11 = (ofI ((X.length : Int) + 1)).v := by rw [e10, show (L2.length : Int) = (X.length : Int) + 1 by omega]
    refine s_nil (xs_held [0, 0, 0, 1] ?_)
    refine h_stepS3 10 16 17 ?_ ?_ ?_
    ·
     refine s_call [3] (omnext_s (S := S) (by (try simp only [lnm]); omega) (ofI ((X.length : Int) + 1))) ?_
     rintro _ _ ⟨rfl, rfl⟩
     refine s_nil (xs_held [1, 1, 1, 1] ?_)
     refine hp_ 11 [1, 1, 1, 1] (.tuple #[.agg #[.int .i64 (((onext S (ofI ((X.length : Int) + 1))).1).kind), .int .i64 (((onext S (ofI ((X.length : Int) + 1))).1).p), .int .i64 (((onext S (ofI ((X.length : Int) + 1))).1).q), .string (((onext S (ofI ((X.length : Int) + 1))).1).str), .int .i64 (((onext S (ofI ((X.length : Int) + 1))).1).ref)], .agg #[.int .i64 (((onext S (ofI ((X.length : Int) + 1))).2.1).kind), .int .i64 (((onext S (ofI ((X.length : Int) + 1))).2.1).p), .int .i64 (((onext S (ofI ((X.length : Int) + 1))).2.1).q), .string (((onext S (ofI ((X.length : Int) + 1))).2.1).str), .int .i64 (((onext S (ofI ((X.length : Int) + 1))).2.1).ref)], .bool ((onext S (ofI ((X.length : Int) + 1))).2.2.1), .int .i64 ((onext S (ofI ((X.length : Int) + 1))).2.2.2)]) ?_
     refine hp_ 12 [1, 1, 1, 1] (.agg #[.int .i64 (((onext S (ofI ((X.length : Int) + 1))).1).kind), .int .i64 (((onext S (ofI ((X.length : Int) + 1))).1).p), .int .i64 (((onext S (ofI ((X.length : Int) + 1))).1).q), .string (((onext S (ofI ((X.length : Int) + 1))).1).str), .int .i64 (((onext S (ofI ((X.length : Int) + 1))).1).ref)]) ?_
     refine hp_ 13 [1, 1, 1, 1] (.agg #[.int .i64 (((onext S (ofI ((X.length : Int) + 1))).2.1).kind), .int .i64 (((onext S (ofI ((X.length : Int) + 1))).2.1).p), .int .i64 (((onext S (ofI ((X.length : Int) + 1))).2.1).q), .string (((onext S (ofI ((X.length : Int) + 1))).2.1).str), .int .i64 (((onext S (ofI ((X.length : Int) + 1))).2.1).ref)]) ?_
     refine hp_ 14 [1, 1, 1, 1] (.bool ((onext S (ofI ((X.length : Int) + 1))).2.2.1)) ?_
     refine hp_ 15 [1, 1, 1, 1] (.int .i64 ((onext S (ofI ((X.length : Int) + 1))).2.2.2)) ?_
     refine h_stepS2 16 17 ?_ ?_
     ·
      refine s_alloc (.agg #[.int .i64 0, .int .i64 0, .int .i64 0, .string ByteArray.empty, .int .i64 0]) #[.int .i64 0, .int .i64 0, .int .i64 0, .string ByteArray.empty, .int .i64 0] (fun g12 => ?_)
      refine s_nil (xs_held [2, 2, 2, 2] ?_)
      refine h_stepS 17 ?_
      refine s_alloc (.agg #[.int .i64 0, .int .i64 0, .int .i64 0, .string ByteArray.empty, .int .i64 0]) #[.int .i64 0, .int .i64 0, .int .i64 0, .string ByteArray.empty, .int .i64 0] (fun g13 => ?_)
      refine s_nil (xs_held [3, 3, 3, 3] ?_)
      refine h_stepS 18 ?_
      refine s_store 1 #[.int .i64 (((onext S (ofI ((X.length : Int) + 1))).1).kind), .int .i64 (((onext S (ofI ((X.length : Int) + 1))).1).p), .int .i64 (((onext S (ofI ((X.length : Int) + 1))).1).q), .string (((onext S (ofI ((X.length : Int) + 1))).1).str), .int .i64 (((onext S (ofI ((X.length : Int) + 1))).1).ref)] ?_
      refine s_nil (xs_held [3, 3, 3, 3] ?_)
      refine h_stepS 19 ?_
      refine s_store 0 #[.int .i64 (((onext S (ofI ((X.length : Int) + 1))).2.1).kind), .int .i64 (((onext S (ofI ((X.length : Int) + 1))).2.1).p), .int .i64 (((onext S (ofI ((X.length : Int) + 1))).2.1).q), .string (((onext S (ofI ((X.length : Int) + 1))).2.1).str), .int .i64 (((onext S (ofI ((X.length : Int) + 1))).2.1).ref)] ?_
      refine s_nil (xs_held [3, 3, 3, 3] ?_)
      refine hp_ 20 [3, 3, 3, 3] (.bool ((onext S (ofI ((X.length : Int) + 1))).2.2.1)) ?_
      refine hp_ 21 [3, 3, 3, 3] (.int .i64 ((onext S (ofI ((X.length : Int) + 1))).2.2.2)) ?_
      refine h_doneS ?_
      exact xcut () (fun _ h => h.re [3, 3, 3, 2, 2] [5, 5])
     ·
      refine s_alloc (.agg #[.int .i64 0, .int .i64 0, .int .i64 0, .string ByteArray.empty, .int .i64 0]) #[.int .i64 0, .int .i64 0, .int .i64 0, .string ByteArray.empty, .int .i64 0] (fun g14 => ?_)
      refine s_nil (xs_held [2, 2, 2, 2] ?_)
      refine h_stepS 16 ?_
      refine s_alloc (.agg #[.int .i64 0, .int .i64 0, .int .i64 0, .string ByteArray.empty, .int .i64 0]) #[.int .i64 0, .int .i64 0, .int .i64 0, .string ByteArray.empty, .int .i64 0] (fun g15 => ?_)
      refine s_nil (xs_held [3, 3, 3, 3] ?_)
      refine h_stepS 18 ?_
      refine s_store 0 #[.int .i64 (((onext S (ofI ((X.length : Int) + 1))).1).kind), .int .i64 (((onext S (ofI ((X.length : Int) + 1))).1).p), .int .i64 (((onext S (ofI ((X.length : Int) + 1))).1).q), .string (((onext S (ofI ((X.length : Int) + 1))).1).str), .int .i64 (((onext S (ofI ((X.length : Int) + 1))).1).ref)] ?_
      refine s_nil (xs_held [3, 3, 3, 3] ?_)
      refine h_stepS 19 ?_
      refine s_store 1 #[.int .i64 (((onext S (ofI ((X.length : Int) + 1))).2.1).kind), .int .i64 (((onext S (ofI ((X.length : Int) + 1))).2.1).p), .int .i64 (((onext S (ofI ((X.length : Int) + 1))).2.1).q), .string (((onext S (ofI ((X.length : Int) + 1))).2.1).str), .int .i64 (((onext S (ofI ((X.length : Int) + 1))).2.1).ref)] ?_
      refine s_nil (xs_held [3, 3, 3, 3] ?_)
      refine hp_ 20 [3, 3, 3, 3] (.bool ((onext S (ofI ((X.length : Int) + 1))).2.2.1)) ?_
      refine hp_ 21 [3, 3, 3, 3] (.int .i64 ((onext S (ofI ((X.length : Int) + 1))).2.2.2)) ?_
      refine h_doneS ?_
      exact xcut () (fun _ h => h.re [3, 3, 3, 2, 2] [5, 5])
    ·
     refine s_alloc (.agg #[.int .i64 0, .int .i64 0, .int .i64 0, .string ByteArray.empty, .int .i64 0]) #[.int .i64 0, .int .i64 0, .int .i64 0, .string ByteArray.empty, .int .i64 0] (fun g16 => ?_)
     refine s_nil (xs_held [1, 1, 1, 2] ?_)
     refine h_stepS2 10 17 ?_ ?_
     ·
      refine s_call [4] (omnext_s (S := S) (by (try simp only [lnm]); omega) (ofI ((X.length : Int) + 1))) ?_
      rintro _ _ ⟨rfl, rfl⟩
      refine s_nil (xs_held [2, 2, 2, 2] ?_)
      refine hp_ 11 [2, 2, 2, 2] (.tuple #[.agg #[.int .i64 (((onext S (ofI ((X.length : Int) + 1))).1).kind), .int .i64 (((onext S (ofI ((X.length : Int) + 1))).1).p), .int .i64 (((onext S (ofI ((X.length : Int) + 1))).1).q), .string (((onext S (ofI ((X.length : Int) + 1))).1).str), .int .i64 (((onext S (ofI ((X.length : Int) + 1))).1).ref)], .agg #[.int .i64 (((onext S (ofI ((X.length : Int) + 1))).2.1).kind), .int .i64 (((onext S (ofI ((X.length : Int) + 1))).2.1).p), .int .i64 (((onext S (ofI ((X.length : Int) + 1))).2.1).q), .string (((onext S (ofI ((X.length : Int) + 1))).2.1).str), .int .i64 (((onext S (ofI ((X.length : Int) + 1))).2.1).ref)], .bool ((onext S (ofI ((X.length : Int) + 1))).2.2.1), .int .i64 ((onext S (ofI ((X.length : Int) + 1))).2.2.2)]) ?_
      refine hp_ 12 [2, 2, 2, 2] (.agg #[.int .i64 (((onext S (ofI ((X.length : Int) + 1))).1).kind), .int .i64 (((onext S (ofI ((X.length : Int) + 1))).1).p), .int .i64 (((onext S (ofI ((X.length : Int) + 1))).1).q), .string (((onext S (ofI ((X.length : Int) + 1))).1).str), .int .i64 (((onext S (ofI ((X.length : Int) + 1))).1).ref)]) ?_
      refine hp_ 13 [2, 2, 2, 2] (.agg #[.int .i64 (((onext S (ofI ((X.length : Int) + 1))).2.1).kind), .int .i64 (((onext S (ofI ((X.length : Int) + 1))).2.1).p), .int .i64 (((onext S (ofI ((X.length : Int) + 1))).2.1).q), .string (((onext S (ofI ((X.length : Int) + 1))).2.1).str), .int .i64 (((onext S (ofI ((X.length : Int) + 1))).2.1).ref)]) ?_
      refine hp_ 14 [2, 2, 2, 2] (.bool ((onext S (ofI ((X.length : Int) + 1))).2.2.1)) ?_
      refine hp_ 15 [2, 2, 2, 2] (.int .i64 ((onext S (ofI ((X.length : Int) + 1))).2.2.2)) ?_
      refine h_stepS 17 ?_
      refine s_alloc (.agg #[.int .i64 0, .int .i64 0, .int .i64 0, .string ByteArray.empty, .int .i64 0]) #[.int .i64 0, .int .i64 0, .int .i64 0, .string ByteArray.empty, .int .i64 0] (fun g17 => ?_)
      refine s_nil (xs_held [3, 3, 3, 3] ?_)
      refine h_stepS 18 ?_
      refine s_store 2 #[.int .i64 (((onext S (ofI ((X.length : Int) + 1))).1).kind), .int .i64 (((onext S (ofI ((X.length : Int) + 1))).1).p), .int .i64 (((onext S (ofI ((X.length : Int) + 1))).1).q), .string (((onext S (ofI ((X.length : Int) + 1))).1).str), .int .i64 (((onext S (ofI ((X.length : Int) + 1))).1).ref)] ?_
      refine s_nil (xs_held [3, 3, 3, 3] ?_)
      refine h_stepS 19 ?_
      refine s_store 0 #[.int .i64 (((onext S (ofI ((X.length : Int) + 1))).2.1).kind), .int .i64 (((onext S (ofI ((X.length : Int) + 1))).2.1).p), .int .i64 (((onext S (ofI ((X.length : Int) + 1))).2.1).q), .string (((onext S (ofI ((X.length : Int) + 1))).2.1).str), .int .i64 (((onext S (ofI ((X.length : Int) + 1))).2.1).ref)] ?_
      refine s_nil (xs_held [3, 3, 3, 3] ?_)
      refine hp_ 20 [3, 3, 3, 3] (.bool ((onext S (ofI ((X.length : Int) + 1))).2.2.1)) ?_
      refine hp_ 21 [3, 3, 3, 3] (.int .i64 ((onext S (ofI ((X.length : Int) + 1))).2.2.2)) ?_
      refine h_doneS ?_
      exact xcut () (fun _ h => h.re [3, 3, 3, 1, 2] [5, 5])
     ·
      refine s_alloc (.agg #[.int .i64 0, .int .i64 0, .int .i64 0, .string ByteArray.empty, .int .i64 0]) #[.int .i64 0, .int .i64 0, .int .i64 0, .string ByteArray.empty, .int .i64 0] (fun g18 => ?_)
      refine s_nil (xs_held [2, 2, 2, 3] ?_)
      refine h_stepS 10 ?_
      refine s_call [5] (omnext_s (S := S) (by (try simp only [lnm]); omega) (ofI ((X.length : Int) + 1))) ?_
      rintro _ _ ⟨rfl, rfl⟩
      refine s_nil (xs_held [3, 3, 3, 3] ?_)
      refine hp_ 11 [3, 3, 3, 3] (.tuple #[.agg #[.int .i64 (((onext S (ofI ((X.length : Int) + 1))).1).kind), .int .i64 (((onext S (ofI ((X.length : Int) + 1))).1).p), .int .i64 (((onext S (ofI ((X.length : Int) + 1))).1).q), .string (((onext S (ofI ((X.length : Int) + 1))).1).str), .int .i64 (((onext S (ofI ((X.length : Int) + 1))).1).ref)], .agg #[.int .i64 (((onext S (ofI ((X.length : Int) + 1))).2.1).kind), .int .i64 (((onext S (ofI ((X.length : Int) + 1))).2.1).p), .int .i64 (((onext S (ofI ((X.length : Int) + 1))).2.1).q), .string (((onext S (ofI ((X.length : Int) + 1))).2.1).str), .int .i64 (((onext S (ofI ((X.length : Int) + 1))).2.1).ref)], .bool ((onext S (ofI ((X.length : Int) + 1))).2.2.1), .int .i64 ((onext S (ofI ((X.length : Int) + 1))).2.2.2)]) ?_
      refine hp_ 12 [3, 3, 3, 3] (.agg #[.int .i64 (((onext S (ofI ((X.length : Int) + 1))).1).kind), .int .i64 (((onext S (ofI ((X.length : Int) + 1))).1).p), .int .i64 (((onext S (ofI ((X.length : Int) + 1))).1).q), .string (((onext S (ofI ((X.length : Int) + 1))).1).str), .int .i64 (((onext S (ofI ((X.length : Int) + 1))).1).ref)]) ?_
      refine hp_ 13 [3, 3, 3, 3] (.agg #[.int .i64 (((onext S (ofI ((X.length : Int) + 1))).2.1).kind), .int .i64 (((onext S (ofI ((X.length : Int) + 1))).2.1).p), .int .i64 (((onext S (ofI ((X.length : Int) + 1))).2.1).q), .string (((onext S (ofI ((X.length : Int) + 1))).2.1).str), .int .i64 (((onext S (ofI ((X.length : Int) + 1))).2.1).ref)]) ?_
      refine hp_ 14 [3, 3, 3, 3] (.bool ((onext S (ofI ((X.length : Int) + 1))).2.2.1)) ?_
      refine hp_ 15 [3, 3, 3, 3] (.int .i64 ((onext S (ofI ((X.length : Int) + 1))).2.2.2)) ?_
      refine h_stepS 18 ?_
      refine s_store 2 #[.int .i64 (((onext S (ofI ((X.length : Int) + 1))).1).kind), .int .i64 (((onext S (ofI ((X.length : Int) + 1))).1).p), .int .i64 (((onext S (ofI ((X.length : Int) + 1))).1).q), .string (((onext S (ofI ((X.length : Int) + 1))).1).str), .int .i64 (((onext S (ofI ((X.length : Int) + 1))).1).ref)] ?_
      refine s_nil (xs_held [3, 3, 3, 3] ?_)
      refine h_stepS 19 ?_
      refine s_store 1 #[.int .i64 (((onext S (ofI ((X.length : Int) + 1))).2.1).kind), .int .i64 (((onext S (ofI ((X.length : Int) + 1))).2.1).p), .int .i64 (((onext S (ofI ((X.length : Int) + 1))).2.1).q), .string (((onext S (ofI ((X.length : Int) + 1))).2.1).str), .int .i64 (((onext S (ofI ((X.length : Int) + 1))).2.1).ref)] ?_
      refine s_nil (xs_held [3, 3, 3, 3] ?_)
      refine hp_ 20 [3, 3, 3, 3] (.bool ((onext S (ofI ((X.length : Int) + 1))).2.2.1)) ?_
      refine hp_ 21 [3, 3, 3, 3] (.int .i64 ((onext S (ofI ((X.length : Int) + 1))).2.2.2)) ?_
      refine h_doneS ?_
      exact xcut () (fun _ h => h.re [3, 3, 3, 0, 2] [5, 5])
    ·
     refine s_alloc (.agg #[.int .i64 0, .int .i64 0, .int .i64 0, .string ByteArray.empty, .int .i64 0]) #[.int .i64 0, .int .i64 0, .int .i64 0, .string ByteArray.empty, .int .i64 0] (fun g19 => ?_)
     refine s_nil (xs_held [1, 1, 1, 2] ?_)
     refine h_stepS2 10 16 ?_ ?_
     ·
      refine s_call [4] (omnext_s (S := S) (by (try simp only [lnm]); omega) (ofI ((X.length : Int) + 1))) ?_
      rintro _ _ ⟨rfl, rfl⟩
      refine s_nil (xs_held [2, 2, 2, 2] ?_)
      refine hp_ 11 [2, 2, 2, 2] (.tuple #[.agg #[.int .i64 (((onext S (ofI ((X.length : Int) + 1))).1).kind), .int .i64 (((onext S (ofI ((X.length : Int) + 1))).1).p), .int .i64 (((onext S (ofI ((X.length : Int) + 1))).1).q), .string (((onext S (ofI ((X.length : Int) + 1))).1).str), .int .i64 (((onext S (ofI ((X.length : Int) + 1))).1).ref)], .agg #[.int .i64 (((onext S (ofI ((X.length : Int) + 1))).2.1).kind), .int .i64 (((onext S (ofI ((X.length : Int) + 1))).2.1).p), .int .i64 (((onext S (ofI ((X.length : Int) + 1))).2.1).q), .string (((onext S (ofI ((X.length : Int) + 1))).2.1).str), .int .i64 (((onext S (ofI ((X.length : Int) + 1))).2.1).ref)], .bool ((onext S (ofI ((X.length : Int) + 1))).2.2.1), .int .i64 ((onext S (ofI ((X.length : Int) + 1))).2.2.2)]) ?_
      refine hp_ 12 [2, 2, 2, 2] (.agg #[.int .i64 (((onext S (ofI ((X.length : Int) + 1))).1).kind), .int .i64 (((onext S (ofI ((X.length : Int) + 1))).1).p), .int .i64 (((onext S (ofI ((X.length : Int) + 1))).1).q), .string (((onext S (ofI ((X.length : Int) + 1))).1).str), .int .i64 (((onext S (ofI ((X.length : Int) + 1))).1).ref)]) ?_
      refine hp_ 13 [2, 2, 2, 2] (.agg #[.int .i64 (((onext S (ofI ((X.length : Int) + 1))).2.1).kind), .int .i64 (((onext S (ofI ((X.length : Int) + 1))).2.1).p), .int .i64 (((onext S (ofI ((X.length : Int) + 1))).2.1).q), .string (((onext S (ofI ((X.length : Int) + 1))).2.1).str), .int .i64 (((onext S (ofI ((X.length : Int) + 1))).2.1).ref)]) ?_
      refine hp_ 14 [2, 2, 2, 2] (.bool ((onext S (ofI ((X.length : Int) + 1))).2.2.1)) ?_
      refine hp_ 15 [2, 2, 2, 2] (.int .i64 ((onext S (ofI ((X.length : Int) + 1))).2.2.2)) ?_
      refine h_stepS 16 ?_
      refine s_alloc (.agg #[.int .i64 0, .int .i64 0, .int .i64 0, .string ByteArray.empty, .int .i64 0]) #[.int .i64 0, .int .i64 0, .int .i64 0, .string ByteArray.empty, .int .i64 0] (fun g20 => ?_)
      refine s_nil (xs_held [3, 3, 3, 3] ?_)
      refine h_stepS 18 ?_
      refine s_store 0 #[.int .i64 (((onext S (ofI ((X.length : Int) + 1))).1).kind), .int .i64 (((onext S (ofI ((X.length : Int) + 1))).1).p), .int .i64 (((onext S (ofI ((X.length : Int) + 1))).1).q), .string (((onext S (ofI ((X.length : Int) + 1))).1).str), .int .i64 (((onext S (ofI ((X.length : Int) + 1))).1).ref)] ?_
      refine s_nil (xs_held [3, 3, 3, 3] ?_)
      refine h_stepS 19 ?_
      refine s_store 2 #[.int .i64 (((onext S (ofI ((X.length : Int) + 1))).2.1).kind), .int .i64 (((onext S (ofI ((X.length : Int) + 1))).2.1).p), .int .i64 (((onext S (ofI ((X.length : Int) + 1))).2.1).q), .string (((onext S (ofI ((X.length : Int) + 1))).2.1).str), .int .i64 (((onext S (ofI ((X.length : Int) + 1))).2.1).ref)] ?_
      refine s_nil (xs_held [3, 3, 3, 3] ?_)
      refine hp_ 20 [3, 3, 3, 3] (.bool ((onext S (ofI ((X.length : Int) + 1))).2.2.1)) ?_
      refine hp_ 21 [3, 3, 3, 3] (.int .i64 ((onext S (ofI ((X.length : Int) + 1))).2.2.2)) ?_
      refine h_doneS ?_
      exact xcut () (fun _ h => h.re [3, 3, 3, 1, 2] [5, 5])
     ·
      refine s_alloc (.agg #[.int .i64 0, .int .i64 0, .int .i64 0, .string ByteArray.empty, .int .i64 0]) #[.int .i64 0, .int .i64 0, .int .i64 0, .string ByteArray.empty, .int .i64 0] (fun g21 => ?_)
      refine s_nil (xs_held [2, 2, 2, 3] ?_)
      refine h_stepS 10 ?_
      refine s_call [5] (omnext_s (S := S) (by (try simp only [lnm]); omega) (ofI ((X.length : Int) + 1))) ?_
      rintro _ _ ⟨rfl, rfl⟩
      refine s_nil (xs_held [3, 3, 3, 3] ?_)
      refine hp_ 11 [3, 3, 3, 3] (.tuple #[.agg #[.int .i64 (((onext S (ofI ((X.length : Int) + 1))).1).kind), .int .i64 (((onext S (ofI ((X.length : Int) + 1))).1).p), .int .i64 (((onext S (ofI ((X.length : Int) + 1))).1).q), .string (((onext S (ofI ((X.length : Int) + 1))).1).str), .int .i64 (((onext S (ofI ((X.length : Int) + 1))).1).ref)], .agg #[.int .i64 (((onext S (ofI ((X.length : Int) + 1))).2.1).kind), .int .i64 (((onext S (ofI ((X.length : Int) + 1))).2.1).p), .int .i64 (((onext S (ofI ((X.length : Int) + 1))).2.1).q), .string (((onext S (ofI ((X.length : Int) + 1))).2.1).str), .int .i64 (((onext S (ofI ((X.length : Int) + 1))).2.1).ref)], .bool ((onext S (ofI ((X.length : Int) + 1))).2.2.1), .int .i64 ((onext S (ofI ((X.length : Int) + 1))).2.2.2)]) ?_
      refine hp_ 12 [3, 3, 3, 3] (.agg #[.int .i64 (((onext S (ofI ((X.length : Int) + 1))).1).kind), .int .i64 (((onext S (ofI ((X.length : Int) + 1))).1).p), .int .i64 (((onext S (ofI ((X.length : Int) + 1))).1).q), .string (((onext S (ofI ((X.length : Int) + 1))).1).str), .int .i64 (((onext S (ofI ((X.length : Int) + 1))).1).ref)]) ?_
      refine hp_ 13 [3, 3, 3, 3] (.agg #[.int .i64 (((onext S (ofI ((X.length : Int) + 1))).2.1).kind), .int .i64 (((onext S (ofI ((X.length : Int) + 1))).2.1).p), .int .i64 (((onext S (ofI ((X.length : Int) + 1))).2.1).q), .string (((onext S (ofI ((X.length : Int) + 1))).2.1).str), .int .i64 (((onext S (ofI ((X.length : Int) + 1))).2.1).ref)]) ?_
      refine hp_ 14 [3, 3, 3, 3] (.bool ((onext S (ofI ((X.length : Int) + 1))).2.2.1)) ?_
      refine hp_ 15 [3, 3, 3, 3] (.int .i64 ((onext S (ofI ((X.length : Int) + 1))).2.2.2)) ?_
      refine h_stepS 18 ?_
      refine s_store 1 #[.int .i64 (((onext S (ofI ((X.length : Int) + 1))).1).kind), .int .i64 (((onext S (ofI ((X.length : Int) + 1))).1).p), .int .i64 (((onext S (ofI ((X.length : Int) + 1))).1).q), .string (((onext S (ofI ((X.length : Int) + 1))).1).str), .int .i64 (((onext S (ofI ((X.length : Int) + 1))).1).ref)] ?_
      refine s_nil (xs_held [3, 3, 3, 3] ?_)
      refine h_stepS 19 ?_
      refine s_store 2 #[.int .i64 (((onext S (ofI ((X.length : Int) + 1))).2.1).kind), .int .i64 (((onext S (ofI ((X.length : Int) + 1))).2.1).p), .int .i64 (((onext S (ofI ((X.length : Int) + 1))).2.1).q), .string (((onext S (ofI ((X.length : Int) + 1))).2.1).str), .int .i64 (((onext S (ofI ((X.length : Int) + 1))).2.1).ref)] ?_
      refine s_nil (xs_held [3, 3, 3, 3] ?_)
      refine hp_ 20 [3, 3, 3, 3] (.bool ((onext S (ofI ((X.length : Int) + 1))).2.2.1)) ?_
      refine hp_ 21 [3, 3, 3, 3] (.int .i64 ((onext S (ofI ((X.length : Int) + 1))).2.2.2)) ?_
      refine h_doneS ?_
      exact xcut () (fun _ h => h.re [3, 3, 3, 0, 2] [5, 5])
   ·
    refine s_alloc (.agg #[.int .i64 0, .int .i64 0, .int .i64 0, .string ByteArray.empty, .int .i64 0]) #[.int .i64 0, .int .i64 0, .int .i64 0, .string ByteArray.empty, .int .i64 0] (fun g22 => ?_)
    refine s_nil (xs_held [1, 1, 1, 2] ?_)
    refine h_stepS2 9 17 ?_ ?_
    ·
     refine s_vcall (fun _ h => ofint_s (L2.length : Int)) ?_
     rintro u24 e23
     obtain rfl : u24 = (ofI ((X.length : Int) + 1)).v := by rw [e23, show (L2.length : Int) = (X.length : Int) + 1 by omega]
     refine s_nil (xs_held [1, 1, 1, 2] ?_)
     refine h_stepS2 10 17 ?_ ?_
     ·
      refine s_call [4] (omnext_s (S := S) (by (try simp only [lnm]); omega) (ofI ((X.length : Int) + 1))) ?_
      rintro _ _ ⟨rfl, rfl⟩
      refine s_nil (xs_held [2, 2, 2, 2] ?_)
      refine hp_ 11 [2, 2, 2, 2] (.tuple #[.agg #[.int .i64 (((onext S (ofI ((X.length : Int) + 1))).1).kind), .int .i64 (((onext S (ofI ((X.length : Int) + 1))).1).p), .int .i64 (((onext S (ofI ((X.length : Int) + 1))).1).q), .string (((onext S (ofI ((X.length : Int) + 1))).1).str), .int .i64 (((onext S (ofI ((X.length : Int) + 1))).1).ref)], .agg #[.int .i64 (((onext S (ofI ((X.length : Int) + 1))).2.1).kind), .int .i64 (((onext S (ofI ((X.length : Int) + 1))).2.1).p), .int .i64 (((onext S (ofI ((X.length : Int) + 1))).2.1).q), .string (((onext S (ofI ((X.length : Int) + 1))).2.1).str), .int .i64 (((onext S (ofI ((X.length : Int) + 1))).2.1).ref)], .bool ((onext S (ofI ((X.length : Int) + 1))).2.2.1), .int .i64 ((onext S (ofI ((X.length : Int) + 1))).2.2.2)]) ?_
      refine hp_ 12 [2, 2, 2, 2] (.agg #[.int .i64 (((onext S (ofI ((X.length : Int) + 1))).1).kind), .int .i64 (((onext S (ofI ((X.length : Int) + 1))).1).p), .int .i64 (((onext S (ofI ((X.length : Int) + 1))).1).q), .string (((onext S (ofI ((X.length : Int) + 1))).1).str), .int .i64 (((onext S (ofI ((X.length : Int) + 1))).1).ref)]) ?_
      refine hp_ 13 [2, 2, 2, 2] (.agg #[.int .i64 (((onext S (ofI ((X.length : Int) + 1))).2.1).kind), .int .i64 (((onext S (ofI ((X.length : Int) + 1))).2.1).p), .int .i64 (((onext S (ofI ((X.length : Int) + 1))).2.1).q), .string (((onext S (ofI ((X.length : Int) + 1))).2.1).str), .int .i64 (((onext S (ofI ((X.length : Int) + 1))).2.1).ref)]) ?_
      refine hp_ 14 [2, 2, 2, 2] (.bool ((onext S (ofI ((X.length : Int) + 1))).2.2.1)) ?_
      refine hp_ 15 [2, 2, 2, 2] (.int .i64 ((onext S (ofI ((X.length : Int) + 1))).2.2.2)) ?_
      refine h_stepS 17 ?_
      refine s_alloc (.agg #[.int .i64 0, .int .i64 0, .int .i64 0, .string ByteArray.empty, .int .i64 0]) #[.int .i64 0, .int .i64 0, .int .i64 0, .string ByteArray.empty, .int .i64 0] (fun g25 => ?_)
      refine s_nil (xs_held [3, 3, 3, 3] ?_)
      refine h_stepS 18 ?_
      refine s_store 2 #[.int .i64 (((onext S (ofI ((X.length : Int) + 1))).1).kind), .int .i64 (((onext S (ofI ((X.length : Int) + 1))).1).p), .int .i64 (((onext S (ofI ((X.length : Int) + 1))).1).q), .string (((onext S (ofI ((X.length : Int) + 1))).1).str), .int .i64 (((onext S (ofI ((X.length : Int) + 1))).1).ref)] ?_
      refine s_nil (xs_held [3, 3, 3, 3] ?_)
      refine h_stepS 19 ?_
      refine s_store 0 #[.int .i64 (((onext S (ofI ((X.length : Int) + 1))).2.1).kind), .int .i64 (((onext S (ofI ((X.length : Int) + 1))).2.1).p), .int .i64 (((onext S (ofI ((X.length : Int) + 1))).2.1).q), .string (((onext S (ofI ((X.length : Int) + 1))).2.1).str), .int .i64 (((onext S (ofI ((X.length : Int) + 1))).2.1).ref)] ?_
      refine s_nil (xs_held [3, 3, 3, 3] ?_)
      refine hp_ 20 [3, 3, 3, 3] (.bool ((onext S (ofI ((X.length : Int) + 1))).2.2.1)) ?_
      refine hp_ 21 [3, 3, 3, 3] (.int .i64 ((onext S (ofI ((X.length : Int) + 1))).2.2.2)) ?_
      refine h_doneS ?_
      exact xcut () (fun _ h => h.re [3, 3, 3, 1, 2] [5, 5])
     ·
      refine s_alloc (.agg #[.int .i64 0, .int .i64 0, .int .i64 0, .string ByteArray.empty, .int .i64 0]) #[.int .i64 0, .int .i64 0, .int .i64 0, .string ByteArray.empty, .int .i64 0] (fun g26 => ?_)
      refine s_nil (xs_held [2, 2, 2, 3] ?_)
      refine h_stepS 10 ?_
      refine s_call [5] (omnext_s (S := S) (by (try simp only [lnm]); omega) (ofI ((X.length : Int) + 1))) ?_
      rintro _ _ ⟨rfl, rfl⟩
      refine s_nil (xs_held [3, 3, 3, 3] ?_)
      refine hp_ 11 [3, 3, 3, 3] (.tuple #[.agg #[.int .i64 (((onext S (ofI ((X.length : Int) + 1))).1).kind), .int .i64 (((onext S (ofI ((X.length : Int) + 1))).1).p), .int .i64 (((onext S (ofI ((X.length : Int) + 1))).1).q), .string (((onext S (ofI ((X.length : Int) + 1))).1).str), .int .i64 (((onext S (ofI ((X.length : Int) + 1))).1).ref)], .agg #[.int .i64 (((onext S (ofI ((X.length : Int) + 1))).2.1).kind), .int .i64 (((onext S (ofI ((X.length : Int) + 1))).2.1).p), .int .i64 (((onext S (ofI ((X.length : Int) + 1))).2.1).q), .string (((onext S (ofI ((X.length : Int) + 1))).2.1).str), .int .i64 (((onext S (ofI ((X.length : Int) + 1))).2.1).ref)], .bool ((onext S (ofI ((X.length : Int) + 1))).2.2.1), .int .i64 ((onext S (ofI ((X.length : Int) + 1))).2.2.2)]) ?_
      refine hp_ 12 [3, 3, 3, 3] (.agg #[.int .i64 (((onext S (ofI ((X.length : Int) + 1))).1).kind), .int .i64 (((onext S (ofI ((X.length : Int) + 1))).1).p), .int .i64 (((onext S (ofI ((X.length : Int) + 1))).1).q), .string (((onext S (ofI ((X.length : Int) + 1))).1).str), .int .i64 (((onext S (ofI ((X.length : Int) + 1))).1).ref)]) ?_
      refine hp_ 13 [3, 3, 3, 3] (.agg #[.int .i64 (((onext S (ofI ((X.length : Int) + 1))).2.1).kind), .int .i64 (((onext S (ofI ((X.length : Int) + 1))).2.1).p), .int .i64 (((onext S (ofI ((X.length : Int) + 1))).2.1).q), .string (((onext S (ofI ((X.length : Int) + 1))).2.1).str), .int .i64 (((onext S (ofI ((X.length : Int) + 1))).2.1).ref)]) ?_
      refine hp_ 14 [3, 3, 3, 3] (.bool ((onext S (ofI ((X.length : Int) + 1))).2.2.1)) ?_
      refine hp_ 15 [3, 3, 3, 3] (.int .i64 ((onext S (ofI ((X.length : Int) + 1))).2.2.2)) ?_
      refine h_stepS 18 ?_
      refine s_store 2 #[.int .i64 (((onext S (ofI ((X.length : Int) + 1))).1).kind), .int .i64 (((onext S (ofI ((X.length : Int) + 1))).1).p), .int .i64 (((onext S (ofI ((X.length : Int) + 1))).1).q), .string (((onext S (ofI ((X.length : Int) + 1))).1).str), .int .i64 (((onext S (ofI ((X.length : Int) + 1))).1).ref)] ?_
      refine s_nil (xs_held [3, 3, 3, 3] ?_)
      refine h_stepS 19 ?_
      refine s_store 1 #[.int .i64 (((onext S (ofI ((X.length : Int) + 1))).2.1).kind), .int .i64 (((onext S (ofI ((X.length : Int) + 1))).2.1).p), .int .i64 (((onext S (ofI ((X.length : Int) + 1))).2.1).q), .string (((onext S (ofI ((X.length : Int) + 1))).2.1).str), .int .i64 (((onext S (ofI ((X.length : Int) + 1))).2.1).ref)] ?_
      refine s_nil (xs_held [3, 3, 3, 3] ?_)
      refine hp_ 20 [3, 3, 3, 3] (.bool ((onext S (ofI ((X.length : Int) + 1))).2.2.1)) ?_
      refine hp_ 21 [3, 3, 3, 3] (.int .i64 ((onext S (ofI ((X.length : Int) + 1))).2.2.2)) ?_
      refine h_doneS ?_
      exact xcut () (fun _ h => h.re [3, 3, 3, 0, 2] [5, 5])
    ·
     refine s_alloc (.agg #[.int .i64 0, .int .i64 0, .int .i64 0, .string ByteArray.empty, .int .i64 0]) #[.int .i64 0, .int .i64 0, .int .i64 0, .string ByteArray.empty, .int .i64 0] (fun g27 => ?_)
     refine s_nil (xs_held [2, 2, 2, 3] ?_)
     refine h_stepS 9 ?_
     refine s_vcall (fun _ h => ofint_s (L2.length : Int)) ?_
     rintro u29 e28
     obtain rfl : u29 = (ofI ((X.length : Int) + 1)).v := by rw [e28, show (L2.length : Int) = (X.length : Int) + 1 by omega]
     refine s_nil (xs_held [2, 2, 2, 3] ?_)
     refine h_stepS 10 ?_
     refine s_call [5] (omnext_s (S := S) (by (try simp only [lnm]); omega) (ofI ((X.length : Int) + 1))) ?_
     rintro _ _ ⟨rfl, rfl⟩
     refine s_nil (xs_held [3, 3, 3, 3] ?_)
     refine hp_ 11 [3, 3, 3, 3] (.tuple #[.agg #[.int .i64 (((onext S (ofI ((X.length : Int) + 1))).1).kind), .int .i64 (((onext S (ofI ((X.length : Int) + 1))).1).p), .int .i64 (((onext S (ofI ((X.length : Int) + 1))).1).q), .string (((onext S (ofI ((X.length : Int) + 1))).1).str), .int .i64 (((onext S (ofI ((X.length : Int) + 1))).1).ref)], .agg #[.int .i64 (((onext S (ofI ((X.length : Int) + 1))).2.1).kind), .int .i64 (((onext S (ofI ((X.length : Int) + 1))).2.1).p), .int .i64 (((onext S (ofI ((X.length : Int) + 1))).2.1).q), .string (((onext S (ofI ((X.length : Int) + 1))).2.1).str), .int .i64 (((onext S (ofI ((X.length : Int) + 1))).2.1).ref)], .bool ((onext S (ofI ((X.length : Int) + 1))).2.2.1), .int .i64 ((onext S (ofI ((X.length : Int) + 1))).2.2.2)]) ?_
     refine hp_ 12 [3, 3, 3, 3] (.agg #[.int .i64 (((onext S (ofI ((X.length : Int) + 1))).1).kind), .int .i64 (((onext S (ofI ((X.length : Int) + 1))).1).p), .int .i64 (((onext S (ofI ((X.length : Int) + 1))).1).q), .string (((onext S (ofI ((X.length : Int) + 1))).1).str), .int .i64 (((onext S (ofI ((X.length : Int) + 1))).1).ref)]) ?_
     refine hp_ 13 [3, 3, 3, 3] (.agg #[.int .i64 (((onext S (ofI ((X.length : Int) + 1))).2.1).kind), .int .i64 (((onext S (ofI ((X.length : Int) + 1))).2.1).p), .int .i64 (((onext S (ofI ((X.length : Int) + 1))).2.1).q), .string (((onext S (ofI ((X.length : Int) + 1))).2.1).str), .int .i64 (((onext S (ofI ((X.length : Int) + 1))).2.1).ref)]) ?_
     refine hp_ 14 [3, 3, 3, 3] (.bool ((onext S (ofI ((X.length : Int) + 1))).2.2.1)) ?_
     refine hp_ 15 [3, 3, 3, 3] (.int .i64 ((onext S (ofI ((X.length : Int) + 1))).2.2.2)) ?_
     refine h_stepS 18 ?_
     refine s_store 2 #[.int .i64 (((onext S (ofI ((X.length : Int) + 1))).1).kind), .int .i64 (((onext S (ofI ((X.length : Int) + 1))).1).p), .int .i64 (((onext S (ofI ((X.length : Int) + 1))).1).q), .string (((onext S (ofI ((X.length : Int) + 1))).1).str), .int .i64 (((onext S (ofI ((X.length : Int) + 1))).1).ref)] ?_
     refine s_nil (xs_held [3, 3, 3, 3] ?_)
     refine h_stepS 19 ?_
     refine s_store 1 #[.int .i64 (((onext S (ofI ((X.length : Int) + 1))).2.1).kind), .int .i64 (((onext S (ofI ((X.length : Int) + 1))).2.1).p), .int .i64 (((onext S (ofI ((X.length : Int) + 1))).2.1).q), .string (((onext S (ofI ((X.length : Int) + 1))).2.1).str), .int .i64 (((onext S (ofI ((X.length : Int) + 1))).2.1).ref)] ?_
     refine s_nil (xs_held [3, 3, 3, 3] ?_)
     refine hp_ 20 [3, 3, 3, 3] (.bool ((onext S (ofI ((X.length : Int) + 1))).2.2.1)) ?_
     refine hp_ 21 [3, 3, 3, 3] (.int .i64 ((onext S (ofI ((X.length : Int) + 1))).2.2.2)) ?_
     refine h_doneS ?_
     exact xcut () (fun _ h => h.re [3, 3, 3, 0, 2] [5, 5])
   ·
    refine s_alloc (.agg #[.int .i64 0, .int .i64 0, .int .i64 0, .string ByteArray.empty, .int .i64 0]) #[.int .i64 0, .int .i64 0, .int .i64 0, .string ByteArray.empty, .int .i64 0] (fun g30 => ?_)
    refine s_nil (xs_held [1, 1, 1, 2] ?_)
    refine h_stepS2 9 16 ?_ ?_
    ·
     refine s_vcall (fun _ h => ofint_s (L2.length : Int)) ?_
     rintro u32 e31
     obtain rfl : u32 = (ofI ((X.length : Int) + 1)).v := by rw [e31, show (L2.length : Int) = (X.length : Int) + 1 by omega]
     refine s_nil (xs_held [1, 1, 1, 2] ?_)
     refine h_stepS2 10 16 ?_ ?_
     ·
      refine s_call [4] (omnext_s (S := S) (by (try simp only [lnm]); omega) (ofI ((X.length : Int) + 1))) ?_
      rintro _ _ ⟨rfl, rfl⟩
      refine s_nil (xs_held [2, 2, 2, 2] ?_)
      refine hp_ 11 [2, 2, 2, 2] (.tuple #[.agg #[.int .i64 (((onext S (ofI ((X.length : Int) + 1))).1).kind), .int .i64 (((onext S (ofI ((X.length : Int) + 1))).1).p), .int .i64 (((onext S (ofI ((X.length : Int) + 1))).1).q), .string (((onext S (ofI ((X.length : Int) + 1))).1).str), .int .i64 (((onext S (ofI ((X.length : Int) + 1))).1).ref)], .agg #[.int .i64 (((onext S (ofI ((X.length : Int) + 1))).2.1).kind), .int .i64 (((onext S (ofI ((X.length : Int) + 1))).2.1).p), .int .i64 (((onext S (ofI ((X.length : Int) + 1))).2.1).q), .string (((onext S (ofI ((X.length : Int) + 1))).2.1).str), .int .i64 (((onext S (ofI ((X.length : Int) + 1))).2.1).ref)], .bool ((onext S (ofI ((X.length : Int) + 1))).2.2.1), .int .i64 ((onext S (ofI ((X.length : Int) + 1))).2.2.2)]) ?_
      refine hp_ 12 [2, 2, 2, 2] (.agg #[.int .i64 (((onext S (ofI ((X.length : Int) + 1))).1).kind), .int .i64 (((onext S (ofI ((X.length : Int) + 1))).1).p), .int .i64 (((onext S (ofI ((X.length : Int) + 1))).1).q), .string (((onext S (ofI ((X.length : Int) + 1))).1).str), .int .i64 (((onext S (ofI ((X.length : Int) + 1))).1).ref)]) ?_
      refine hp_ 13 [2, 2, 2, 2] (.agg #[.int .i64 (((onext S (ofI ((X.length : Int) + 1))).2.1).kind), .int .i64 (((onext S (ofI ((X.length : Int) + 1))).2.1).p), .int .i64 (((onext S (ofI ((X.length : Int) + 1))).2.1).q), .string (((onext S (ofI ((X.length : Int) + 1))).2.1).str), .int .i64 (((onext S (ofI ((X.length : Int) + 1))).2.1).ref)]) ?_
      refine hp_ 14 [2, 2, 2, 2] (.bool ((onext S (ofI ((X.length : Int) + 1))).2.2.1)) ?_
      refine hp_ 15 [2, 2, 2, 2] (.int .i64 ((onext S (ofI ((X.length : Int) + 1))).2.2.2)) ?_
      refine h_stepS 16 ?_
      refine s_alloc (.agg #[.int .i64 0, .int .i64 0, .int .i64 0, .string ByteArray.empty, .int .i64 0]) #[.int .i64 0, .int .i64 0, .int .i64 0, .string ByteArray.empty, .int .i64 0] (fun g33 => ?_)
      refine s_nil (xs_held [3, 3, 3, 3] ?_)
      refine h_stepS 18 ?_
      refine s_store 0 #[.int .i64 (((onext S (ofI ((X.length : Int) + 1))).1).kind), .int .i64 (((onext S (ofI ((X.length : Int) + 1))).1).p), .int .i64 (((onext S (ofI ((X.length : Int) + 1))).1).q), .string (((onext S (ofI ((X.length : Int) + 1))).1).str), .int .i64 (((onext S (ofI ((X.length : Int) + 1))).1).ref)] ?_
      refine s_nil (xs_held [3, 3, 3, 3] ?_)
      refine h_stepS 19 ?_
      refine s_store 2 #[.int .i64 (((onext S (ofI ((X.length : Int) + 1))).2.1).kind), .int .i64 (((onext S (ofI ((X.length : Int) + 1))).2.1).p), .int .i64 (((onext S (ofI ((X.length : Int) + 1))).2.1).q), .string (((onext S (ofI ((X.length : Int) + 1))).2.1).str), .int .i64 (((onext S (ofI ((X.length : Int) + 1))).2.1).ref)] ?_
      refine s_nil (xs_held [3, 3, 3, 3] ?_)
      refine hp_ 20 [3, 3, 3, 3] (.bool ((onext S (ofI ((X.length : Int) + 1))).2.2.1)) ?_
      refine hp_ 21 [3, 3, 3, 3] (.int .i64 ((onext S (ofI ((X.length : Int) + 1))).2.2.2)) ?_
      refine h_doneS ?_
      exact xcut () (fun _ h => h.re [3, 3, 3, 1, 2] [5, 5])
     ·
      refine s_alloc (.agg #[.int .i64 0, .int .i64 0, .int .i64 0, .string ByteArray.empty, .int .i64 0]) #[.int .i64 0, .int .i64 0, .int .i64 0, .string ByteArray.empty, .int .i64 0] (fun g34 => ?_)
      refine s_nil (xs_held [2, 2, 2, 3] ?_)
      refine h_stepS 10 ?_
      refine s_call [5] (omnext_s (S := S) (by (try simp only [lnm]); omega) (ofI ((X.length : Int) + 1))) ?_
      rintro _ _ ⟨rfl, rfl⟩
      refine s_nil (xs_held [3, 3, 3, 3] ?_)
      refine hp_ 11 [3, 3, 3, 3] (.tuple #[.agg #[.int .i64 (((onext S (ofI ((X.length : Int) + 1))).1).kind), .int .i64 (((onext S (ofI ((X.length : Int) + 1))).1).p), .int .i64 (((onext S (ofI ((X.length : Int) + 1))).1).q), .string (((onext S (ofI ((X.length : Int) + 1))).1).str), .int .i64 (((onext S (ofI ((X.length : Int) + 1))).1).ref)], .agg #[.int .i64 (((onext S (ofI ((X.length : Int) + 1))).2.1).kind), .int .i64 (((onext S (ofI ((X.length : Int) + 1))).2.1).p), .int .i64 (((onext S (ofI ((X.length : Int) + 1))).2.1).q), .string (((onext S (ofI ((X.length : Int) + 1))).2.1).str), .int .i64 (((onext S (ofI ((X.length : Int) + 1))).2.1).ref)], .bool ((onext S (ofI ((X.length : Int) + 1))).2.2.1), .int .i64 ((onext S (ofI ((X.length : Int) + 1))).2.2.2)]) ?_
      refine hp_ 12 [3, 3, 3, 3] (.agg #[.int .i64 (((onext S (ofI ((X.length : Int) + 1))).1).kind), .int .i64 (((onext S (ofI ((X.length : Int) + 1))).1).p), .int .i64 (((onext S (ofI ((X.length : Int) + 1))).1).q), .string (((onext S (ofI ((X.length : Int) + 1))).1).str), .int .i64 (((onext S (ofI ((X.length : Int) + 1))).1).ref)]) ?_
      refine hp_ 13 [3, 3, 3, 3] (.agg #[.int .i64 (((onext S (ofI ((X.length : Int) + 1))).2.1).kind), .int .i64 (((onext S (ofI ((X.length : Int) + 1))).2.1).p), .int .i64 (((onext S (ofI ((X.length : Int) + 1))).2.1).q), .string (((onext S (ofI ((X.length : Int) + 1))).2.1).str), .int .i64 (((onext S (ofI ((X.length : Int) + 1))).2.1).ref)]) ?_
      refine hp_ 14 [3, 3, 3, 3] (.bool ((onext S (ofI ((X.length : Int) + 1))).2.2.1)) ?_
      refine hp_ 15 [3, 3, 3, 3] (.int .i64 ((onext S (ofI ((X.length : Int) + 1))).2.2.2)) ?_
      refine h_stepS 18 ?_
      refine s_store 1 #[.int .i64 (((onext S (ofI ((X.length : Int) + 1))).1).kind), .int .i64 (((onext S (ofI ((X.length : Int) + 1))).1).p), .int .i64 (((onext S (ofI ((X.length : Int) + 1))).1).q), .string (((onext S (ofI ((X.length : Int) + 1))).1).str), .int .i64 (((onext S (ofI ((X.length : Int) + 1))).1).ref)] ?_
      refine s_nil (xs_held [3, 3, 3, 3] ?_)
      refine h_stepS 19 ?_
      refine s_store 2 #[.int .i64 (((onext S (ofI ((X.length : Int) + 1))).2.1).kind), .int .i64 (((onext S (ofI ((X.length : Int) + 1))).2.1).p), .int .i64 (((onext S (ofI ((X.length : Int) + 1))).2.1).q), .string (((onext S (ofI ((X.length : Int) + 1))).2.1).str), .int .i64 (((onext S (ofI ((X.length : Int) + 1))).2.1).ref)] ?_
      refine s_nil (xs_held [3, 3, 3, 3] ?_)
      refine hp_ 20 [3, 3, 3, 3] (.bool ((onext S (ofI ((X.length : Int) + 1))).2.2.1)) ?_
      refine hp_ 21 [3, 3, 3, 3] (.int .i64 ((onext S (ofI ((X.length : Int) + 1))).2.2.2)) ?_
      refine h_doneS ?_
      exact xcut () (fun _ h => h.re [3, 3, 3, 0, 2] [5, 5])
    ·
     refine s_alloc (.agg #[.int .i64 0, .int .i64 0, .int .i64 0, .string ByteArray.empty, .int .i64 0]) #[.int .i64 0, .int .i64 0, .int .i64 0, .string ByteArray.empty, .int .i64 0] (fun g35 => ?_)
     refine s_nil (xs_held [2, 2, 2, 3] ?_)
     refine h_stepS 9 ?_
     refine s_vcall (fun _ h => ofint_s (L2.length : Int)) ?_
     rintro u37 e36
     obtain rfl : u37 = (ofI ((X.length : Int) + 1)).v := by rw [e36, show (L2.length : Int) = (X.length : Int) + 1 by omega]
     refine s_nil (xs_held [2, 2, 2, 3] ?_)
     refine h_stepS 10 ?_
     refine s_call [5] (omnext_s (S := S) (by (try simp only [lnm]); omega) (ofI ((X.length : Int) + 1))) ?_
     rintro _ _ ⟨rfl, rfl⟩
     refine s_nil (xs_held [3, 3, 3, 3] ?_)
     refine hp_ 11 [3, 3, 3, 3] (.tuple #[.agg #[.int .i64 (((onext S (ofI ((X.length : Int) + 1))).1).kind), .int .i64 (((onext S (ofI ((X.length : Int) + 1))).1).p), .int .i64 (((onext S (ofI ((X.length : Int) + 1))).1).q), .string (((onext S (ofI ((X.length : Int) + 1))).1).str), .int .i64 (((onext S (ofI ((X.length : Int) + 1))).1).ref)], .agg #[.int .i64 (((onext S (ofI ((X.length : Int) + 1))).2.1).kind), .int .i64 (((onext S (ofI ((X.length : Int) + 1))).2.1).p), .int .i64 (((onext S (ofI ((X.length : Int) + 1))).2.1).q), .string (((onext S (ofI ((X.length : Int) + 1))).2.1).str), .int .i64 (((onext S (ofI ((X.length : Int) + 1))).2.1).ref)], .bool ((onext S (ofI ((X.length : Int) + 1))).2.2.1), .int .i64 ((onext S (ofI ((X.length : Int) + 1))).2.2.2)]) ?_
     refine hp_ 12 [3, 3, 3, 3] (.agg #[.int .i64 (((onext S (ofI ((X.length : Int) + 1))).1).kind), .int .i64 (((onext S (ofI ((X.length : Int) + 1))).1).p), .int .i64 (((onext S (ofI ((X.length : Int) + 1))).1).q), .string (((onext S (ofI ((X.length : Int) + 1))).1).str), .int .i64 (((onext S (ofI ((X.length : Int) + 1))).1).ref)]) ?_
     refine hp_ 13 [3, 3, 3, 3] (.agg #[.int .i64 (((onext S (ofI ((X.length : Int) + 1))).2.1).kind), .int .i64 (((onext S (ofI ((X.length : Int) + 1))).2.1).p), .int .i64 (((onext S (ofI ((X.length : Int) + 1))).2.1).q), .string (((onext S (ofI ((X.length : Int) + 1))).2.1).str), .int .i64 (((onext S (ofI ((X.length : Int) + 1))).2.1).ref)]) ?_
     refine hp_ 14 [3, 3, 3, 3] (.bool ((onext S (ofI ((X.length : Int) + 1))).2.2.1)) ?_
     refine hp_ 15 [3, 3, 3, 3] (.int .i64 ((onext S (ofI ((X.length : Int) + 1))).2.2.2)) ?_
     refine h_stepS 18 ?_
     refine s_store 1 #[.int .i64 (((onext S (ofI ((X.length : Int) + 1))).1).kind), .int .i64 (((onext S (ofI ((X.length : Int) + 1))).1).p), .int .i64 (((onext S (ofI ((X.length : Int) + 1))).1).q), .string (((onext S (ofI ((X.length : Int) + 1))).1).str), .int .i64 (((onext S (ofI ((X.length : Int) + 1))).1).ref)] ?_
     refine s_nil (xs_held [3, 3, 3, 3] ?_)
     refine h_stepS 19 ?_
     refine s_store 2 #[.int .i64 (((onext S (ofI ((X.length : Int) + 1))).2.1).kind), .int .i64 (((onext S (ofI ((X.length : Int) + 1))).2.1).p), .int .i64 (((onext S (ofI ((X.length : Int) + 1))).2.1).q), .string (((onext S (ofI ((X.length : Int) + 1))).2.1).str), .int .i64 (((onext S (ofI ((X.length : Int) + 1))).2.1).ref)] ?_
     refine s_nil (xs_held [3, 3, 3, 3] ?_)
     refine hp_ 20 [3, 3, 3, 3] (.bool ((onext S (ofI ((X.length : Int) + 1))).2.2.1)) ?_
     refine hp_ 21 [3, 3, 3, 3] (.int .i64 ((onext S (ofI ((X.length : Int) + 1))).2.2.2)) ?_
     refine h_doneS ?_
     exact xcut () (fun _ h => h.re [3, 3, 3, 0, 2] [5, 5])
  ·
   refine k_cut (ι := Unit) (fun _ => True) (fun _ => [(0, pB b 0), (3, pB g1 0), (4, .bool ((staleB S L.length X.length) || (decide ((onext S (ofI ((X.length : Int) + 1))).2.2.2 = 0))))]) (fun _ => blkA g7 #[.int .i64 x.kind, .int .i64 x.p, .int .i64 x.q, .string x.str, .int .i64 x.ref] 26 :: blkA b #[v8, pB r3 0] 119 :: own VlT v8 L2 :: omA r3 S :: blkA g1 #[.int .i64 x.kind, .int .i64 x.p, .int .i64 x.q, .string x.str, .int .i64 x.ref] 26 :: F) ?_ (fun _ _ => ?_)
   ·
    refine k_reg ?_
    refine sp (.bool (staleB S L.length X.length)) ?_
    refine sp (.bool (staleB S L.length X.length)) ?_
    refine s_fork 44 (staleB S L.length X.length) (fun c38 => ?_) (fun c38 => ?_)
    ·
     refine s_skip ?_
     refine s_skip ?_
     refine sp (.bool true) ?_
     refine sp (.bool true) ?_
     refine s_nil ?_
     exact xs_cut () trivial (sub_of rfl ⟨⟨rfl, rfl⟩, ⟨⟨rfl, rfl⟩, ⟨⟨rfl, show Value.bool true = Value.bool ((staleB S L.length X.length) || (decide ((onext S (ofI ((X.length : Int) + 1))).2.2.2 = 0))) by first | (simp only [c38, bls]; done) | simp [c38]⟩, trivial⟩⟩⟩) (fun _ h => h.re [0, 0, 0, 0, 0] [])
    ·
     refine sp (.int .i64 ((onext S (ofI ((X.length : Int) + 1))).2.2.2)) ?_
     refine s_lt t_cmp ?_
     refine sp (.bool (decide ((onext S (ofI ((X.length : Int) + 1))).2.2.2 = 0))) ?_
     refine sp (.bool (decide ((onext S (ofI ((X.length : Int) + 1))).2.2.2 = 0))) ?_
     refine s_nil ?_
     exact xs_cut () trivial (sub_of rfl ⟨⟨rfl, rfl⟩, ⟨⟨rfl, rfl⟩, ⟨⟨rfl, show Value.bool (decide ((onext S (ofI ((X.length : Int) + 1))).2.2.2 = 0)) = Value.bool ((staleB S L.length X.length) || (decide ((onext S (ofI ((X.length : Int) + 1))).2.2.2 = 0))) by first | (simp only [c38, bls]; done) | simp [c38]⟩, trivial⟩⟩⟩) (fun _ h => h.re [0, 0, 0, 0, 0] [])
   ·
    refine k_held [blkA g7 #[.int .i64 x.kind, .int .i64 x.p, .int .i64 x.q, .string x.str, .int .i64 x.ref] 26, blkA b #[v8, pB r3 0] 119, own VlT v8 L2] ?_
    refine hp_ 0 [0, 0, 0] (pB b 0) ?_
    refine hp_ 1 [0, 0, 0] (pB b 0) ?_
    refine hp_ 2 [0, 0, 0] (pB b 1) ?_
    refine h_l 3 rfl [0, 0, 0] (fun _ => (t_load 1 (pB r3 0))) ?_
    refine hp_ 4 [0, 0, 0] (pB b 0) ?_
    refine hp_ 5 [0, 0, 0] (pB b 0) ?_
    refine hp_ 6 [0, 0, 0] (pB b 0) ?_
    refine h_l 7 rfl [0, 0, 0] (fun _ => (t_load 1 v8)) ?_
    refine h_l 8 rfl [0, 0, 0] (fun _ => (t_len VlT_ok Tryz.underlying33 (.own 2))) ?_
    refine h_l 9 rfl [0, 0, 0] (fun _ => (Lt.to (v' := .int .i64 ((X.length : Int) + 2)) (t_add (L2.length : Int) 1 (by omega)) (congrArg (Value.int .i64) (by omega)))) ?_
    refine h_stepS 10 ?_
    refine s_vcall (fun _ h => ofint_s ((X.length : Int) + 2)) ?_
    rintro _ rfl
    refine s_nil (xs_held [0, 0, 0] ?_)
    refine h_stepS 11 ?_
    refine s_call [3] (omget_s (S := S) (ofI ((X.length : Int) + 2))) ?_
    rintro _ _ ⟨rfl, rfl⟩
    refine s_nil (xs_held [1, 1, 1] ?_)
    refine h_stepS 12 ?_
    refine s_store 4 #[.int .i64 ((oget S (ofI ((X.length : Int) + 2))).kind), .int .i64 ((oget S (ofI ((X.length : Int) + 2))).p), .int .i64 ((oget S (ofI ((X.length : Int) + 2))).q), .string ((oget S (ofI ((X.length : Int) + 2))).str), .int .i64 ((oget S (ofI ((X.length : Int) + 2))).ref)] ?_
    refine s_nil (xs_held [1, 1, 1] ?_)
    refine h_doneS ?_
    refine xs_block ?_
    have hst : ((staleB S L.length X.length) || (decide ((onext S (ofI ((X.length : Int) + 1))).2.2.2 = 0))) = staleB S L.length L2.length := by rw [ll2, ← stale_step S hi4.2.2.1]
    rw [hst]
    exact xs_round (v8, L2, (oget S (ofI ((X.length : Int) + 2))), f - 1) (by show mu S _ _ < mu S _ _; rw [ll2]; exact mu_lt hinv0 hx0) (by show grow S (S.length + 2) L v = _ ∧ _; exact ⟨by rw [hg2, hL2], by rw [ll2]; have := mu_lt hinv0 (n := X.length) hx0; omega, by omega, by rw [ll2]; have := mu_lt hinv0 (n := X.length) hx0; omega⟩) (sub_of rfl ⟨⟨rfl, rfl⟩, ⟨⟨rfl, rfl⟩, ⟨⟨rfl, rfl⟩, trivial⟩⟩⟩) (fun _ h => h.re [2, 2, 0, 1] [4])
 ·
  have p39 := Decidable.not_not.1 (of_decide_eq_false c5)
  have hx0 : x.kind = 0 := Decidable.not_not.1 (of_decide_eq_false c5)
  have hgr : grow S (S.length + 2) L v = X := by rw [hi4.1]; exact grow_stop S X hx0
  refine k_exit ?_
  refine xs_exit ?_
  refine xs_exit ?_
  refine xs_here ?_
  refine xs_then ?_
  refine k_seq ?_
  refine k_sr ?_
  refine sp (.bool (staleB S L.length X.length)) ?_
  refine sp (.bool (!(staleB S L.length X.length))) ?_
  refine s_nt ?_
  refine k_cond (!(staleB S L.length X.length)) (fun c40 => ?_) (fun c40 => ?_)
  ·
   have c41 := not_t c40
   refine k_ret ?_
   refine xs_ret ?_
   refine xs_mem (fun _ h => tb_shut (h.re [0, 0, 0] [])) ?_
   have hT : tadd ⟨L, S⟩ v = ⟨X, S⟩ := by rw [tadd_eq hgr, if_neg (by rw [c41]; decide)]
   refine xs_fin [] (tbA b X S :: F) SI.nil (fun _ h => h.re [0] [1]) ⟨rfl, ?_⟩
   rw [hT]
  ·
   have c42 := not_f c40
   refine k_st ?_
   refine k_sr ?_
   refine s_pcall (fun _ h => omnew_s) ?_
   rintro _ _ ⟨r43, rfl, rfl⟩
   refine sp (pB r43 0) ?_
   refine s_nt ?_
   refine k_seq ?_
   refine k_sr ?_
   refine sp (pB b 0) ?_
   refine sp (pB b 0) ?_
   refine sp (pB b 1) ?_
   refine s_lt (t_load 1 (pB r3 0)) ?_
   refine s_call [3] (omkeys_s (S := S) (by (try simp only [lnm]); omega)) ?_
   rintro v44 _ rfl
   refine s_fact (fun H h => ((Acc.own (T := VlT) (L := (okeys S)) 0 rfl) H h).form) (fun hf45 => ?_)
   refine s_lt (t_len VlT_ok Tryz.underlying33 (.own 0)) ?_
   refine sp (.int .i64 0) ?_
   refine s_nt ?_
   refine k_block ?_
   refine k_loop (ι := Nat) (fun i => i ≤ (okeys S).length) (fun i => [(0, pB b 0), (9, pB r43 0), (67, v44), (68, .int .i64 ((okeys S).length : Int)), (69, .int .i64 (i : Int))]) (fun i => own VlT v44 (okeys S) :: omA r3 S :: omA r43 (purgeS S X.length i) :: blkA b #[lx, pB r3 0] 119 :: own VlT lx X :: blkA g1 #[.int .i64 x.kind, .int .i64 x.p, .int .i64 x.q, .string x.str, .int .i64 x.ref] 26 :: F) (fun i => (okeys S).length - i) 0 (Nat.zero_le _) (sub_of rfl ⟨⟨rfl, rfl⟩, ⟨⟨rfl, rfl⟩, ⟨⟨rfl, rfl⟩, ⟨⟨rfl, rfl⟩, ⟨⟨rfl, rfl⟩, trivial⟩⟩⟩⟩⟩) (fun _ h => h.re [0, 0, 0, 0, 0, 0] []) ?_
   rintro i hi46
   show SK _ _ _ _ _ [(0, .pointer (some ⟨b, 0, none⟩)), (9, .pointer (some ⟨r43, 0, none⟩)), (67, v44), (68, .int .i64 ((okeys S).length : Int)), (69, .int .i64 (i : Int))] _ (own VlT v44 (okeys S) :: omA r3 S :: omA r43 (purgeS S X.length i) :: blkA b #[lx, .pointer (some ⟨r3, 0, none⟩)] 119 :: own VlT lx X :: blkA g1 #[.int .i64 x.kind, .int .i64 x.p, .int .i64 x.q, .string x.str, .int .i64 x.ref] 26 :: F)
   have hpl := purgeS_len S X.length i
   refine k_sr ?_
   refine s_lt t_cmp ?_
   refine s_nt ?_
   refine k_seq ?_
   refine k_cond (decide ((i : Int) < ((okeys S).length : Int))) (fun c47 => ?_) (fun c47 => ?_)
   ·
    have p48 := of_decide_eq_true c47
    refine k_st ?_
    refine k_seq ?_
    refine k_block ?_
    refine k_sr ?_
    refine s_lt (t_index VlT_ok Tryz.underlying33 (.own 0) (i : Int) i (by omega) (by (try simp only [lnm]); omega) (by omega)) ?_
    obtain ⟨y49, hy50⟩ : ∃ y, (okeys S)[i]? = some y := ⟨_, List.getElem?_eq_getElem (by (try simp only [lnm]); omega)⟩
    obtain ⟨s51, hs52, rfl⟩ := okeys_get hy50
    refine s_lt (t_loadE VlT_ok (.own 0) hy50) ?_
    refine s_alloc (.agg #[.int .i64 0, .int .i64 0, .int .i64 0, .string ByteArray.empty, .int .i64 0]) #[.int .i64 0, .int .i64 0, .int .i64 0, .string ByteArray.empty, .int .i64 0] (fun g53 => ?_)
    refine s_store 0 #[.int .i64 s51.key.kind, .int .i64 s51.key.p, .int .i64 s51.key.q, .string s51.key.str, .int .i64 s51.key.ref] ?_
    refine s_nr ?_
    refine s_lt (t_loadA 0 #[.int .i64 s51.key.kind, .int .i64 s51.key.p, .int .i64 s51.key.q, .string s51.key.str, .int .i64 s51.key.ref]) ?_
    refine s_vcall (fun _ h => integer_s s51.key) ?_
    rintro u54 e55
    rcases int_cases s51.key with ⟨hi56, hp57, hv58⟩ | ⟨hi59, hw60⟩
    ·
     rw [hi56, hp57] at e55; subst e55
     refine sp (.tuple #[.int .i64 (whole s51.key), .bool true]) ?_
     refine sp (.int .i64 (whole s51.key)) ?_
     refine sp (.bool true) ?_
     refine sp (.int .i64 (whole s51.key)) ?_
     refine sp (.bool true) ?_
     refine s_nt ?_
     refine k_cut (ι := Unit) (fun _ => True) (fun _ => [(0, pB b 0), (9, pB r43 0), (11, pB g53 0), (67, v44), (68, .int .i64 ((okeys S).length : Int)), (69, .int .i64 (i : Int)), (92, .bool ((decide ((whole s51.key) < 1)) || (decide ((X.length : Int) < (whole s51.key)))))]) (fun _ => blkA g53 #[.int .i64 s51.key.kind, .int .i64 s51.key.p, .int .i64 s51.key.q, .string s51.key.str, .int .i64 s51.key.ref] 26 :: own VlT v44 (okeys S) :: omA r3 S :: omA r43 (purgeS S X.length i) :: blkA b #[lx, pB r3 0] 119 :: own VlT lx X :: blkA g1 #[.int .i64 x.kind, .int .i64 x.p, .int .i64 x.q, .string x.str, .int .i64 x.ref] 26 :: F) ?_ (fun _ _ => ?_)
     ·
      refine k_reg ?_
      refine sp (.bool true) ?_
      refine sp (.bool false) ?_
      refine sp (.bool false) ?_
      refine sp (.int .i64 (whole s51.key)) ?_
      refine s_lt t_cmp ?_
      refine sp (.bool (decide ((whole s51.key) < 1))) ?_
      refine sp (.bool (decide ((whole s51.key) < 1))) ?_
      refine s_fork 84 (decide ((whole s51.key) < 1)) (fun c61 => ?_) (fun c61 => ?_)
      ·
       have p62 := of_decide_eq_true c61
       refine s_skip ?_
       refine s_skip ?_
       refine s_skip ?_
       refine s_skip ?_
       refine s_skip ?_
       refine s_skip ?_
       refine s_skip ?_
       refine sp (.bool true) ?_
       refine s_nil ?_
       exact xs_cut () trivial (sub_of rfl ⟨⟨rfl, rfl⟩, ⟨⟨rfl, rfl⟩, ⟨⟨rfl, rfl⟩, ⟨⟨rfl, rfl⟩, ⟨⟨rfl, rfl⟩, ⟨⟨rfl, rfl⟩, ⟨⟨rfl, show Value.bool true = Value.bool ((decide ((whole s51.key) < 1)) || (decide ((X.length : Int) < (whole s51.key)))) by first | (simp only [c61, bls]; done) | simp [c61]⟩, trivial⟩⟩⟩⟩⟩⟩⟩) (fun _ h => h.re [0, 0, 0, 0, 0, 0, 0] [])
      ·
       have p63 := of_decide_eq_false c61
       refine sp (.int .i64 (whole s51.key)) ?_
       refine sp (pB b 0) ?_
       refine sp (pB b 0) ?_
       refine sp (pB b 0) ?_
       refine s_lt (t_load 4 lx) ?_
       refine s_lt (t_len VlT_ok Tryz.underlying33 (.own 5)) ?_
       refine s_lt t_cmp ?_
       refine sp (.bool (decide ((X.length : Int) < (whole s51.key)))) ?_
       refine s_nil ?_
       exact xs_cut () trivial (sub_of rfl ⟨⟨rfl, rfl⟩, ⟨⟨rfl, rfl⟩, ⟨⟨rfl, rfl⟩, ⟨⟨rfl, rfl⟩, ⟨⟨rfl, rfl⟩, ⟨⟨rfl, rfl⟩, ⟨⟨rfl, show Value.bool (decide ((X.length : Int) < (whole s51.key))) = Value.bool ((decide ((whole s51.key) < 1)) || (decide ((X.length : Int) < (whole s51.key)))) by first | (simp only [c61, bls]; done) | simp [c61]⟩, trivial⟩⟩⟩⟩⟩⟩⟩) (fun _ h => h.re [0, 0, 0, 0, 0, 0, 0] [])
     ·
      refine k_cond ((decide ((whole s51.key) < 1)) || (decide ((X.length : Int) < (whole s51.key)))) (fun c64 => ?_) (fun c64 => ?_)
      ·
       have p65 := c64
       simp only [Bool.and_eq_true, Bool.or_eq_true, Bool.and_eq_false_iff, Bool.or_eq_false_iff, Bool.not_eq_true', Bool.not_eq_false', decide_eq_true_eq, decide_eq_false_iff_not] at p65
       refine k_held [blkA g53 #[.int .i64 s51.key.kind, .int .i64 s51.key.p, .int .i64 s51.key.q, .string s51.key.str, .int .i64 s51.key.ref] 26, own VlT v44 (okeys S), blkA b #[lx, pB r3 0] 119, own VlT lx X, blkA g1 #[.int .i64 x.kind, .int .i64 x.p, .int .i64 x.q, .string x.str, .int .i64 x.ref] 26] ?_
       refine hp_ 0 [0, 0, 2, 2, 2] (pB r43 0) ?_
       refine h_l 1 rfl [0, 0, 2, 2, 2] (fun _ => (t_loadA 0 #[.int .i64 s51.key.kind, .int .i64 s51.key.p, .int .i64 s51.key.q, .string s51.key.str, .int .i64 s51.key.ref])) ?_
       refine hp_ 2 [0, 0, 2, 2, 2] (pB b 0) ?_
       refine hp_ 3 [0, 0, 2, 2, 2] (pB b 0) ?_
       refine hp_ 4 [0, 0, 2, 2, 2] (pB b 1) ?_
       refine h_l 5 rfl [0, 0, 2, 2, 2] (fun _ => (t_load 2 (pB r3 0))) ?_
       refine h_l 6 rfl [0, 0, 2, 2, 2] (fun _ => (t_loadA 0 #[.int .i64 s51.key.kind, .int .i64 s51.key.p, .int .i64 s51.key.q, .string s51.key.str, .int .i64 s51.key.ref])) ?_
       refine h_stepS 7 ?_
       refine s_call [2] (omget_s (S := S) s51.key) ?_
       rintro _ _ ⟨rfl, rfl⟩
       refine s_nil (xs_held [1, 1, 2, 2, 2] ?_)
       refine h_stepS 8 ?_
       refine s_call [3] (omset_s (S := (purgeS S X.length i)) (by (try simp only [lnm]); omega) s51.key (oget S s51.key)) ?_
       rintro _ _ ⟨rfl, rfl⟩
       refine s_nil (xs_held [2, 2, 2, 2, 2] ?_)
       refine h_doneS ?_
       refine xs_block ?_
       refine xs_then ?_
       refine k_reg ?_
       refine s_lt (t_add (i : Int) 1 (by (try simp only [lnm]); omega)) ?_
       refine sp (.int .i64 ((i : Int) + 1)) ?_
       refine s_nil ?_
       have hps := purge_step hinv0 (m := X.length) hs52
       have hib : inB (whole s51.key) X.length = false := inB_false (by omega)
       have hpe := hps.1 hib
       rw [hpe]
       exact xs_round (i + 1) (by omega) (by omega) (sub_of rfl ⟨⟨rfl, rfl⟩, ⟨⟨rfl, rfl⟩, ⟨⟨rfl, rfl⟩, ⟨⟨rfl, rfl⟩, ⟨⟨rfl, rfl⟩, trivial⟩⟩⟩⟩⟩) (fun _ h => h.re [3, 1, 0, 1, 1, 1] [6])
      ·
       obtain ⟨c66, c67⟩ := or_f c64
       have p68 := of_decide_eq_false c66
       have p69 := of_decide_eq_false c67
       refine k_skip ?_
       refine xs_block ?_
       refine xs_then ?_
       refine k_reg ?_
       refine s_lt (t_add (i : Int) 1 (by (try simp only [lnm]); omega)) ?_
       refine sp (.int .i64 ((i : Int) + 1)) ?_
       refine s_nil ?_
       have hps := purge_step hinv0 (m := X.length) hs52
       have hib : inB (whole s51.key) X.length = true := inB_iff.2 (by omega)
       have hpe := hps.2 hib
       rw [hpe]
       exact xs_round (i + 1) (by omega) (by omega) (sub_of rfl ⟨⟨rfl, rfl⟩, ⟨⟨rfl, rfl⟩, ⟨⟨rfl, rfl⟩, ⟨⟨rfl, rfl⟩, ⟨⟨rfl, rfl⟩, trivial⟩⟩⟩⟩⟩) (fun _ h => h.re [1, 1, 1, 1, 1, 1] [6])
    ·
     rw [hi59] at e55; subst e55
     refine sp (.tuple #[.int .i64 s51.key.p, .bool false]) ?_
     refine sp (.int .i64 s51.key.p) ?_
     refine sp (.bool false) ?_
     refine sp (.int .i64 s51.key.p) ?_
     refine sp (.bool false) ?_
     refine s_nr ?_
     refine sp (.bool false) ?_
     refine sp (.bool true) ?_
     refine sp (.bool true) ?_
     refine s_skip ?_
     refine s_skip ?_
     refine sp (.bool true) ?_
     refine sp (.bool true) ?_
     refine s_skip ?_
     refine s_skip ?_
     refine s_skip ?_
     refine s_skip ?_
     refine s_skip ?_
     refine s_skip ?_
     refine s_skip ?_
     refine sp (.bool true) ?_
     refine s_nt ?_
     refine k_true ?_
     refine k_held [blkA g53 #[.int .i64 s51.key.kind, .int .i64 s51.key.p, .int .i64 s51.key.q, .string s51.key.str, .int .i64 s51.key.ref] 26, own VlT v44 (okeys S), blkA b #[lx, pB r3 0] 119, own VlT lx X, blkA g1 #[.int .i64 x.kind, .int .i64 x.p, .int .i64 x.q, .string x.str, .int .i64 x.ref] 26] ?_
     refine hp_ 0 [0, 0, 2, 2, 2] (pB r43 0) ?_
     refine h_l 1 rfl [0, 0, 2, 2, 2] (fun _ => (t_loadA 0 #[.int .i64 s51.key.kind, .int .i64 s51.key.p, .int .i64 s51.key.q, .string s51.key.str, .int .i64 s51.key.ref])) ?_
     refine hp_ 2 [0, 0, 2, 2, 2] (pB b 0) ?_
     refine hp_ 3 [0, 0, 2, 2, 2] (pB b 0) ?_
     refine hp_ 4 [0, 0, 2, 2, 2] (pB b 1) ?_
     refine h_l 5 rfl [0, 0, 2, 2, 2] (fun _ => (t_load 2 (pB r3 0))) ?_
     refine h_l 6 rfl [0, 0, 2, 2, 2] (fun _ => (t_loadA 0 #[.int .i64 s51.key.kind, .int .i64 s51.key.p, .int .i64 s51.key.q, .string s51.key.str, .int .i64 s51.key.ref])) ?_
     refine h_stepS 7 ?_
     refine s_call [2] (omget_s (S := S) s51.key) ?_
     rintro _ _ ⟨rfl, rfl⟩
     refine s_nil (xs_held [1, 1, 2, 2, 2] ?_)
     refine h_stepS 8 ?_
     refine s_call [3] (omset_s (S := (purgeS S X.length i)) (by (try simp only [lnm]); omega) s51.key (oget S s51.key)) ?_
     rintro _ _ ⟨rfl, rfl⟩
     refine s_nil (xs_held [2, 2, 2, 2, 2] ?_)
     refine h_doneS ?_
     refine xs_block ?_
     refine xs_then ?_
     refine k_reg ?_
     refine s_lt (t_add (i : Int) 1 (by (try simp only [lnm]); omega)) ?_
     refine sp (.int .i64 ((i : Int) + 1)) ?_
     refine s_nil ?_
     have hps := purge_step hinv0 (m := X.length) hs52
     have hib : inB (whole s51.key) X.length = false := inB_false (by omega)
     have hpe := hps.1 hib
     rw [hpe]
     exact xs_round (i + 1) (by omega) (by omega) (sub_of rfl ⟨⟨rfl, rfl⟩, ⟨⟨rfl, rfl⟩, ⟨⟨rfl, rfl⟩, ⟨⟨rfl, rfl⟩, ⟨⟨rfl, rfl⟩, trivial⟩⟩⟩⟩⟩) (fun _ h => h.re [3, 1, 0, 1, 1, 1] [6])
   ·
    have p70 := of_decide_eq_false c47
    refine k_exit ?_
    refine xs_exit ?_
    refine xs_exit ?_
    refine xs_here ?_
    refine xs_then ?_
    refine k_reg ?_
    refine sp (pB b 0) ?_
    refine sp (pB r43 0) ?_
    refine sp (pB b 0) ?_
    refine sp (pB b 1) ?_
    refine s_store 3 #[lx, pB r43 0] ?_
    refine s_nil ?_
    refine xs_mem (fun _ h => tb_shut (h.re [3, 3, 2] [])) ?_
    have hpe : purgeS S X.length i = purge S X.length := purge_end S X.length i (by rw [← okeys_length]; omega)
    have hT : tadd ⟨L, S⟩ v = ⟨X, purgeS S X.length i⟩ := by rw [tadd_eq hgr, if_pos c42, hpe]
    refine xs_finN [] (tbA b X (purgeS S X.length i) :: F) SI.nil (fun _ h => h.re [0] [1, 1, 1]) ⟨rfl, ?_⟩
    rw [hT]
theorem tsetE_bad {k v : Vl} (h : okKey k = false) : tsetE k v = 13 := by unfold tsetE; rw [if_pos h]
theorem tsetE_val {k v : Vl} (h : okKey k = true) (hv : validB v = false) : tsetE k v = 2 := by unfold tsetE; rw [if_neg (by rw [h]; decide), if_pos hv]
theorem tsetE_ok {k v : Vl} (h : okKey k = true) (hv : validB v = true) : tsetE k v = 0 := by unfold tsetE; rw [if_neg (by rw [h]; decide), if_neg (by rw [hv]; decide)]
theorem tsetE_oset (k v : Vl) : tsetE k v = osetE k v := rfl
theorem tbset_s {Z : Zone} {F : List Asr} {b : Nat} {L : List Vl} {S : List Slt} (hti : TInv ⟨L, S⟩) (hl : L.length ≤ 100000) (hs : S.length ≤ 100000) (k v : Vl) : SF Tryz.prog 77 #[.pointer (some ⟨b, 0, none⟩), k.v, v.v] Z (tbA b L S :: F) fun r Bs => r = .int .i64 (tsetE k v) ∧ Bs = tbA b (tset ⟨L, S⟩ k v).list (tset ⟨L, S⟩ k v).rest :: F := by
 refine sf_enter Tryz.func77 86 [(0, pB b 0), (1, .agg #[.int .i64 k.kind, .int .i64 k.p, .int .i64 k.q, .string k.str, .int .i64 k.ref]), (2, .agg #[.int .i64 v.kind, .int .i64 v.p, .int .i64 v.q, .string v.str, .int .i64 v.ref])] (fun w0 => ?_)
 refine k_sr ?_
 refine s_box #[.int .i64 k.kind, .int .i64 k.p, .int .i64 k.q, .string k.str, .int .i64 k.ref] (fun g1 => ?_)
 refine s_box #[.int .i64 v.kind, .int .i64 v.p, .int .i64 v.q, .string v.str, .int .i64 v.ref] (fun g2 => ?_)
 refine sp (.int .i64 0) ?_
 refine s_nt ?_
 refine k_seq ?_
 refine k_sr ?_
 refine sp (pB b 0) ?_
 refine sp (.bool false) ?_
 refine s_nt ?_
 refine k_false ?_
 refine k_st ?_
 refine k_seq ?_
 refine k_sr ?_
 refine sp (pB g1 0) ?_
 refine s_lt (t_load 1 (.int .i64 k.kind)) ?_
 refine s_lt t_cmp ?_
 refine sp (.bool (decide (k.kind = 0))) ?_
 refine s_fork 14 (decide (k.kind = 0)) (fun c3 => ?_) (fun c3 => ?_)
 ·
  have p4 := of_decide_eq_true c3
  refine s_skip ?_
  refine s_skip ?_
  refine s_skip ?_
  refine sp (.bool true) ?_
  refine s_nt ?_
  refine k_true ?_
  refine k_sr ?_
  refine sp (.int .i64 13) ?_
  refine s_nt ?_
  refine k_ret ?_
  refine xs_ret ?_
  have hk : okKey k = false := okKey_bad (by first | exact p4 | exact .inl p4 | exact .inr p4)
  refine xs_fin [.int .i64 13] (tbA b L S :: F) (SI.tmp 6 SI.nil) (fun _ h => h.re [2] [1, 1]) ⟨congrArg (Value.int .i64) (tsetE_bad hk).symm, ?_⟩
  rw [tset_bad (v := v) (.inl hk)]
 ·
  have p5 := of_decide_eq_false c3
  refine s_lt (t_loadA 1 #[.int .i64 k.kind, .int .i64 k.p, .int .i64 k.q, .string k.str, .int .i64 k.ref]) ?_
  refine s_vcall (fun _ h => valid_s k) ?_
  rintro _ rfl
  refine sp (.bool (!(validB k))) ?_
  refine sp (.bool (!(validB k))) ?_
  refine s_nt ?_
  refine k_cond (!(validB k)) (fun c6 => ?_) (fun c6 => ?_)
  ·
   have c7 := not_t c6
   refine k_sr ?_
   refine sp (.int .i64 13) ?_
   refine s_nt ?_
   refine k_ret ?_
   refine xs_ret ?_
   have hk : okKey k = false := okKey_bad (by first | exact c7 | exact .inl c7 | exact .inr c7)
   refine xs_fin [.int .i64 13] (tbA b L S :: F) (SI.tmp 6 SI.nil) (fun _ h => h.re [2] [1, 1]) ⟨congrArg (Value.int .i64) (tsetE_bad hk).symm, ?_⟩
   rw [tset_bad (v := v) (.inl hk)]
  ·
   have c8 := not_f c6
   refine k_st ?_
   refine k_seq ?_
   refine k_sr ?_
   refine s_lt (t_loadA 0 #[.int .i64 v.kind, .int .i64 v.p, .int .i64 v.q, .string v.str, .int .i64 v.ref]) ?_
   refine s_vcall (fun _ h => valid_s v) ?_
   rintro _ rfl
   refine sp (.bool (!(validB v))) ?_
   refine s_nt ?_
   refine k_cond (!(validB v)) (fun c9 => ?_) (fun c9 => ?_)
   ·
    have c10 := not_t c9
    refine k_sr ?_
    refine sp (.int .i64 2) ?_
    refine s_nt ?_
    refine k_ret ?_
    refine xs_ret ?_
    have hk := okKey_good c3 c8
    refine xs_fin [.int .i64 2] (tbA b L S :: F) (SI.tmp 6 SI.nil) (fun _ h => h.re [2] [1, 1]) ⟨congrArg (Value.int .i64) (tsetE_val hk c10).symm, ?_⟩
    rw [tset_bad (v := v) (.inr c10)]
   ·
    have c11 := not_f c9
    refine k_st ?_
    refine k_sr ?_
    refine s_lt (t_loadA 1 #[.int .i64 k.kind, .int .i64 k.p, .int .i64 k.q, .string k.str, .int .i64 k.ref]) ?_
    refine s_vcall (fun _ h => integer_s k) ?_
    rintro u12 e13
    rcases int_cases k with ⟨hi14, hp15, hv16⟩ | ⟨hi17, hw18⟩
    ·
     rw [hi14, hp15] at e13; subst e13
     refine sp (.tuple #[.int .i64 (whole k), .bool true]) ?_
     refine sp (.int .i64 (whole k)) ?_
     refine sp (.bool true) ?_
     refine sp (.int .i64 (whole k)) ?_
     refine sp (.bool true) ?_
     refine s_nt ?_
     refine k_seq ?_
     refine k_block ?_
     refine k_sr ?_
     refine sp (.bool true) ?_
     refine sp (.bool true) ?_
     refine sp (.int .i64 (whole k)) ?_
     refine s_lt t_cmp ?_
     refine sp (.bool (decide ((1 : Int) ≤ (whole k)))) ?_
     refine sp (.bool (decide ((1 : Int) ≤ (whole k)))) ?_
     refine s_fork 40 (decide ((1 : Int) ≤ (whole k))) (fun c19 => ?_) (fun c19 => ?_)
     ·
      have p20 := of_decide_eq_true c19
      refine sp (.int .i64 (whole k)) ?_
      refine sp (pB b 0) ?_
      refine sp (pB b 0) ?_
      refine sp (pB b 0) ?_
      refine s_mem2 (fun H h => tb_open (h.re [2] [])) (fun lv21 r22 hw => ?_)
      refine s_lt (t_load 0 lv21) ?_
      refine s_lt (t_len VlT_ok Tryz.underlying33 (.own 1)) ?_
      refine s_lt t_cmp ?_
      refine sp (.bool (decide ((whole k) ≤ (L.length : Int)))) ?_
      refine sp (.bool (decide ((whole k) ≤ (L.length : Int)))) ?_
      refine s_nt ?_
      refine k_cond (decide ((whole k) ≤ (L.length : Int))) (fun c23 => ?_) (fun c23 => ?_)
      ·
       have p24 := of_decide_eq_true c23
       refine k_seq ?_
       refine k_draw ?_
       refine sp (pB b 0) ?_
       refine sp (pB b 0) ?_
       refine sp (pB b 0) ?_
       refine s_lt (t_load 0 lv21) ?_
       refine sp (.int .i64 (whole k)) ?_
       refine s_lt (t_sub (whole k) 1 (by (try simp only [lnm]); omega)) ?_
       refine s_lt (t_loadA 3 #[.int .i64 v.kind, .int .i64 v.p, .int .i64 v.q, .string v.str, .int .i64 v.ref]) ?_
       refine s_lt (t_index VlT_ok Tryz.underlying33 (.own 1) ((whole k) - 1) ((((whole k) - 1)).toNat) (by omega) (by (try simp only [lnm]); omega) (by omega)) ?_
       obtain ⟨y25, hy26⟩ : ∃ y, L[(((whole k) - 1)).toNat]? = some y := ⟨_, List.getElem?_eq_getElem (by (try simp only [lnm]); omega)⟩
       refine s_storeE 1 0 v VlT_ok hy26 ?_
       refine s_nil ?_
       refine x_dynS (fun _ h => by kernel_rfl) ?_
       refine xs_then ?_
       refine k_sr ?_
       refine sp (.int .i64 (whole k)) ?_
       refine sp (pB b 0) ?_
       refine sp (pB b 0) ?_
       refine sp (pB b 0) ?_
       refine s_lt (t_load 0 lv21) ?_
       refine s_lt (t_len VlT_ok Tryz.underlying33 (.own 1)) ?_
       refine s_lt t_cmp ?_
       refine s_nt ?_
       refine k_cond (decide ((whole k) = ((L.set ((((whole k) - 1)).toNat) v).length : Int))) (fun c27 => ?_) (fun c27 => ?_)
       ·
        have p28 := of_decide_eq_true c27
        refine k_reg ?_
        refine sp (pB b 0) ?_
        refine s_mem (fun _ h => tb_shut (h.re [0, 0, 0] [])) ?_
        refine s_call [0] (tbshrink_s (L := (L.set ((((whole k) - 1)).toNat) v)) (S := S) (by (try simp only [lnm]); omega)) ?_
        rintro _ _ ⟨rfl, rfl⟩
        refine s_nil ?_
        refine xs_block ?_
        refine xs_then ?_
        refine k_sr ?_
        refine sp (.int .i64 0) ?_
        refine s_nt ?_
        refine k_ret ?_
        have hk := okKey_good c3 c8
        have hsl : (L.set (whole k - 1).toNat v).length = L.length := List.length_set
        have hT : tset ⟨L, S⟩ k v = ⟨(shr (L.set ((((whole k) - 1)).toNat) v)), S⟩ := by rw [tset_in (T := ⟨L, S⟩) hk c11 (by omega) (by show _ ≤ (L.length : Int); omega)]
        refine xs_fin [.int .i64 0] (tbA b (shr (L.set ((((whole k) - 1)).toNat) v)) S :: F) (SI.tmp 6 SI.nil) (fun _ h => h.re [0] [1, 1]) ⟨congrArg (Value.int .i64) (tsetE_ok hk c11).symm, ?_⟩
        rw [hT]
       ·
        have p29 := of_decide_eq_false c27
        refine k_skip ?_
        refine xs_block ?_
        refine xs_then ?_
        refine k_sr ?_
        refine sp (.int .i64 0) ?_
        refine s_nt ?_
        refine k_ret ?_
        have hk := okKey_good c3 c8
        refine xs_mem (fun _ h => tb_shut (h.re [0, 0, 0] [])) ?_
        have hsl : (L.set (whole k - 1).toNat v).length = L.length := List.length_set
        have hT : tset ⟨L, S⟩ k v = ⟨(L.set ((((whole k) - 1)).toNat) v), S⟩ := by rw [tset_in (T := ⟨L, S⟩) hk c11 (by omega) (by show _ ≤ (L.length : Int); omega)]; show (⟨shr (L.set _ v), S⟩ : Tb) = _; rw [shr_set hti.last (by show _ ≠ L.length; omega)]
        refine xs_fin [.int .i64 0] (tbA b (L.set ((((whole k) - 1)).toNat) v) S :: F) (SI.tmp 6 SI.nil) (fun _ h => h.re [0] [1, 1]) ⟨congrArg (Value.int .i64) (tsetE_ok hk c11).symm, ?_⟩
        rw [hT]
      ·
       have p30 := of_decide_eq_false c23
       refine k_sr ?_
       refine sp (.bool true) ?_
       refine sp (.bool true) ?_
       refine sp (.int .i64 (whole k)) ?_
       refine sp (pB b 0) ?_
       refine sp (pB b 0) ?_
       refine sp (pB b 0) ?_
       refine s_lt (t_load 0 lv21) ?_
       refine s_lt (t_len VlT_ok Tryz.underlying33 (.own 1)) ?_
       refine s_lt (t_add (L.length : Int) 1 (by (try simp only [lnm]); omega)) ?_
       refine s_lt t_cmp ?_
       refine sp (.bool (decide ((whole k) = ((L.length : Int) + 1)))) ?_
       refine sp (.bool (decide ((whole k) = ((L.length : Int) + 1)))) ?_
       refine s_fork 78 (decide ((whole k) = ((L.length : Int) + 1))) (fun c31 => ?_) (fun c31 => ?_)
       ·
        have p32 := of_decide_eq_true c31
        refine sp (pB g2 0) ?_
        refine s_lt (t_load 3 (.int .i64 v.kind)) ?_
        refine s_lt t_cmp ?_
        refine sp (.bool (decide (v.kind ≠ 0))) ?_
        refine sp (.bool (decide (v.kind ≠ 0))) ?_
        refine s_nt ?_
        refine k_cond (decide (v.kind ≠ 0)) (fun c33 => ?_) (fun c33 => ?_)
        ·
         have p34 := of_decide_eq_true c33
         refine k_reg ?_
         refine sp (pB b 0) ?_
         refine s_lt (t_loadA 3 #[.int .i64 v.kind, .int .i64 v.p, .int .i64 v.q, .string v.str, .int .i64 v.ref]) ?_
         refine s_mem (fun _ h => tb_shut (h.re [0, 0, 0] [])) ?_
         refine s_call [0] (tbadd_s (L := L) (S := S) (by (try simp only [lnm]); omega) (by (try simp only [lnm]); omega) v) ?_
         rintro _ _ ⟨rfl, rfl⟩
         refine s_nil ?_
         refine xs_block ?_
         refine xs_then ?_
         refine k_sr ?_
         refine sp (.int .i64 0) ?_
         refine s_nt ?_
         refine k_ret ?_
         have hk := okKey_good c3 c8
         refine xs_fin [.int .i64 0] (tbA b ((tadd ⟨L, S⟩ v).list) ((tadd ⟨L, S⟩ v).rest) :: F) (SI.tmp 6 SI.nil) (fun _ h => h.re [0] [1, 1]) ⟨congrArg (Value.int .i64) (tsetE_ok hk c11).symm, ?_⟩
         rw [tset_add (T := ⟨L, S⟩) hk c11 (by show _ = (L.length : Int) + 1; omega) (of_decide_eq_true c33)]
        ·
         have p35 := Decidable.not_not.1 (of_decide_eq_false c33)
         refine k_seq ?_
         refine k_draw ?_
         refine sp (pB b 0) ?_
         refine sp (pB b 0) ?_
         refine sp (pB b 1) ?_
         refine s_lt (t_load 0 (pB r22 0)) ?_
         refine s_lt (t_loadA 4 #[.int .i64 k.kind, .int .i64 k.p, .int .i64 k.q, .string k.str, .int .i64 k.ref]) ?_
         refine s_lt (t_loadA 3 #[.int .i64 v.kind, .int .i64 v.p, .int .i64 v.q, .string v.str, .int .i64 v.ref]) ?_
         refine s_call [2] (omset_s (S := S) (by (try simp only [lnm]); omega) k v) ?_
         rintro _ _ ⟨rfl, rfl⟩
         refine sp (.int .i64 (osetE k v)) ?_
         refine s_nil ?_
         refine x_dynS (fun _ h => by kernel_rfl) ?_
         refine xs_then ?_
         refine k_ret ?_
         refine xs_retBlock ?_
         refine xs_ret ?_
         have hk := okKey_good c3 c8
         refine xs_mem (fun _ h => tb_shut (h.re [1, 1, 0] [])) ?_
         refine xs_fin [.int .i64 (osetE k v)] (tbA b L (osetL S k v) :: F) (SI.tmp 6 SI.nil) (fun _ h => h.re [0] [1, 1]) ⟨congrArg (Value.int .i64) ((tsetE_oset k v)).symm, ?_⟩
         rw [tset_out (T := ⟨L, S⟩) hk c11 (by show ¬ (_ ∧ _ ≤ (L.length : Int)); omega) (by show ¬ (_ = (L.length : Int) + 1 ∧ _); rintro ⟨e1, e2⟩; first | omega | (have hq := p35; simp_all))]
       ·
        have p36 := of_decide_eq_false c31
        refine s_skip ?_
        refine s_skip ?_
        refine s_skip ?_
        refine sp (.bool false) ?_
        refine sp (.bool false) ?_
        refine s_nt ?_
        refine k_false ?_
        refine k_seq ?_
        refine k_draw ?_
        refine sp (pB b 0) ?_
        refine sp (pB b 0) ?_
        refine sp (pB b 1) ?_
        refine s_lt (t_load 0 (pB r22 0)) ?_
        refine s_lt (t_loadA 4 #[.int .i64 k.kind, .int .i64 k.p, .int .i64 k.q, .string k.str, .int .i64 k.ref]) ?_
        refine s_lt (t_loadA 3 #[.int .i64 v.kind, .int .i64 v.p, .int .i64 v.q, .string v.str, .int .i64 v.ref]) ?_
        refine s_call [2] (omset_s (S := S) (by (try simp only [lnm]); omega) k v) ?_
        rintro _ _ ⟨rfl, rfl⟩
        refine sp (.int .i64 (osetE k v)) ?_
        refine s_nil ?_
        refine x_dynS (fun _ h => by kernel_rfl) ?_
        refine xs_then ?_
        refine k_ret ?_
        refine xs_retBlock ?_
        refine xs_ret ?_
        have hk := okKey_good c3 c8
        refine xs_mem (fun _ h => tb_shut (h.re [1, 1, 0] [])) ?_
        refine xs_fin [.int .i64 (osetE k v)] (tbA b L (osetL S k v) :: F) (SI.tmp 6 SI.nil) (fun _ h => h.re [0] [1, 1]) ⟨congrArg (Value.int .i64) ((tsetE_oset k v)).symm, ?_⟩
        rw [tset_out (T := ⟨L, S⟩) hk c11 (by show ¬ (_ ∧ _ ≤ (L.length : Int)); omega) (by show ¬ (_ = (L.length : Int) + 1 ∧ _); rintro ⟨e1, e2⟩; first | omega | (have hq := p36; simp_all))]
     ·
      have p37 := of_decide_eq_false c19
      refine s_skip ?_
      refine s_skip ?_
      refine s_skip ?_
      refine s_skip ?_
      refine s_skip ?_
      refine s_skip ?_
      refine s_skip ?_
      refine sp (.bool false) ?_
      refine sp (.bool false) ?_
      refine s_nt ?_
      refine k_false ?_
      refine k_sr ?_
      refine sp (.bool true) ?_
      refine sp (.bool true) ?_
      refine sp (.int .i64 (whole k)) ?_
      refine sp (pB b 0) ?_
      refine sp (pB b 0) ?_
      refine sp (pB b 0) ?_
      refine s_mem2 (fun H h => tb_open (h.re [2] [])) (fun lv38 r39 hw => ?_)
      refine s_lt (t_load 0 lv38) ?_
      refine s_lt (t_len VlT_ok Tryz.underlying33 (.own 1)) ?_
      refine s_lt (t_add (L.length : Int) 1 (by (try simp only [lnm]); omega)) ?_
      refine s_lt t_cmp ?_
      refine sp (.bool (decide ((whole k) = ((L.length : Int) + 1)))) ?_
      refine sp (.bool (decide ((whole k) = ((L.length : Int) + 1)))) ?_
      refine s_fork 78 (decide ((whole k) = ((L.length : Int) + 1))) (fun c40 => ?_) (fun c40 => ?_)
      ·
       have p41 := of_decide_eq_true c40
       refine sp (pB g2 0) ?_
       refine s_lt (t_load 3 (.int .i64 v.kind)) ?_
       refine s_lt t_cmp ?_
       refine sp (.bool (decide (v.kind ≠ 0))) ?_
       refine sp (.bool (decide (v.kind ≠ 0))) ?_
       refine s_nt ?_
       refine k_cond (decide (v.kind ≠ 0)) (fun c42 => ?_) (fun c42 => ?_)
       ·
        have p43 := of_decide_eq_true c42
        refine k_reg ?_
        refine sp (pB b 0) ?_
        refine s_lt (t_loadA 3 #[.int .i64 v.kind, .int .i64 v.p, .int .i64 v.q, .string v.str, .int .i64 v.ref]) ?_
        refine s_mem (fun _ h => tb_shut (h.re [0, 0, 0] [])) ?_
        refine s_call [0] (tbadd_s (L := L) (S := S) (by (try simp only [lnm]); omega) (by (try simp only [lnm]); omega) v) ?_
        rintro _ _ ⟨rfl, rfl⟩
        refine s_nil ?_
        refine xs_block ?_
        refine xs_then ?_
        refine k_sr ?_
        refine sp (.int .i64 0) ?_
        refine s_nt ?_
        refine k_ret ?_
        have hk := okKey_good c3 c8
        refine xs_fin [.int .i64 0] (tbA b ((tadd ⟨L, S⟩ v).list) ((tadd ⟨L, S⟩ v).rest) :: F) (SI.tmp 6 SI.nil) (fun _ h => h.re [0] [1, 1]) ⟨congrArg (Value.int .i64) (tsetE_ok hk c11).symm, ?_⟩
        rw [tset_add (T := ⟨L, S⟩) hk c11 (by show _ = (L.length : Int) + 1; omega) (of_decide_eq_true c42)]
       ·
        have p44 := Decidable.not_not.1 (of_decide_eq_false c42)
        refine k_seq ?_
        refine k_draw ?_
        refine sp (pB b 0) ?_
        refine sp (pB b 0) ?_
        refine sp (pB b 1) ?_
        refine s_lt (t_load 0 (pB r39 0)) ?_
        refine s_lt (t_loadA 4 #[.int .i64 k.kind, .int .i64 k.p, .int .i64 k.q, .string k.str, .int .i64 k.ref]) ?_
        refine s_lt (t_loadA 3 #[.int .i64 v.kind, .int .i64 v.p, .int .i64 v.q, .string v.str, .int .i64 v.ref]) ?_
        refine s_call [2] (omset_s (S := S) (by (try simp only [lnm]); omega) k v) ?_
        rintro _ _ ⟨rfl, rfl⟩
        refine sp (.int .i64 (osetE k v)) ?_
        refine s_nil ?_
        refine x_dynS (fun _ h => by kernel_rfl) ?_
        refine xs_then ?_
        refine k_ret ?_
        refine xs_retBlock ?_
        refine xs_ret ?_
        have hk := okKey_good c3 c8
        refine xs_mem (fun _ h => tb_shut (h.re [1, 1, 0] [])) ?_
        refine xs_fin [.int .i64 (osetE k v)] (tbA b L (osetL S k v) :: F) (SI.tmp 6 SI.nil) (fun _ h => h.re [0] [1, 1]) ⟨congrArg (Value.int .i64) ((tsetE_oset k v)).symm, ?_⟩
        rw [tset_out (T := ⟨L, S⟩) hk c11 (by show ¬ (_ ∧ _ ≤ (L.length : Int)); omega) (by show ¬ (_ = (L.length : Int) + 1 ∧ _); rintro ⟨e1, e2⟩; first | omega | (have hq := p44; simp_all))]
      ·
       have p45 := of_decide_eq_false c40
       refine s_skip ?_
       refine s_skip ?_
       refine s_skip ?_
       refine sp (.bool false) ?_
       refine sp (.bool false) ?_
       refine s_nt ?_
       refine k_false ?_
       refine k_seq ?_
       refine k_draw ?_
       refine sp (pB b 0) ?_
       refine sp (pB b 0) ?_
       refine sp (pB b 1) ?_
       refine s_lt (t_load 0 (pB r39 0)) ?_
       refine s_lt (t_loadA 4 #[.int .i64 k.kind, .int .i64 k.p, .int .i64 k.q, .string k.str, .int .i64 k.ref]) ?_
       refine s_lt (t_loadA 3 #[.int .i64 v.kind, .int .i64 v.p, .int .i64 v.q, .string v.str, .int .i64 v.ref]) ?_
       refine s_call [2] (omset_s (S := S) (by (try simp only [lnm]); omega) k v) ?_
       rintro _ _ ⟨rfl, rfl⟩
       refine sp (.int .i64 (osetE k v)) ?_
       refine s_nil ?_
       refine x_dynS (fun _ h => by kernel_rfl) ?_
       refine xs_then ?_
       refine k_ret ?_
       refine xs_retBlock ?_
       refine xs_ret ?_
       have hk := okKey_good c3 c8
       refine xs_mem (fun _ h => tb_shut (h.re [1, 1, 0] [])) ?_
       refine xs_fin [.int .i64 (osetE k v)] (tbA b L (osetL S k v) :: F) (SI.tmp 6 SI.nil) (fun _ h => h.re [0] [1, 1]) ⟨congrArg (Value.int .i64) ((tsetE_oset k v)).symm, ?_⟩
       rw [tset_out (T := ⟨L, S⟩) hk c11 (by show ¬ (_ ∧ _ ≤ (L.length : Int)); omega) (by show ¬ (_ = (L.length : Int) + 1 ∧ _); rintro ⟨e1, e2⟩; first | omega | (have hq := p45; simp_all))]
    ·
     rw [hi17] at e13; subst e13
     refine sp (.tuple #[.int .i64 k.p, .bool false]) ?_
     refine sp (.int .i64 k.p) ?_
     refine sp (.bool false) ?_
     refine sp (.int .i64 k.p) ?_
     refine sp (.bool false) ?_
     refine s_nt ?_
     refine k_seq ?_
     refine k_block ?_
     refine k_sr ?_
     refine sp (.bool false) ?_
     refine sp (.bool false) ?_
     refine s_skip ?_
     refine s_skip ?_
     refine sp (.bool false) ?_
     refine sp (.bool false) ?_
     refine s_skip ?_
     refine s_skip ?_
     refine s_skip ?_
     refine s_skip ?_
     refine s_skip ?_
     refine s_skip ?_
     refine s_skip ?_
     refine sp (.bool false) ?_
     refine sp (.bool false) ?_
     refine s_nt ?_
     refine k_false ?_
     refine k_sr ?_
     refine sp (.bool false) ?_
     refine sp (.bool false) ?_
     refine s_skip ?_
     refine s_skip ?_
     refine s_skip ?_
     refine s_skip ?_
     refine s_skip ?_
     refine s_skip ?_
     refine s_skip ?_
     refine s_skip ?_
     refine sp (.bool false) ?_
     refine sp (.bool false) ?_
     refine s_skip ?_
     refine s_skip ?_
     refine s_skip ?_
     refine sp (.bool false) ?_
     refine sp (.bool false) ?_
     refine s_nt ?_
     refine k_false ?_
     refine k_seq ?_
     refine k_draw ?_
     refine sp (pB b 0) ?_
     refine sp (pB b 0) ?_
     refine sp (pB b 1) ?_
     refine s_mem2 (fun H h => tb_open (h.re [2] [])) (fun lv46 r47 hw => ?_)
     refine s_lt (t_load 0 (pB r47 0)) ?_
     refine s_lt (t_loadA 4 #[.int .i64 k.kind, .int .i64 k.p, .int .i64 k.q, .string k.str, .int .i64 k.ref]) ?_
     refine s_lt (t_loadA 3 #[.int .i64 v.kind, .int .i64 v.p, .int .i64 v.q, .string v.str, .int .i64 v.ref]) ?_
     refine s_call [2] (omset_s (S := S) (by (try simp only [lnm]); omega) k v) ?_
     rintro _ _ ⟨rfl, rfl⟩
     refine sp (.int .i64 (osetE k v)) ?_
     refine s_nil ?_
     refine x_dynS (fun _ h => by kernel_rfl) ?_
     refine xs_then ?_
     refine k_ret ?_
     refine xs_retBlock ?_
     refine xs_ret ?_
     have hk := okKey_good c3 c8
     refine xs_mem (fun _ h => tb_shut (h.re [1, 1, 0] [])) ?_
     refine xs_fin [.int .i64 (osetE k v)] (tbA b L (osetL S k v) :: F) (SI.tmp 6 SI.nil) (fun _ h => h.re [0] [1, 1]) ⟨congrArg (Value.int .i64) ((tsetE_oset k v)).symm, ?_⟩
     rw [tset_out (T := ⟨L, S⟩) hk c11 (by show ¬ (_ ∧ _ ≤ (L.length : Int)); omega) (by show ¬ (_ = (L.length : Int) + 1 ∧ _); rintro ⟨e1, e2⟩; first | omega | (have hq := c11; simp_all))]
theorem tbarray_s {Z : Zone} {F : List Asr} {b : Nat} {L : List Vl} {S : List Slt} : SF Tryz.prog 117 #[.pointer (some ⟨b, 0, none⟩)] Z (tbA b L S :: F) fun r Bs => r = .int .i64 (L.length : Int) ∧ Bs = tbA b L S :: F := by
 refine sf_enter Tryz.func117 10 [(0, pB b 0)] (fun w0 => ?_)
 refine k_sr ?_
 refine sp (.int .i64 0) ?_
 refine s_nt ?_
 refine k_seq ?_
 refine k_sr ?_
 refine sp (pB b 0) ?_
 refine sp (.bool false) ?_
 refine s_nt ?_
 refine k_false ?_
 refine k_st ?_
 refine k_sr ?_
 refine sp (pB b 0) ?_
 refine sp (pB b 0) ?_
 refine sp (pB b 0) ?_
 refine s_mem2 (fun H h => tb_open (h.re [0] [])) (fun lv1 r2 hw => ?_)
 refine s_lt (t_load 0 lv1) ?_
 refine s_lt (t_len VlT_ok Tryz.underlying33 (.own 1)) ?_
 refine sp (.int .i64 (L.length : Int)) ?_
 refine s_nt ?_
 refine k_ret ?_
 refine xs_mem (fun _ h => tb_shut (h.re [0, 0, 0] [])) ?_
 refine xs_fin [.int .i64 (L.length : Int)] (tbA b L S :: F) (SI.tmp 2 SI.nil) (fun _ h => h.re [0] []) ⟨?_, rfl⟩
 rfl
theorem tblen_s {Z : Zone} {F : List Asr} {b : Nat} {L : List Vl} {S : List Slt} : SF Tryz.prog 94 #[.pointer (some ⟨b, 0, none⟩)] Z (tbA b L S :: F) fun r Bs => r = .int .i64 (L.length : Int) ∧ Bs = tbA b L S :: F := by
 refine sf_enter Tryz.func94 5 [(0, pB b 0)] (fun w0 => ?_)
 refine k_sr ?_
 refine sp (.int .i64 0) ?_
 refine s_nr ?_
 refine sp (pB b 0) ?_
 refine s_call [0] (tbarray_s (L := L) (S := S)) ?_
 rintro _ _ ⟨rfl, rfl⟩
 refine sp (.int .i64 (L.length : Int)) ?_
 refine s_nt ?_
 refine k_ret ?_
 refine xs_fin [.int .i64 (L.length : Int)] (tbA b L S :: F) (SI.tmp 2 SI.nil) (fun _ h => h.re [0] []) ⟨?_, rfl⟩
 rfl
end Go.Proofs.YtplkkhpokodbmaaGreatDoor
end
