/-
  Ordered maps of the reference. Each law says its conditions.
-/
import Derived.Test.YtmhpcebiamkciaaGreatG2
import Derived.Test.YtmhpcebiamkciaaGreatG1
section
set_option linter.unusedSimpArgs false
set_option linter.unusedVariables false
set_option maxRecDepth 100000
set_option maxHeartbeats 2000000
namespace Go.Proofs.YtmhpcebiamkciaaGreat
open Go.Hp Go.J Go.S
open Go.Mem (Ty KTy blk elemAt pre suf blk_pre blk_suf aget aset strK aggDesc)
open Go.Mem (adel apos aget_aset aget_adel)
def rmA (b : Nat) (S : List Slt) : Asr := exA fun sv => stA (OInv S) [blkA b #[sv] 257, own RSltT sv S]
theorem rm_open {b : Nat} {S : List Slt} {Z : Zone} {F : List Asr} {H : Heap} (h : Holds Z (rmA b S :: F) H) : ∃ (sv : Value), OInv S ∧ Holds Z (blkA b #[sv] 257 :: own RSltT sv S :: F) H := by
  obtain ⟨sv, h⟩ := h.open_ex
  exact ⟨sv, h.open_st⟩
theorem rm_shut {b : Nat} {S : List Slt} {Z : Zone} {F : List Asr} {H : Heap} {sv : Value} (hp : OInv S) (h : Holds Z (blkA b #[sv] 257 :: own RSltT sv S :: F) H) : Holds Z (rmA b S :: F) H :=
  Holds.shut_ex sv (Holds.shut_st hp h)
theorem rm_inv {b : Nat} {S : List Slt} {Z : Zone} {F : List Asr} {H : Heap} (h : Holds Z (rmA b S :: F) H) : OInv S := by
  obtain ⟨_, h, _⟩ := rm_open h; exact h
theorem cnt_step {S : List Slt} {i : Nat} {s : Slt} (h : S[i]? = some s) : cnt (S.take (i + 1)) = if s.gone then cnt (S.take i) else cnt (S.take i) + 1 := by
  unfold cnt; rw [live_take h]; split <;> simp
theorem set_gone {S : List Slt} (h : OInv S) {k : Vl} {i : Nat} {s : Slt} (hs : S[i]? = some s) (hk : s.key = k) (hg : s.gone = true) : S = S.set i ⟨k, zVl, true⟩ := by
  have e := h.zero s (List.mem_of_getElem? hs) hg
  have : s = ⟨k, zVl, true⟩ := by rw [← hk, ← e, ← hg]
  rw [← this]; exact (set_same hs).symm
theorem rmnew_s {Z : Zone} : SF Tryz.prog 190 #[] Z [] fun r Bs => ∃ b, r = .pointer (some ⟨b, 0, none⟩) ∧ Bs = [rmA b []] := by
 refine sf_enter Tryz.func190 3 [] (fun w0 => ?_)
 refine k_sr <| sp (.pointer none) ?_
 refine s_nr ?_
 refine s_lt (t_kern (.agg #[(.slice none 0 0)])) ?_
 refine s_box #[(.slice none 0 0)] (fun g1 => ?_)
 refine sp (pB g1 0) ?_
 refine s_nt <| k_ret <| xs_fin [pB g1 0] [rmA g1 []] (SI.tmp 0 SI.nil) (fun _ h => rm_shut (b := g1) (sv := .slice none 0 0) OInv.nil ((Holds.nilS (T := RSltT) h).re [1, 0] [])) ⟨g1, rfl, rfl⟩
theorem rmfind_s {Z : Zone} {F : List Asr} {b : Nat} {S : List Slt} (hs : S.length ≤ 1000000) (k : Vl) : SF Tryz.prog 240 #[.pointer (some ⟨b, 0, none⟩), k.v] Z (rmA b S :: F) fun r Bs => r = iw (findI S k) ∧ Bs = rmA b S :: F := by
 refine sf_enter Tryz.func240 38 [(0, pB b 0), (1, .agg (vc k))] (fun w0 => ?_)
 refine k_fact (fun H h => rm_inv (h.re [0] [])) (fun hinv0 => ?_)
 refine k_sr <| s_box (vc k) (fun g1 => ?_)
 refine sp (iw 0) ?_
 refine s_nr ?_
 refine sp (iw (-1)) ?_
 refine s_nt <| k_seq <| k_sr <| sp (iw 0) ?_
 refine s_nt <| k_block ?_
 refine k_loop (ι := Nat) (fun i => i ≤ S.length) (fun i => [(0, pB b 0), (3, pB g1 0), (5, iw (findI (S.take i) k)), (6, iw (i : Int))]) (fun i => blkA g1 (vc k) 71 :: rmA b S :: F) (fun i => S.length - i) 0 (Nat.zero_le _) (sub_of rfl ⟨⟨rfl, rfl⟩, ⟨⟨rfl, rfl⟩, ⟨⟨rfl, rfl⟩, ⟨⟨rfl, rfl⟩, trivial⟩⟩⟩⟩) (fun _ h => h.re [0, 0] []) ?_
 rintro i hi2
 show SK _ _ _ _ _ [(0, .pointer (some ⟨b, 0, none⟩)), (3, .pointer (some ⟨g1, 0, none⟩)), (5, iw (findI (S.take i) k)), (6, iw (i : Int))] _ (blkA g1 (vc k) 71 :: rmA b S :: F)
 refine k_seq <| k_sr <| sp (iw (i : Int)) ?_
 refine sp (pB b 0) ?_
 refine sp (pB b 0) ?_
 refine sp (pB b 0) ?_
 refine s_memX (fun H h => rm_open (h.re [1] [])) (fun sv3 hw => ?_)
 refine s_lt (t_load 0 sv3) ?_
 refine s_lt (t_len RSltT_ok Tryz.underlying255 (.own 1)) ?_
 refine s_lt t_cmp ?_
 refine s_nt <| k_cond (decide ((i : Int) < (S.length : Int))) (fun c5 => ?_) (fun c5 => ?_)
 ·
  have p6 := of_decide_eq_true c5
  refine k_st <| k_seq <| k_block ?_
  refine k_seq <| k_draw ?_
  refine sp (pB b 0) ?_
  refine sp (pB b 0) ?_
  refine sp (pB b 0) ?_
  refine s_lt (t_load 0 sv3) ?_
  refine sp (iw (i : Int)) ?_
  refine s_lt (t_index RSltT_ok Tryz.underlying255 (.own 1) (i : Int) i (by omega) (by (try simp only [lnm]); omega) (by omega)) ?_
  refine sp (.pointer (some (elemAt RSltT.size sv3 i))) ?_
  obtain ⟨y7, hy8⟩ : ∃ y, S[i]? = some y := ⟨_, List.getElem?_eq_getElem (by (try simp only [lnm]); omega)⟩
  refine s_lt (t_loadG 0 (vc y7.key) RSltT_ok (.own 1) hy8) ?_
  refine s_lt (t_loadA 2 (vc k)) ?_
  refine s_lt (t_eqS (fun w => (eqVlT y7.key k w).1)) ?_
  refine s_nil <| x_dynS (fun _ h => by kernel_rfl) ?_
  refine xs_then <| k_cond (decide (y7.key = k)) (fun c9 => ?_) (fun c9 => ?_)
  ·
   have p10 := of_decide_eq_true c9
   refine k_sr <| sp (iw (i : Int)) ?_
   refine sp (iw (i : Int)) ?_
   refine s_nr ?_
   refine sp (pB b 0) ?_
   refine sp (pB b 0) ?_
   refine sp (pB b 0) ?_
   refine s_lt (t_load 0 sv3) ?_
   refine sp (iw (i : Int)) ?_
   refine s_lt (t_index RSltT_ok Tryz.underlying255 (.own 1) (i : Int) i (by omega) (by (try simp only [lnm]); omega) (by omega)) ?_
   refine sp (.pointer (some ((elemAt RSltT.size sv3 i).add 10))) ?_
   refine s_lt (t_loadF 10 RSltT_ok (.own 1) hy8) ?_
   refine sp (.bool (!y7.gone)) ?_
   refine s_nt <| k_cond (!y7.gone) (fun c11 => ?_) (fun c11 => ?_)
   ·
    have c12 := not_t c11
    refine k_sr <| sp (iw (i : Int)) ?_
    refine sp (iw (i : Int)) ?_
    refine s_nt <| k_ret <| xs_retBlock ?_
    refine xs_ret <| xs_ret <| xs_retBlock ?_
    refine xs_ret <| xs_mem (fun _ h => rm_shut (S := S) hinv0 (h.re [0, 0] [])) ?_
    refine xs_fin [iw (i : Int)] (rmA b S :: F) (SI.tmp 4 SI.nil) (fun _ h => h.re [0] [1]) ⟨congrArg (Value.int .i64) ?_, rfl⟩
    rw [← of_decide_eq_true c9]; exact (find_here hinv0 hy8 c12).symm
   ·
    have c13 := not_f c11
    refine k_skip ?_
    refine xs_block ?_
    refine xs_then <| k_reg ?_
    refine sp (iw (i : Int)) ?_
    refine s_lt (t_add (i : Int) 1 (by (try simp only [lnm]); omega)) ?_
    refine sp (iw ((i : Int) + 1)) ?_
    refine s_nil ?_
    have hst := find_step k hy8
    rw [if_pos (of_decide_eq_true c9)] at hst
    refine xs_mem (fun _ h => rm_shut (S := S) hinv0 (h.re [0, 0] [])) ?_
    exact xs_round (i + 1) (by omega) (by omega) (sub_of rfl ⟨⟨rfl, rfl⟩, ⟨⟨rfl, rfl⟩, ⟨⟨rfl, congrArg (Value.int .i64) hst.symm⟩, ⟨⟨rfl, rfl⟩, trivial⟩⟩⟩⟩) (fun _ h => h.re [1, 0] [])
  ·
   have p14 := of_decide_eq_false c9
   refine k_skip ?_
   refine xs_block ?_
   refine xs_then <| k_reg ?_
   refine sp (iw (i : Int)) ?_
   refine s_lt (t_add (i : Int) 1 (by (try simp only [lnm]); omega)) ?_
   refine sp (iw ((i : Int) + 1)) ?_
   refine s_nil ?_
   have hst := find_step k hy8
   rw [if_neg (of_decide_eq_false c9)] at hst
   refine xs_mem (fun _ h => rm_shut (S := S) hinv0 (h.re [0, 0] [])) ?_
   exact xs_round (i + 1) (by omega) (by omega) (sub_of rfl ⟨⟨rfl, rfl⟩, ⟨⟨rfl, rfl⟩, ⟨⟨rfl, congrArg (Value.int .i64) hst.symm⟩, ⟨⟨rfl, rfl⟩, trivial⟩⟩⟩⟩) (fun _ h => h.re [1, 0] [])
 ·
  have p15 := of_decide_eq_false c5
  refine k_exit ?_
  refine xs_exit ?_
  refine xs_exit ?_
  refine xs_here ?_
  refine xs_then <| k_sr <| sp (iw (findI (S.take i) k)) ?_
  refine sp (iw (findI (S.take i) k)) ?_
  refine s_nt <| k_ret <| xs_mem (fun _ h => rm_shut (S := S) hinv0 (h.re [0, 0] [])) ?_
  refine xs_fin [iw (findI (S.take i) k)] (rmA b S :: F) (SI.tmp 4 SI.nil) (fun _ h => h.re [0] [1]) ⟨congrArg (Value.int .i64) ?_, rfl⟩
  exact find_end k (by omega)
theorem rmget_s {Z : Zone} {F : List Asr} {b : Nat} {S : List Slt} (hs : S.length ≤ 1000000) (k : Vl) : SF Tryz.prog 199 #[.pointer (some ⟨b, 0, none⟩), k.v] Z (rmA b S :: F) fun r Bs => r = (oget S k).v ∧ Bs = rmA b S :: F := by
 refine sf_enter Tryz.func199 33 [(0, pB b 0), (1, .agg (vc k))] (fun w0 => ?_)
 refine k_fact (fun H h => rm_inv (h.re [0] [])) (fun hinv0 => ?_)
 refine k_sr <| s_box (vc k) (fun g1 => ?_)
 refine s_alloc (.agg zc) zc (fun g2 => ?_)
 refine s_nt <| k_seq <| k_sr <| sp (pB b 0) ?_
 refine sp (.bool false) ?_
 refine s_nt <| k_false ?_
 refine k_st <| k_sr <| sp (pB b 0) ?_
 refine s_lt (t_loadA 1 (vc k)) ?_
 refine s_call [2] (rmfind_s (S := S) (by omega) k) ?_
 rintro u3 _ ⟨e4, rfl⟩
 rcases find_cases (S := S) k with ⟨hf5, hl6, ht7, hg8⟩ | ⟨i9, s10, hf11, hl12, hs13, hk14, hg15, ht16⟩
 ·
  rw [hf5] at e4; subst e4
  refine sp (iw (-1)) ?_
  refine s_nt <| k_seq <| k_sr <| sp (iw (-1)) ?_
  refine s_lt (t_cmp (c := true)) ?_
  refine sp (.bool true) ?_
  refine s_skip ?_
  refine s_skip ?_
  refine s_skip ?_
  refine s_skip ?_
  refine s_skip ?_
  refine s_skip ?_
  refine s_skip ?_
  refine s_skip ?_
  refine sp (.bool true) ?_
  refine s_nt <| k_true ?_
  refine k_sr <| s_lt (t_kern (.agg zc)) ?_
  refine s_store 1 zc ?_
  refine s_nt <| k_ret <| xs_ret <| xs_fin [.agg zc] (rmA b S :: F) (SI.agg 4 71 1 SI.nil) (fun _ h => h.re [0] [1, 1]) ⟨?_, rfl⟩
  exact (congrArg Vl.v hg8).symm
 ·
  rw [hf11] at e4; subst e4
  have hlt17 : i9 < S.length := (List.getElem?_eq_some_iff.1 hs13).1
  refine sp (iw (i9 : Int)) ?_
  refine s_nt <| k_seq <| k_sr <| sp (iw (i9 : Int)) ?_
  refine s_lt (Lt.to t_cmp (congrArg Value.bool (decide_eq_false (by omega) : (decide ((i9 : Int) < 0)) = false))) ?_
  refine sp (.bool false) ?_
  refine sp (pB b 0) ?_
  refine sp (pB b 0) ?_
  refine sp (pB b 0) ?_
  refine s_memX (fun H h => rm_open (h.re [0] [])) (fun sv18 hw => ?_)
  refine s_lt (t_load 0 sv18) ?_
  refine sp (iw (i9 : Int)) ?_
  refine s_lt (t_index RSltT_ok Tryz.underlying255 (.own 1) (i9 : Int) i9 (by omega) (by (try simp only [lnm]); omega) (by omega)) ?_
  refine sp (.pointer (some ((elemAt RSltT.size sv18 i9).add 10))) ?_
  refine s_lt (t_loadF 10 RSltT_ok (.own 1) hs13) ?_
  refine sp (.bool s10.gone) ?_
  refine s_nt <| k_cond s10.gone (fun c20 => ?_) (fun c20 => ?_)
  ·
   refine k_sr <| s_lt (t_kern (.agg zc)) ?_
   refine s_store 2 zc ?_
   refine s_nt <| k_ret <| xs_ret <| xs_mem (fun _ h => rm_shut (S := S) hinv0 (h.re [0, 0] [])) ?_
   refine xs_fin [.agg zc] (rmA b S :: F) (SI.agg 4 71 1 SI.nil) (fun _ h => h.re [0] [1, 1]) ⟨?_, rfl⟩
   exact (congrArg Vl.v (hg15.trans (hinv0.zero _ (List.mem_of_getElem? hs13) c20))).symm
  ·
   refine k_st <| k_sr <| sp (pB b 0) ?_
   refine sp (pB b 0) ?_
   refine sp (pB b 0) ?_
   refine s_lt (t_load 0 sv18) ?_
   refine sp (iw (i9 : Int)) ?_
   refine s_lt (t_index RSltT_ok Tryz.underlying255 (.own 1) (i9 : Int) i9 (by omega) (by (try simp only [lnm]); omega) (by omega)) ?_
   refine sp (.pointer (some ((elemAt RSltT.size sv18 i9).add 5))) ?_
   refine s_lt (t_loadG 5 (vc s10.val) RSltT_ok (.own 1) hs13) ?_
   refine s_store 2 (vc s10.val) ?_
   refine s_nt <| k_ret <| xs_mem (fun _ h => rm_shut (S := S) hinv0 (h.re [0, 0] [])) ?_
   refine xs_fin [.agg (vc s10.val)] (rmA b S :: F) (SI.agg 4 71 1 SI.nil) (fun _ h => h.re [0] [1, 1]) ⟨?_, rfl⟩
   exact (congrArg Vl.v hg15).symm
theorem rmlen_s {Z : Zone} {F : List Asr} {b : Nat} {S : List Slt} (hs : S.length ≤ 1000000) : SF Tryz.prog 241 #[.pointer (some ⟨b, 0, none⟩)] Z (rmA b S :: F) fun r Bs => r = iw (cnt S : Int) ∧ Bs = rmA b S :: F := by
 refine sf_enter Tryz.func241 28 [(0, pB b 0)] (fun w0 => ?_)
 refine k_fact (fun H h => rm_inv (h.re [0] [])) (fun hinv0 => ?_)
 refine k_sr <| sp (iw 0) ?_
 refine s_nt <| k_seq <| k_sr <| sp (pB b 0) ?_
 refine sp (.bool false) ?_
 refine s_nt <| k_false ?_
 refine k_st <| k_sr <| sp (iw 0) ?_
 refine s_nt <| k_seq <| k_sr <| sp (iw 0) ?_
 refine s_nt <| k_block ?_
 refine k_loop (ι := Nat) (fun i => i ≤ S.length) (fun i => [(0, pB b 0), (3, iw (cnt (S.take i) : Int)), (4, iw (i : Int))]) (fun i => rmA b S :: F) (fun i => S.length - i) 0 (Nat.zero_le _) (sub_of rfl ⟨⟨rfl, rfl⟩, ⟨⟨rfl, rfl⟩, ⟨⟨rfl, rfl⟩, trivial⟩⟩⟩) (fun _ h => h.re [0] []) ?_
 rintro i hi1
 show SK _ _ _ _ _ [(0, .pointer (some ⟨b, 0, none⟩)), (3, iw (cnt (S.take i) : Int)), (4, iw (i : Int))] _ (rmA b S :: F)
 have hcl : cnt (S.take i) ≤ i := Nat.le_trans (cnt_le _) (by rw [List.length_take]; omega)
 refine k_seq <| k_sr <| sp (iw (i : Int)) ?_
 refine sp (pB b 0) ?_
 refine sp (pB b 0) ?_
 refine sp (pB b 0) ?_
 refine s_memX (fun H h => rm_open (h.re [0] [])) (fun sv2 hw => ?_)
 refine s_lt (t_load 0 sv2) ?_
 refine s_lt (t_len RSltT_ok Tryz.underlying255 (.own 1)) ?_
 refine s_lt t_cmp ?_
 refine s_nt <| k_cond (decide ((i : Int) < (S.length : Int))) (fun c4 => ?_) (fun c4 => ?_)
 ·
  have p5 := of_decide_eq_true c4
  refine k_st <| k_seq <| k_block ?_
  refine k_sr <| sp (pB b 0) ?_
  refine sp (pB b 0) ?_
  refine sp (pB b 0) ?_
  refine s_lt (t_load 0 sv2) ?_
  refine sp (iw (i : Int)) ?_
  refine s_lt (t_index RSltT_ok Tryz.underlying255 (.own 1) (i : Int) i (by omega) (by (try simp only [lnm]); omega) (by omega)) ?_
  refine sp (.pointer (some ((elemAt RSltT.size sv2 i).add 10))) ?_
  obtain ⟨y6, hy7⟩ : ∃ y, S[i]? = some y := ⟨_, List.getElem?_eq_getElem (by (try simp only [lnm]); omega)⟩
  refine s_lt (t_loadF 10 RSltT_ok (.own 1) hy7) ?_
  refine sp (.bool (!y6.gone)) ?_
  refine s_nt <| k_cond (!y6.gone) (fun c8 => ?_) (fun c8 => ?_)
  ·
   have c9 := not_t c8
   refine k_reg ?_
   refine sp (iw (cnt (S.take i) : Int)) ?_
   refine s_lt (t_add (cnt (S.take i) : Int) 1 (by (try simp only [lnm]); omega)) ?_
   refine sp (iw ((cnt (S.take i) : Int) + 1)) ?_
   refine s_nil <| xs_block ?_
   refine xs_then <| k_reg ?_
   refine sp (iw (i : Int)) ?_
   refine s_lt (t_add (i : Int) 1 (by (try simp only [lnm]); omega)) ?_
   refine sp (iw ((i : Int) + 1)) ?_
   refine s_nil ?_
   have hst := cnt_step hy7
   rw [if_neg (by rw [c9]; decide)] at hst
   rw [show ((cnt (S.take i) : Int) + 1) = ((cnt (S.take (i + 1)) : Nat) : Int) by omega]
   refine xs_mem (fun _ h => rm_shut (S := S) hinv0 (h.re [0, 0] [])) ?_
   exact xs_round (i + 1) (by omega) (by omega) (sub_of rfl ⟨⟨rfl, rfl⟩, ⟨⟨rfl, rfl⟩, ⟨⟨rfl, rfl⟩, trivial⟩⟩⟩) (fun _ h => h.re [0] [])
  ·
   have c10 := not_f c8
   refine k_skip ?_
   refine xs_block ?_
   refine xs_then <| k_reg ?_
   refine sp (iw (i : Int)) ?_
   refine s_lt (t_add (i : Int) 1 (by (try simp only [lnm]); omega)) ?_
   refine sp (iw ((i : Int) + 1)) ?_
   refine s_nil ?_
   have hst := cnt_step hy7
   rw [if_pos c10] at hst
   rw [← hst]
   refine xs_mem (fun _ h => rm_shut (S := S) hinv0 (h.re [0, 0] [])) ?_
   exact xs_round (i + 1) (by omega) (by omega) (sub_of rfl ⟨⟨rfl, rfl⟩, ⟨⟨rfl, rfl⟩, ⟨⟨rfl, rfl⟩, trivial⟩⟩⟩) (fun _ h => h.re [0] [])
 ·
  have p11 := of_decide_eq_false c4
  refine k_exit ?_
  refine xs_exit ?_
  refine xs_exit ?_
  refine xs_here ?_
  refine xs_then <| k_sr <| sp (iw (cnt (S.take i) : Int)) ?_
  refine sp (iw (cnt (S.take i) : Int)) ?_
  refine s_nt <| k_ret <| xs_mem (fun _ h => rm_shut (S := S) hinv0 (h.re [0, 0] [])) ?_
  refine xs_fin [iw (cnt (S.take i) : Int)] (rmA b S :: F) (SI.tmp 2 SI.nil) (fun _ h => h.re [0] []) ⟨?_, rfl⟩
  show Value.int .i64 (cnt (S.take i) : Int) = _; rw [List.take_of_length_le (by omega)]
theorem rmkeys_s {Z : Zone} {F : List Asr} {b : Nat} {S : List Slt} (hs : S.length ≤ 1000000) : SF Tryz.prog 244 #[.pointer (some ⟨b, 0, none⟩)] Z (rmA b S :: F) fun r Bs => Bs = own VlT r (okeys S) :: rmA b S :: F := by
 refine sf_enter Tryz.func244 38 [(0, pB b 0)] (fun w0 => ?_)
 refine k_fact (fun H h => rm_inv (h.re [0] [])) (fun hinv0 => ?_)
 refine k_sr <| sp (.slice none 0 0) ?_
 refine s_nr ?_
 refine sp (.slice none 0 0) ?_
 refine s_nt <| k_seq <| k_sr <| sp (pB b 0) ?_
 refine sp (.bool false) ?_
 refine s_nt <| k_false ?_
 refine k_st <| k_seq <| k_sr <| sp (iw 0) ?_
 refine s_nt <| k_block ?_
 refine k_mem (fun _ h => Holds.nilS (T := VlT) h) ?_
 refine k_mem (Bs := own VlT (.slice none 0 0) (okeys (S.take 0)) :: rmA b S :: F) (fun _ h => h) ?_
 refine k_loop (ι := Value × Nat) (fun (lx, i) => i ≤ S.length) (fun (lx, i) => [(0, pB b 0), (3, lx), (4, iw (i : Int))]) (fun (lx, i) => own VlT lx (okeys (S.take i)) :: rmA b S :: F) (fun (lx, i) => S.length - i) ((.slice none 0 0), 0) (Nat.zero_le _) (sub_of rfl ⟨⟨rfl, rfl⟩, ⟨⟨rfl, rfl⟩, ⟨⟨rfl, rfl⟩, trivial⟩⟩⟩) (fun _ h => h.re [0, 0] []) ?_
 rintro ⟨lx, i⟩ hi1
 replace hi1 : i ≤ S.length := hi1
 show SK _ _ _ _ _ [(0, .pointer (some ⟨b, 0, none⟩)), (3, lx), (4, iw (i : Int))] _ (own VlT lx (okeys (S.take i)) :: rmA b S :: F)
 have hli : (okeys (S.take i)).length ≤ i := Nat.le_trans (okeys_len _) (by rw [List.length_take]; omega)
 refine k_seq <| k_sr <| sp (iw (i : Int)) ?_
 refine sp (pB b 0) ?_
 refine sp (pB b 0) ?_
 refine sp (pB b 0) ?_
 refine s_memX (fun H h => rm_open (h.re [1] [])) (fun sv2 hw => ?_)
 refine s_lt (t_load 0 sv2) ?_
 refine s_lt (t_len RSltT_ok Tryz.underlying255 (.own 1)) ?_
 refine s_lt t_cmp ?_
 refine s_nt <| k_cond (decide ((i : Int) < (S.length : Int))) (fun c4 => ?_) (fun c4 => ?_)
 ·
  have p5 := of_decide_eq_true c4
  refine k_st <| k_seq <| k_block ?_
  refine k_sr <| sp (pB b 0) ?_
  refine sp (pB b 0) ?_
  refine sp (pB b 0) ?_
  refine s_lt (t_load 0 sv2) ?_
  refine sp (iw (i : Int)) ?_
  refine s_lt (t_index RSltT_ok Tryz.underlying255 (.own 1) (i : Int) i (by omega) (by (try simp only [lnm]); omega) (by omega)) ?_
  refine sp (.pointer (some ((elemAt RSltT.size sv2 i).add 10))) ?_
  obtain ⟨y6, hy7⟩ : ∃ y, S[i]? = some y := ⟨_, List.getElem?_eq_getElem (by (try simp only [lnm]); omega)⟩
  refine s_lt (t_loadF 10 RSltT_ok (.own 1) hy7) ?_
  refine sp (.bool (!y6.gone)) ?_
  refine s_nt <| k_cond (!y6.gone) (fun c8 => ?_) (fun c8 => ?_)
  ·
   have c9 := not_t c8
   refine k_reg ?_
   refine sp lx ?_
   refine sp (pB b 0) ?_
   refine sp (pB b 0) ?_
   refine sp (pB b 0) ?_
   refine s_lt (t_load 0 sv2) ?_
   refine sp (iw (i : Int)) ?_
   refine s_lt (t_index RSltT_ok Tryz.underlying255 (.own 1) (i : Int) i (by omega) (by (try simp only [lnm]); omega) (by omega)) ?_
   refine sp (.pointer (some (elemAt RSltT.size sv2 i))) ?_
   refine s_lt (t_loadG 0 (vc y6.key) RSltT_ok (.own 1) hy7) ?_
   refine s_buildSlice (e := 71) [(0, .agg (vc y6.key))] (vc y6.key) (fun g10 => ?_) (hb := by kernel_rfl)
   refine s_append (L := (okeys (S.take i))) 3 VlT_ok Tryz.underlying28 (.lit 0 VlT_ok [y6.key]) (by show _ * 48 ≤ _; (try simp only [lnm]); omega) (by (try simp only [lnm]); omega) (fun v11 => ?_)
   refine sp v11 ?_
   refine s_nil <| xs_block ?_
   refine xs_then <| k_reg ?_
   refine sp (iw (i : Int)) ?_
   refine s_lt (t_add (i : Int) 1 (by (try simp only [lnm]); omega)) ?_
   refine sp (iw ((i : Int) + 1)) ?_
   refine s_nil ?_
   have hks := okeys_step hy7
   rw [if_neg (by rw [c9]; decide)] at hks
   rw [← hks]
   refine xs_mem (fun _ h => rm_shut (S := S) hinv0 (h.re [1, 1] [])) ?_
   exact xs_round (v11, i + 1) (by show S.length - (i + 1) < S.length - i; omega) (by show i + 1 ≤ S.length; omega) (sub_of rfl ⟨⟨rfl, rfl⟩, ⟨⟨rfl, rfl⟩, ⟨⟨rfl, rfl⟩, trivial⟩⟩⟩) (fun _ h => h.re [2, 0] [2])
  ·
   have c12 := not_f c8
   refine k_skip ?_
   refine xs_block ?_
   refine xs_then <| k_reg ?_
   refine sp (iw (i : Int)) ?_
   refine s_lt (t_add (i : Int) 1 (by (try simp only [lnm]); omega)) ?_
   refine sp (iw ((i : Int) + 1)) ?_
   refine s_nil ?_
   have hks := okeys_step hy7
   rw [if_pos c12] at hks
   rw [← hks]
   refine xs_mem (fun _ h => rm_shut (S := S) hinv0 (h.re [0, 0] [])) ?_
   exact xs_round (lx, i + 1) (by show S.length - (i + 1) < S.length - i; omega) (by show i + 1 ≤ S.length; omega) (sub_of rfl ⟨⟨rfl, rfl⟩, ⟨⟨rfl, rfl⟩, ⟨⟨rfl, rfl⟩, trivial⟩⟩⟩) (fun _ h => h.re [1, 0] [])
 ·
  have p13 := of_decide_eq_false c4
  refine k_exit ?_
  refine xs_exit ?_
  refine xs_exit ?_
  refine xs_here ?_
  refine xs_then <| k_sr <| sp lx ?_
  refine sp lx ?_
  refine s_nt <| k_ret <| xs_mem (fun _ h => rm_shut (S := S) hinv0 (h.re [0, 0] [])) ?_
  have hend : okeys (S.take i) = okeys S := by rw [List.take_of_length_le (by omega)]
  rw [hend]
  exact xs_fin [lx] (own VlT lx (okeys S) :: rmA b S :: F) (SI.tmp 2 SI.nil) (fun _ h => h.re [1, 0] []) rfl
theorem next_found2 {S : List Slt} {a j : Nat} {s : Slt} (ha : a ≤ j) (h : live ((S.drop a).take (j - a)) = []) (hs : S[j]? = some s) (hg : s.gone = false) : slotV (live (S.drop a)).head? = (s.key, s.val, true) :=
  next_found h (by rw [List.getElem?_drop, show a + (j - a) = j by omega]; exact hs) hg
theorem next_end2 {S : List Slt} {a j : Nat} (ha : a ≤ j) (h : live ((S.drop a).take (j - a)) = []) (hj : S.length ≤ j) : slotV (live (S.drop a)).head? = (zVl, zVl, false) :=
  next_end h (by rw [List.length_drop]; omega)
theorem next_step2 {S : List Slt} {a j : Nat} {s : Slt} (ha : a ≤ j) (h : live ((S.drop a).take (j - a)) = []) (hs : S[j]? = some s) (hg : s.gone = true) : live ((S.drop a).take (j + 1 - a)) = [] := by
  rw [show j + 1 - a = (j - a) + 1 by omega]
  exact live_gone_step h (by rw [List.getElem?_drop, show a + (j - a) = j by omega]; exact hs) hg
theorem rmnext_s {Z : Zone} {F : List Asr} {b : Nat} {S : List Slt} (hs : S.length ≤ 1000000) (k : Vl) : SF Tryz.prog 243 #[.pointer (some ⟨b, 0, none⟩), k.v] Z (rmA b S :: F) fun r Bs => r = nextV (onext S k) ∧ Bs = rmA b S :: F := by
 refine sf_enter Tryz.func243 62 [(0, pB b 0), (1, .agg (vc k))] (fun w0 => ?_)
 refine k_fact (fun H h => rm_inv (h.re [0] [])) (fun hinv0 => ?_)
 refine k_sr <| s_box (vc k) (fun g1 => ?_)
 refine s_alloc (.agg zc) zc (fun g2 => ?_)
 refine s_alloc (.agg zc) zc (fun g3 => ?_)
 refine sp (.bool false) ?_
 refine sp (iw 0) ?_
 refine s_nt <| k_seq <| k_sr <| sp (pB b 0) ?_
 refine sp (.bool false) ?_
 refine s_nt <| k_false ?_
 refine k_st <| k_sr <| sp (iw (-1)) ?_
 refine s_nt <| k_seq <| k_sr <| s_lt (t_loadA 2 (vc k)) ?_
 refine s_lt (t_kern (.agg zc)) ?_
 refine s_lt (t_eqS (fun w => (eqVlT k zVl w).2)) ?_
 refine s_nt <| k_cond (!(decide (k = zVl))) (fun c4 => ?_) (fun c4 => ?_)
 ·
  have c5 := not_t c4
  have p6 := of_decide_eq_false c5
  refine k_sr <| sp (pB b 0) ?_
  refine s_lt (t_loadA 2 (vc k)) ?_
  refine s_call [3] (rmfind_s (S := S) (by omega) k) ?_
  rintro u7 _ ⟨e8, rfl⟩
  rcases find_cases (S := S) k with ⟨hf9, hl10, ht11, hg12⟩ | ⟨i13, s14, hf15, hl16, hs17, hk18, hg19, ht20⟩
  ·
   rw [hf9] at e8; subst e8
   refine sp (iw (-1)) ?_
   refine s_nr ?_
   refine sp (iw (-1)) ?_
   refine s_lt (t_cmp (c := true)) ?_
   refine s_nt <| k_true ?_
   refine k_sr <| s_lt (t_kern (.agg zc)) ?_
   refine s_lt (t_kern (.agg zc)) ?_
   refine s_store 2 zc ?_
   refine s_store 1 zc ?_
   refine sp (.bool false) ?_
   refine sp (iw 13) ?_
   refine s_nt <| k_ret <| xs_ret ?_
   have hp : onext S k = (zVl, zVl, false, 13) := (onext_none (of_decide_eq_false c5) hl10)
   refine xs_fin [.agg zc, .agg zc, .bool false, iw 13] (rmA b S :: F) (SI.agg 4 71 2 (SI.agg 5 71 1 (SI.tmp 6 (SI.tmp 7 SI.nil)))) (fun _ h => h.re [0] [1, 1, 1]) ⟨?_, rfl⟩
   rw [hp]; rfl
  ·
   rw [hf15] at e8; subst e8
   have hlt21 : i13 < S.length := (List.getElem?_eq_some_iff.1 hs17).1
   refine sp (iw (i13 : Int)) ?_
   refine s_nr ?_
   refine sp (iw (i13 : Int)) ?_
   refine s_lt (Lt.to t_cmp (congrArg Value.bool (decide_eq_false (by omega) : (decide ((i13 : Int) < 0)) = false))) ?_
   refine s_nt <| k_false ?_
   refine k_st <| k_seq <| k_sr <| sp (iw (i13 : Int)) ?_
   refine s_lt (t_add (i13 : Int) 1 (by (try simp only [lnm]); omega)) ?_
   refine sp (iw ((i13 : Int) + 1)) ?_
   refine s_nt <| k_block ?_
   refine k_loop (ι := Nat) (fun j => (i13 + 1) ≤ j ∧ j ≤ S.length ∧ live ((S.drop (i13 + 1)).take (j - (i13 + 1))) = []) (fun j => [(0, pB b 0), (4, pB g2 0), (5, pB g3 0), (9, iw (j : Int))]) (fun j => rmA b S :: blkA g3 zc 71 :: blkA g2 zc 71 :: blkA g1 (vc k) 71 :: F) (fun j => S.length - j) (i13 + 1) ⟨Nat.le_refl _, by omega, by rw [Nat.sub_self]; rfl⟩ (sub_of rfl ⟨⟨rfl, rfl⟩, ⟨⟨rfl, rfl⟩, ⟨⟨rfl, rfl⟩, ⟨⟨rfl, rfl⟩, trivial⟩⟩⟩⟩) (fun _ h => h.re [0, 0, 0, 0] []) ?_
   rintro j hi22
   show SK _ _ _ _ _ [(0, .pointer (some ⟨b, 0, none⟩)), (4, .pointer (some ⟨g2, 0, none⟩)), (5, .pointer (some ⟨g3, 0, none⟩)), (9, iw (j : Int))] _ (rmA b S :: blkA g3 zc 71 :: blkA g2 zc 71 :: blkA g1 (vc k) 71 :: F)
   refine k_seq <| k_sr <| sp (iw (j : Int)) ?_
   refine sp (pB b 0) ?_
   refine sp (pB b 0) ?_
   refine sp (pB b 0) ?_
   refine s_memX (fun H h => rm_open (h.re [0] [])) (fun sv23 hw => ?_)
   refine s_lt (t_load 0 sv23) ?_
   refine s_lt (t_len RSltT_ok Tryz.underlying255 (.own 1)) ?_
   refine s_lt t_cmp ?_
   refine s_nt <| k_cond (decide ((j : Int) < (S.length : Int))) (fun c25 => ?_) (fun c25 => ?_)
   ·
    have p26 := of_decide_eq_true c25
    refine k_st <| k_seq <| k_block ?_
    refine k_sr <| sp (pB b 0) ?_
    refine sp (pB b 0) ?_
    refine sp (pB b 0) ?_
    refine s_lt (t_load 0 sv23) ?_
    refine sp (iw (j : Int)) ?_
    refine s_lt (t_index RSltT_ok Tryz.underlying255 (.own 1) (j : Int) j (by omega) (by (try simp only [lnm]); omega) (by omega)) ?_
    refine sp (.pointer (some ((elemAt RSltT.size sv23 j).add 10))) ?_
    obtain ⟨y27, hy28⟩ : ∃ y, S[j]? = some y := ⟨_, List.getElem?_eq_getElem (by (try simp only [lnm]); omega)⟩
    refine s_lt (t_loadF 10 RSltT_ok (.own 1) hy28) ?_
    refine sp (.bool (!y27.gone)) ?_
    refine s_nt <| k_cond (!y27.gone) (fun c29 => ?_) (fun c29 => ?_)
    ·
     have c30 := not_t c29
     refine k_seq <| k_held [blkA b #[sv23] 257, own RSltT sv23 S, blkA g1 (vc k) 71] ?_
     refine hp_ 0 [0, 0, 2] (pB b 0) ?_
     refine hp_ 1 [0, 0, 2] (pB b 0) ?_
     refine hp_ 2 [0, 0, 2] (pB b 0) ?_
     refine h_l 3 rfl [0, 0, 2] (fun _ => (t_load 0 sv23)) ?_
     refine hp_ 4 [0, 0, 2] (iw (j : Int)) ?_
     refine h_l 5 rfl [0, 0, 2] (fun _ => (t_index RSltT_ok Tryz.underlying255 (.own 1) (j : Int) j (by omega) (by (try simp only [lnm]); omega) (by omega))) ?_
     refine hp_ 6 [0, 0, 2] (.pointer (some (elemAt RSltT.size sv23 j))) ?_
     refine h_l 7 rfl [0, 0, 2] (fun _ => (t_loadG 0 (vc y27.key) RSltT_ok (.own 1) hy28)) ?_
     refine hp_ 8 [0, 0, 2] (pB b 0) ?_
     refine hp_ 9 [0, 0, 2] (pB b 0) ?_
     refine hp_ 10 [0, 0, 2] (pB b 0) ?_
     refine h_l 11 rfl [0, 0, 2] (fun _ => (t_load 0 sv23)) ?_
     refine hp_ 12 [0, 0, 2] (iw (j : Int)) ?_
     refine h_l 13 rfl [0, 0, 2] (fun _ => (t_index RSltT_ok Tryz.underlying255 (.own 1) (j : Int) j (by omega) (by (try simp only [lnm]); omega) (by omega))) ?_
     refine hp_ 14 [0, 0, 2] (.pointer (some ((elemAt RSltT.size sv23 j).add 5))) ?_
     refine h_l 15 rfl [0, 0, 2] (fun _ => (t_loadG 5 (vc y27.val) RSltT_ok (.own 1) hy28)) ?_
     refine h_stepS 16 ?_
     refine s_store 3 (vc y27.key) ?_
     refine s_nil (xs_held [0, 0, 2] ?_)
     refine h_stepS 17 ?_
     refine s_store 2 (vc y27.val) ?_
     refine s_nil (xs_held [0, 0, 2] ?_)
     refine hp_ 18 [0, 0, 2] (.bool true) ?_
     refine hp_ 19 [0, 0, 2] (iw 0) ?_
     refine h_doneS ?_
     refine xs_then <| k_ret <| xs_retBlock ?_
     refine xs_ret <| xs_ret <| xs_retBlock ?_
     refine xs_ret <| xs_mem (fun _ h => rm_shut (S := S) hinv0 (h.re [0, 0] [])) ?_
     have hr := next_found2 (a := (i13 + 1)) (by omega) hi22.2.2 hy28 c30
     have hp : onext S k = (y27.key, y27.val, true, 0) := by rw [(onext_some (of_decide_eq_false c5) hl16)]; first | (rw [hr]; done) | (have hr0 : slotV (live S).head? = _ := hr; rw [hr0])
     refine xs_fin [.agg (vc y27.key), .agg (vc y27.val), .bool true, iw 0] (rmA b S :: F) (SI.agg 4 71 2 (SI.agg 5 71 1 (SI.tmp 6 (SI.tmp 7 SI.nil)))) (fun _ h => h.re [0] [1, 1, 1]) ⟨?_, rfl⟩
     rw [hp]; rfl
    ·
     have c31 := not_f c29
     refine k_skip ?_
     refine xs_block ?_
     refine xs_then <| k_reg ?_
     refine sp (iw (j : Int)) ?_
     refine s_lt (t_add (j : Int) 1 (by (try simp only [lnm]); omega)) ?_
     refine sp (iw ((j : Int) + 1)) ?_
     refine s_nil <| xs_mem (fun _ h => rm_shut (S := S) hinv0 (h.re [0, 0] [])) ?_
     exact xs_round (j + 1) (by omega) ⟨by omega, by omega, next_step2 (by omega) hi22.2.2 hy28 c31⟩ (sub_of rfl ⟨⟨rfl, rfl⟩, ⟨⟨rfl, rfl⟩, ⟨⟨rfl, rfl⟩, ⟨⟨rfl, rfl⟩, trivial⟩⟩⟩⟩) (fun _ h => h.re [0, 0, 0, 0] [])
   ·
    have p32 := of_decide_eq_false c25
    refine k_exit ?_
    refine xs_exit ?_
    refine xs_exit ?_
    refine xs_here ?_
    refine xs_then <| k_sr <| s_lt (t_kern (.agg zc)) ?_
    refine s_lt (t_kern (.agg zc)) ?_
    refine s_store 3 zc ?_
    refine s_store 2 zc ?_
    refine sp (.bool false) ?_
    refine sp (iw 0) ?_
    refine s_nt <| k_ret <| xs_mem (fun _ h => rm_shut (S := S) hinv0 (h.re [0, 0] [])) ?_
    have hr := next_end2 (a := (i13 + 1)) (by omega) hi22.2.2 (by omega)
    have hp : onext S k = (zVl, zVl, false, 0) := by rw [(onext_some (of_decide_eq_false c5) hl16)]; first | (rw [hr]; done) | (have hr0 : slotV (live S).head? = _ := hr; rw [hr0])
    refine xs_fin [.agg zc, .agg zc, .bool false, iw 0] (rmA b S :: F) (SI.agg 4 71 2 (SI.agg 5 71 1 (SI.tmp 6 (SI.tmp 7 SI.nil)))) (fun _ h => h.re [0] [1, 1, 1]) ⟨?_, rfl⟩
    rw [hp]; rfl
 ·
  have c33 := not_f c4
  have p34 := of_decide_eq_true c33
  refine k_st <| k_seq <| k_sr <| sp (iw (-1)) ?_
  refine sp (iw 0) ?_
  refine sp (iw 0) ?_
  refine s_nt <| k_block ?_
  refine k_loop (ι := Nat) (fun j => 0 ≤ j ∧ j ≤ S.length ∧ live ((S.drop 0).take (j - 0)) = []) (fun j => [(0, pB b 0), (4, pB g2 0), (5, pB g3 0), (9, iw (j : Int))]) (fun j => blkA g3 zc 71 :: blkA g2 zc 71 :: blkA g1 (vc k) 71 :: rmA b S :: F) (fun j => S.length - j) 0 ⟨Nat.le_refl _, by omega, by rw [Nat.sub_self]; rfl⟩ (sub_of rfl ⟨⟨rfl, rfl⟩, ⟨⟨rfl, rfl⟩, ⟨⟨rfl, rfl⟩, ⟨⟨rfl, rfl⟩, trivial⟩⟩⟩⟩) (fun _ h => h.re [0, 0, 0, 0] []) ?_
  rintro j hi35
  show SK _ _ _ _ _ [(0, .pointer (some ⟨b, 0, none⟩)), (4, .pointer (some ⟨g2, 0, none⟩)), (5, .pointer (some ⟨g3, 0, none⟩)), (9, iw (j : Int))] _ (blkA g3 zc 71 :: blkA g2 zc 71 :: blkA g1 (vc k) 71 :: rmA b S :: F)
  refine k_seq <| k_sr <| sp (iw (j : Int)) ?_
  refine sp (pB b 0) ?_
  refine sp (pB b 0) ?_
  refine sp (pB b 0) ?_
  refine s_memX (fun H h => rm_open (h.re [3] [])) (fun sv36 hw => ?_)
  refine s_lt (t_load 0 sv36) ?_
  refine s_lt (t_len RSltT_ok Tryz.underlying255 (.own 1)) ?_
  refine s_lt t_cmp ?_
  refine s_nt <| k_cond (decide ((j : Int) < (S.length : Int))) (fun c38 => ?_) (fun c38 => ?_)
  ·
   have p39 := of_decide_eq_true c38
   refine k_st <| k_seq <| k_block ?_
   refine k_sr <| sp (pB b 0) ?_
   refine sp (pB b 0) ?_
   refine sp (pB b 0) ?_
   refine s_lt (t_load 0 sv36) ?_
   refine sp (iw (j : Int)) ?_
   refine s_lt (t_index RSltT_ok Tryz.underlying255 (.own 1) (j : Int) j (by omega) (by (try simp only [lnm]); omega) (by omega)) ?_
   refine sp (.pointer (some ((elemAt RSltT.size sv36 j).add 10))) ?_
   obtain ⟨y40, hy41⟩ : ∃ y, S[j]? = some y := ⟨_, List.getElem?_eq_getElem (by (try simp only [lnm]); omega)⟩
   refine s_lt (t_loadF 10 RSltT_ok (.own 1) hy41) ?_
   refine sp (.bool (!y40.gone)) ?_
   refine s_nt <| k_cond (!y40.gone) (fun c42 => ?_) (fun c42 => ?_)
   ·
    have c43 := not_t c42
    refine k_seq <| k_held [blkA b #[sv36] 257, own RSltT sv36 S, blkA g1 (vc k) 71] ?_
    refine hp_ 0 [0, 0, 2] (pB b 0) ?_
    refine hp_ 1 [0, 0, 2] (pB b 0) ?_
    refine hp_ 2 [0, 0, 2] (pB b 0) ?_
    refine h_l 3 rfl [0, 0, 2] (fun _ => (t_load 0 sv36)) ?_
    refine hp_ 4 [0, 0, 2] (iw (j : Int)) ?_
    refine h_l 5 rfl [0, 0, 2] (fun _ => (t_index RSltT_ok Tryz.underlying255 (.own 1) (j : Int) j (by omega) (by (try simp only [lnm]); omega) (by omega))) ?_
    refine hp_ 6 [0, 0, 2] (.pointer (some (elemAt RSltT.size sv36 j))) ?_
    refine h_l 7 rfl [0, 0, 2] (fun _ => (t_loadG 0 (vc y40.key) RSltT_ok (.own 1) hy41)) ?_
    refine hp_ 8 [0, 0, 2] (pB b 0) ?_
    refine hp_ 9 [0, 0, 2] (pB b 0) ?_
    refine hp_ 10 [0, 0, 2] (pB b 0) ?_
    refine h_l 11 rfl [0, 0, 2] (fun _ => (t_load 0 sv36)) ?_
    refine hp_ 12 [0, 0, 2] (iw (j : Int)) ?_
    refine h_l 13 rfl [0, 0, 2] (fun _ => (t_index RSltT_ok Tryz.underlying255 (.own 1) (j : Int) j (by omega) (by (try simp only [lnm]); omega) (by omega))) ?_
    refine hp_ 14 [0, 0, 2] (.pointer (some ((elemAt RSltT.size sv36 j).add 5))) ?_
    refine h_l 15 rfl [0, 0, 2] (fun _ => (t_loadG 5 (vc y40.val) RSltT_ok (.own 1) hy41)) ?_
    refine h_stepS 16 ?_
    refine s_store 3 (vc y40.key) ?_
    refine s_nil (xs_held [0, 0, 2] ?_)
    refine h_stepS 17 ?_
    refine s_store 2 (vc y40.val) ?_
    refine s_nil (xs_held [0, 0, 2] ?_)
    refine hp_ 18 [0, 0, 2] (.bool true) ?_
    refine hp_ 19 [0, 0, 2] (iw 0) ?_
    refine h_doneS ?_
    refine xs_then <| k_ret <| xs_retBlock ?_
    refine xs_ret <| xs_ret <| xs_retBlock ?_
    refine xs_ret <| xs_mem (fun _ h => rm_shut (S := S) hinv0 (h.re [0, 0] [])) ?_
    have hz : k = zVl := (of_decide_eq_true c33)
    subst hz
    have hr := next_found2 (a := 0) (by omega) hi35.2.2 hy41 c43
    have hp : onext S zVl = (y40.key, y40.val, true, 0) := by rw [(onext_nil S)]; first | (rw [hr]; done) | (have hr0 : slotV (live S).head? = _ := hr; rw [hr0])
    refine xs_fin [.agg (vc y40.key), .agg (vc y40.val), .bool true, iw 0] (rmA b S :: F) (SI.agg 4 71 2 (SI.agg 5 71 1 (SI.tmp 6 (SI.tmp 7 SI.nil)))) (fun _ h => h.re [0] [1, 1, 1]) ⟨?_, rfl⟩
    rw [hp]; rfl
   ·
    have c44 := not_f c42
    refine k_skip ?_
    refine xs_block ?_
    refine xs_then <| k_reg ?_
    refine sp (iw (j : Int)) ?_
    refine s_lt (t_add (j : Int) 1 (by (try simp only [lnm]); omega)) ?_
    refine sp (iw ((j : Int) + 1)) ?_
    refine s_nil <| xs_mem (fun _ h => rm_shut (S := S) hinv0 (h.re [0, 0] [])) ?_
    exact xs_round (j + 1) (by omega) ⟨by omega, by omega, next_step2 (by omega) hi35.2.2 hy41 c44⟩ (sub_of rfl ⟨⟨rfl, rfl⟩, ⟨⟨rfl, rfl⟩, ⟨⟨rfl, rfl⟩, ⟨⟨rfl, rfl⟩, trivial⟩⟩⟩⟩) (fun _ h => h.re [1, 1, 1, 0] [])
  ·
   have p45 := of_decide_eq_false c38
   refine k_exit ?_
   refine xs_exit ?_
   refine xs_exit ?_
   refine xs_here ?_
   refine xs_then <| k_sr <| s_lt (t_kern (.agg zc)) ?_
   refine s_lt (t_kern (.agg zc)) ?_
   refine s_store 3 zc ?_
   refine s_store 2 zc ?_
   refine sp (.bool false) ?_
   refine sp (iw 0) ?_
   refine s_nt <| k_ret <| xs_mem (fun _ h => rm_shut (S := S) hinv0 (h.re [0, 0] [])) ?_
   have hz : k = zVl := (of_decide_eq_true c33)
   subst hz
   have hr := next_end2 (a := 0) (by omega) hi35.2.2 (by omega)
   have hp : onext S zVl = (zVl, zVl, false, 0) := by rw [(onext_nil S)]; first | (rw [hr]; done) | (have hr0 : slotV (live S).head? = _ := hr; rw [hr0])
   refine xs_fin [.agg zc, .agg zc, .bool false, iw 0] (rmA b S :: F) (SI.agg 4 71 2 (SI.agg 5 71 1 (SI.tmp 6 (SI.tmp 7 SI.nil)))) (fun _ h => h.re [0] [1, 1, 1]) ⟨?_, rfl⟩
   rw [hp]; rfl
theorem rmset_s {Z : Zone} {F : List Asr} {b : Nat} {S : List Slt} (hs : S.length ≤ 1000000) (k v : Vl) : SF Tryz.prog 198 #[.pointer (some ⟨b, 0, none⟩), k.v, v.v] Z (rmA b S :: F) fun r Bs => r = iw (osetE k v) ∧ Bs = rmA b (osetL S k v) :: F := by
 refine sf_enter Tryz.func198 117 [(0, pB b 0), (1, .agg (vc k)), (2, .agg (vc v))] (fun w0 => ?_)
 refine k_fact (fun H h => rm_inv (h.re [0] [])) (fun hinv0 => ?_)
 refine k_sr <| s_box (vc k) (fun g1 => ?_)
 refine s_box (vc v) (fun g2 => ?_)
 refine sp (iw 0) ?_
 refine s_nt <| k_seq <| k_sr <| sp (pB b 0) ?_
 refine sp (.bool false) ?_
 refine s_nt <| k_false ?_
 refine k_st <| k_seq <| k_cut (ι := Unit) (fun _ => True) (fun _ => [(0, pB b 0), (4, pB g1 0), (5, pB g2 0), (20, .bool ((decide (k.kind = 0)) || (!(validB k))))]) (fun _ => blkA g2 (vc v) 71 :: blkA g1 (vc k) 71 :: rmA b S :: F) ?_ (fun _ _ => ?_)
 ·
  refine k_reg ?_
  refine sp (pB g1 0) ?_
  refine s_lt (t_load 1 (iw k.kind)) ?_
  refine s_lt t_cmp ?_
  refine sp (.bool (decide (k.kind = 0))) ?_
  refine s_fork 16 (decide (k.kind = 0)) (fun c3 => ?_) (fun c3 => ?_)
  ·
   have p4 := of_decide_eq_true c3
   refine s_skip ?_
   refine s_skip ?_
   refine s_skip ?_
   refine sp (.bool true) ?_
   refine s_nil ?_
   exact xs_cut () trivial (sub_of rfl ⟨⟨rfl, rfl⟩, ⟨⟨rfl, rfl⟩, ⟨⟨rfl, rfl⟩, ⟨⟨rfl, show Value.bool true = Value.bool ((decide (k.kind = 0)) || (!(validB k))) by first | (simp only [c3, bls]; done) | simp [c3]⟩, trivial⟩⟩⟩⟩) (fun _ h => h.re [0, 0, 0] [])
  ·
   have p5 := of_decide_eq_false c3
   refine s_lt (t_loadA 1 (vc k)) ?_
   refine s_vcall (fun _ h => rvalid_s k) ?_
   rintro _ rfl
   refine sp (.bool (!(validB k))) ?_
   refine sp (.bool (!(validB k))) ?_
   refine s_nil ?_
   exact xs_cut () trivial (sub_of rfl ⟨⟨rfl, rfl⟩, ⟨⟨rfl, rfl⟩, ⟨⟨rfl, rfl⟩, ⟨⟨rfl, show Value.bool (!(validB k)) = Value.bool ((decide (k.kind = 0)) || (!(validB k))) by first | (simp only [c3, bls]; done) | simp [c3]⟩, trivial⟩⟩⟩⟩) (fun _ h => h.re [0, 0, 0] [])
 ·
  refine k_cond ((decide (k.kind = 0)) || (!(validB k))) (fun c6 => ?_) (fun c6 => ?_)
  ·
   have p7 := c6
   simp only [Bool.and_eq_true, Bool.or_eq_true, Bool.and_eq_false_iff, Bool.or_eq_false_iff, Bool.not_eq_true', Bool.not_eq_false', decide_eq_true_eq, decide_eq_false_iff_not] at p7
   refine k_sr <| sp (iw 13) ?_
   refine s_nt <| k_ret <| xs_ret ?_
   have hk := okKey_bad p7
   refine xs_fin [iw 13] (rmA b S :: F) (SI.tmp 6 SI.nil) (fun _ h => h.re [2] [1, 1]) ⟨congrArg (Value.int .i64) (osetE_bad hk).symm, ?_⟩
   rw [osetL_bad (v := v) (.inl hk)]
  ·
   obtain ⟨c8, c9⟩ := or_f c6
   have p10 := of_decide_eq_false c8
   have c11 := not_f c9
   refine k_st <| k_seq <| k_sr <| s_lt (t_loadA 0 (vc v)) ?_
   refine s_vcall (fun _ h => rvalid_s v) ?_
   rintro _ rfl
   refine sp (.bool (!(validB v))) ?_
   refine s_nt <| k_cond (!(validB v)) (fun c12 => ?_) (fun c12 => ?_)
   ·
    have c13 := not_t c12
    refine k_sr <| sp (iw 2) ?_
    refine s_nt <| k_ret <| xs_ret ?_
    have hk := okKey_good c8 c11
    refine xs_fin [iw 2] (rmA b S :: F) (SI.tmp 6 SI.nil) (fun _ h => h.re [2] [1, 1]) ⟨congrArg (Value.int .i64) (osetE_val hk c13).symm, ?_⟩
    rw [osetL_bad (v := v) (.inr c13)]
   ·
    have c14 := not_f c12
    refine k_st <| k_sr <| sp (pB b 0) ?_
    refine s_lt (t_loadA 1 (vc k)) ?_
    refine s_call [2] (rmfind_s (S := S) (by omega) k) ?_
    rintro u15 _ ⟨e16, rfl⟩
    rcases find_cases (S := S) k with ⟨hf17, hl18, ht19, hg20⟩ | ⟨i21, s22, hf23, hl24, hs25, hk26, hg27, ht28⟩
    ·
     rw [hf17] at e16; subst e16
     refine sp (iw (-1)) ?_
     refine s_nt <| k_seq <| k_sr <| sp (pB g2 0) ?_
     refine s_lt (t_load 1 (iw v.kind)) ?_
     refine s_lt t_cmp ?_
     refine s_nt <| k_cond (decide (v.kind = 0)) (fun c29 => ?_) (fun c29 => ?_)
     ·
      have p30 := of_decide_eq_true c29
      refine k_seq <| k_sr <| sp (iw (-1)) ?_
      refine s_lt (t_cmp (c := false)) ?_
      refine s_nt <| k_false ?_
      refine k_st <| k_sr <| sp (iw 0) ?_
      refine s_nt <| k_ret <| xs_ret ?_
      have hk := okKey_good c8 c11
      have hS : osetL S k v = S := by rw [osetL_rem hk c14 (of_decide_eq_true c29), ht19]
      refine xs_fin [iw 0] (rmA b S :: F) (SI.tmp 6 SI.nil) (fun _ h => h.re [0] [1, 1]) ⟨congrArg (Value.int .i64) (osetE_ok hk c14).symm, ?_⟩
      rw [hS]
     ·
      have p31 := of_decide_eq_false c29
      refine k_st <| k_seq <| k_sr <| sp (iw (-1)) ?_
      refine s_lt (t_cmp (c := false)) ?_
      refine sp (.bool false) ?_
      refine s_skip ?_
      refine s_skip ?_
      refine s_skip ?_
      refine s_skip ?_
      refine s_skip ?_
      refine s_skip ?_
      refine s_skip ?_
      refine s_skip ?_
      refine s_skip ?_
      refine sp (.bool false) ?_
      refine s_nt <| k_false ?_
      refine k_st <| k_sr <| sp (pB b 0) ?_
      refine s_call [0] (rmlen_s (S := S) (by omega)) ?_
      rintro _ _ ⟨rfl, rfl⟩
      have hcl32 := cnt_le S
      refine sp (iw (cnt S : Int)) ?_
      refine s_nt <| k_seq <| k_sr <| sp (pB b 0) ?_
      refine sp (pB b 0) ?_
      refine sp (pB b 0) ?_
      refine s_memX (fun H h => rm_open (h.re [0] [])) (fun sv33 hw => ?_)
      refine s_lt (t_load 0 sv33) ?_
      refine s_lt (t_len RSltT_ok Tryz.underlying255 (.own 1)) ?_
      refine sp (iw (cnt S : Int)) ?_
      refine s_lt (t_sub (S.length : Int) (cnt S : Int) (by (try simp only [lnm]); omega)) ?_
      refine sp (iw (cnt S : Int)) ?_
      refine s_lt (t_add (cnt S : Int) 8 (by (try simp only [lnm]); omega)) ?_
      refine s_lt t_cmp ?_
      refine s_nt <| k_cond (decide (((cnt S : Int) + 8) < ((S.length : Int) - (cnt S : Int)))) (fun c35 => ?_) (fun c35 => ?_)
      ·
       have p36 := of_decide_eq_true c35
       refine k_sr <| sp (.slice none 0 0) ?_
       refine s_nt <| k_seq <| k_sr <| sp (iw 0) ?_
       refine s_nt <| k_block ?_
       refine k_mem (fun _ h => rm_shut (S := S) hinv0 (h.re [0, 0] [])) ?_
       refine k_mem (fun _ h => Holds.nilS (T := RSltT) h) ?_
       refine k_mem (Bs := own RSltT (.slice none 0 0) (live (S.take 0)) :: rmA b S :: blkA g2 (vc v) 71 :: blkA g1 (vc k) 71 :: F) (fun _ h => h) ?_
       refine k_loop (ι := Value × Nat) (fun (lx, i) => i ≤ S.length) (fun (lx, i) => [(0, pB b 0), (4, pB g1 0), (5, pB g2 0), (9, lx), (10, iw (i : Int))]) (fun (lx, i) => own RSltT lx (live (S.take i)) :: rmA b S :: blkA g2 (vc v) 71 :: blkA g1 (vc k) 71 :: F) (fun (lx, i) => S.length - i) ((.slice none 0 0), 0) (Nat.zero_le _) (sub_of rfl ⟨⟨rfl, rfl⟩, ⟨⟨rfl, rfl⟩, ⟨⟨rfl, rfl⟩, ⟨⟨rfl, rfl⟩, ⟨⟨rfl, rfl⟩, trivial⟩⟩⟩⟩⟩) (fun _ h => h.re [0, 0, 0, 0] []) ?_
       rintro ⟨lx, i⟩ hi37
       replace hi37 : i ≤ S.length := hi37
       show SK _ _ _ _ _ [(0, .pointer (some ⟨b, 0, none⟩)), (4, .pointer (some ⟨g1, 0, none⟩)), (5, .pointer (some ⟨g2, 0, none⟩)), (9, lx), (10, iw (i : Int))] _ (own RSltT lx (live (S.take i)) :: rmA b S :: blkA g2 (vc v) 71 :: blkA g1 (vc k) 71 :: F)
       have hli : (live (S.take i)).length ≤ i := Nat.le_trans (cnt_le _) (by rw [List.length_take]; omega)
       refine k_seq <| k_sr <| sp (iw (i : Int)) ?_
       refine sp (pB b 0) ?_
       refine sp (pB b 0) ?_
       refine sp (pB b 0) ?_
       refine s_memX (fun H h => rm_open (h.re [1] [])) (fun sv38 hw => ?_)
       refine s_lt (t_load 0 sv38) ?_
       refine s_lt (t_len RSltT_ok Tryz.underlying255 (.own 1)) ?_
       refine s_lt t_cmp ?_
       refine s_nt <| k_cond (decide ((i : Int) < (S.length : Int))) (fun c40 => ?_) (fun c40 => ?_)
       ·
        have p41 := of_decide_eq_true c40
        refine k_st <| k_seq <| k_block ?_
        refine k_sr <| sp (pB b 0) ?_
        refine sp (pB b 0) ?_
        refine sp (pB b 0) ?_
        refine s_lt (t_load 0 sv38) ?_
        refine sp (iw (i : Int)) ?_
        refine s_lt (t_index RSltT_ok Tryz.underlying255 (.own 1) (i : Int) i (by omega) (by (try simp only [lnm]); omega) (by omega)) ?_
        refine sp (.pointer (some ((elemAt RSltT.size sv38 i).add 10))) ?_
        obtain ⟨y42, hy43⟩ : ∃ y, S[i]? = some y := ⟨_, List.getElem?_eq_getElem (by (try simp only [lnm]); omega)⟩
        refine s_lt (t_loadF 10 RSltT_ok (.own 1) hy43) ?_
        refine sp (.bool (!y42.gone)) ?_
        refine s_nt <| k_cond (!y42.gone) (fun c44 => ?_) (fun c44 => ?_)
        ·
         have c45 := not_t c44
         refine k_reg ?_
         refine sp lx ?_
         refine sp (pB b 0) ?_
         refine sp (pB b 0) ?_
         refine sp (pB b 0) ?_
         refine s_lt (t_load 0 sv38) ?_
         refine sp (iw (i : Int)) ?_
         refine s_lt (t_index RSltT_ok Tryz.underlying255 (.own 1) (i : Int) i (by omega) (by (try simp only [lnm]); omega) (by omega)) ?_
         refine s_lt (t_loadE RSltT_ok (.own 1) hy43) ?_
         refine s_buildSlice (e := 264) [(0, .agg #[iw y42.key.kind, iw y42.key.p, iw y42.key.q, sw y42.key.str, iw y42.key.ref, iw y42.val.kind, iw y42.val.p, iw y42.val.q, sw y42.val.str, iw y42.val.ref, .bool y42.gone])] #[iw y42.key.kind, iw y42.key.p, iw y42.key.q, sw y42.key.str, iw y42.key.ref, iw y42.val.kind, iw y42.val.p, iw y42.val.q, sw y42.val.str, iw y42.val.ref, .bool y42.gone] (fun g46 => ?_) (hb := by kernel_rfl)
         refine s_append (L := (live (S.take i))) 3 RSltT_ok Tryz.underlying255 (.lit 0 RSltT_ok [y42]) (by show _ * 104 ≤ _; (try simp only [lnm]); omega) (by (try simp only [lnm]); omega) (fun v47 => ?_)
         refine sp v47 ?_
         refine s_nil <| xs_block ?_
         refine xs_then <| k_reg ?_
         refine sp (iw (i : Int)) ?_
         refine s_lt (t_add (i : Int) 1 (by (try simp only [lnm]); omega)) ?_
         refine sp (iw ((i : Int) + 1)) ?_
         refine s_nil ?_
         have hks := live_take hy43
         rw [if_neg (by rw [c45]; decide)] at hks
         rw [← hks]
         refine xs_mem (fun _ h => rm_shut (S := S) hinv0 (h.re [1, 1] [])) ?_
         exact xs_round (v47, i + 1) (by show S.length - (i + 1) < S.length - i; omega) (by show i + 1 ≤ S.length; omega) (sub_of rfl ⟨⟨rfl, rfl⟩, ⟨⟨rfl, rfl⟩, ⟨⟨rfl, rfl⟩, ⟨⟨rfl, rfl⟩, ⟨⟨rfl, rfl⟩, trivial⟩⟩⟩⟩⟩) (fun _ h => h.re [2, 0, 1, 1] [4])
        ·
         have c48 := not_f c44
         refine k_skip ?_
         refine xs_block ?_
         refine xs_then <| k_reg ?_
         refine sp (iw (i : Int)) ?_
         refine s_lt (t_add (i : Int) 1 (by (try simp only [lnm]); omega)) ?_
         refine sp (iw ((i : Int) + 1)) ?_
         refine s_nil ?_
         have hks := live_take hy43
         rw [if_pos c48] at hks
         rw [← hks]
         refine xs_mem (fun _ h => rm_shut (S := S) hinv0 (h.re [0, 0] [])) ?_
         exact xs_round (lx, i + 1) (by show S.length - (i + 1) < S.length - i; omega) (by show i + 1 ≤ S.length; omega) (sub_of rfl ⟨⟨rfl, rfl⟩, ⟨⟨rfl, rfl⟩, ⟨⟨rfl, rfl⟩, ⟨⟨rfl, rfl⟩, ⟨⟨rfl, rfl⟩, trivial⟩⟩⟩⟩⟩) (fun _ h => h.re [1, 0, 0, 0] [])
       ·
        have p49 := of_decide_eq_false c40
        refine k_exit ?_
        have hend : live (S.take i) = live S := by rw [List.take_of_length_le (by omega)]
        rw [hend]
        rw [hend] at hli
        have hinv1 := live_inv hinv0
        refine xs_exit ?_
        refine xs_exit ?_
        refine xs_here ?_
        refine xs_then <| k_reg ?_
        refine sp (pB b 0) ?_
        refine sp lx ?_
        refine sp (pB b 0) ?_
        refine sp (pB b 0) ?_
        refine s_fact (fun H h => ((Acc.own (T := RSltT) (L := (live S)) 2 rfl) H h).form) (fun hf50 => ?_)
        refine s_store (u := lx) (m := 1) 0 #[lx] ?_ (hm := by (obtain ⟨_, _, e⟩ := hf50; rw [e]; rfl)) (h1 := by (obtain ⟨_, _, e⟩ := hf50; rw [e]; rfl)) (ha' := by (obtain ⟨_, _, e⟩ := hf50; rw [e]; rfl))
        refine s_nt <| k_seq <| k_draw ?_
        refine sp (pB b 0) ?_
        refine sp (pB b 0) ?_
        refine sp (pB b 0) ?_
        refine sp (pB b 0) ?_
        refine s_lt (t_load 0 lx) ?_
        refine s_lt (t_loadA 4 (vc k)) ?_
        refine s_lt (t_loadA 3 (vc v)) ?_
        refine s_lt (t_kern (.agg #[iw k.kind, iw k.p, iw k.q, sw k.str, iw k.ref, iw v.kind, iw v.p, iw v.q, sw v.str, iw v.ref, .bool false])) ?_
        refine s_buildSlice (e := 264) [(0, .agg #[iw k.kind, iw k.p, iw k.q, sw k.str, iw k.ref, iw v.kind, iw v.p, iw v.q, sw v.str, iw v.ref, .bool false])] #[iw k.kind, iw k.p, iw k.q, sw k.str, iw k.ref, iw v.kind, iw v.p, iw v.q, sw v.str, iw v.ref, .bool false] (fun g51 => ?_) (hb := by kernel_rfl)
        refine s_append (L := (live S)) 3 RSltT_ok Tryz.underlying255 (.lit 0 RSltT_ok [(⟨k, v, false⟩ : Slt)]) (by show _ * 104 ≤ _; (try simp only [lnm]); omega) (by (try simp only [lnm]); omega) (fun v52 => ?_)
        refine sp (pB b 0) ?_
        refine sp (pB b 0) ?_
        refine s_fact (fun H h => ((Acc.own (T := RSltT) (L := ((live S) ++ [(⟨k, v, false⟩ : Slt)])) 3 rfl) H h).form) (fun hf53 => ?_)
        refine s_store (u := v52) (m := 1) 1 #[v52] ?_ (hm := by (obtain ⟨_, _, e⟩ := hf53; rw [e]; rfl)) (h1 := by (obtain ⟨_, _, e⟩ := hf53; rw [e]; rfl)) (ha' := by (obtain ⟨_, _, e⟩ := hf53; rw [e]; rfl))
        refine s_nil <| x_dynS (fun _ h => by kernel_rfl) ?_
        refine xs_then <| k_sr <| sp (iw 0) ?_
        refine s_nt <| k_ret ?_
        have hk := okKey_good c8 c11
        have hcl := cnt_le S
        have hS : osetL S k v = ((live S) ++ [(⟨k, v, false⟩ : Slt)]) := by rw [osetL_put hk c14 (of_decide_eq_false c29), ht19]; show (if _ then _ else _) ++ _ = _; rw [if_pos (by have hx := of_decide_eq_true c35; omega)]
        refine xs_mem (fun _ h => rm_shut (S := ((live S) ++ [(⟨k, v, false⟩ : Slt)])) (by rw [← hS]; exact osetL_inv hinv0 k v) (h.re [1, 2] [])) ?_
        refine xs_fin [iw 0] (rmA b ((live S) ++ [(⟨k, v, false⟩ : Slt)]) :: F) (SI.tmp 6 SI.nil) (fun _ h => h.re [0] [1, 1, 1, 1]) ⟨congrArg (Value.int .i64) (osetE_ok hk c14).symm, ?_⟩
        rw [hS]
      ·
       have p54 := of_decide_eq_false c35
       refine k_st <| k_seq <| k_draw ?_
       refine sp (pB b 0) ?_
       refine sp (pB b 0) ?_
       refine sp (pB b 0) ?_
       refine sp (pB b 0) ?_
       refine s_lt (t_load 0 sv33) ?_
       refine s_lt (t_loadA 3 (vc k)) ?_
       refine s_lt (t_loadA 2 (vc v)) ?_
       refine s_lt (t_kern (.agg #[iw k.kind, iw k.p, iw k.q, sw k.str, iw k.ref, iw v.kind, iw v.p, iw v.q, sw v.str, iw v.ref, .bool false])) ?_
       refine s_buildSlice (e := 264) [(0, .agg #[iw k.kind, iw k.p, iw k.q, sw k.str, iw k.ref, iw v.kind, iw v.p, iw v.q, sw v.str, iw v.ref, .bool false])] #[iw k.kind, iw k.p, iw k.q, sw k.str, iw k.ref, iw v.kind, iw v.p, iw v.q, sw v.str, iw v.ref, .bool false] (fun g55 => ?_) (hb := by kernel_rfl)
       refine s_append (L := S) 2 RSltT_ok Tryz.underlying255 (.lit 0 RSltT_ok [(⟨k, v, false⟩ : Slt)]) (by show _ * 104 ≤ _; (try simp only [lnm]); omega) (by (try simp only [lnm]); omega) (fun v56 => ?_)
       refine sp (pB b 0) ?_
       refine sp (pB b 0) ?_
       refine s_fact (fun H h => ((Acc.own (T := RSltT) (L := (S ++ [(⟨k, v, false⟩ : Slt)])) 2 rfl) H h).form) (fun hf57 => ?_)
       refine s_store (u := v56) (m := 1) 1 #[v56] ?_ (hm := by (obtain ⟨_, _, e⟩ := hf57; rw [e]; rfl)) (h1 := by (obtain ⟨_, _, e⟩ := hf57; rw [e]; rfl)) (ha' := by (obtain ⟨_, _, e⟩ := hf57; rw [e]; rfl))
       refine s_nil <| x_dynS (fun _ h => by kernel_rfl) ?_
       refine xs_then <| k_sr <| sp (iw 0) ?_
       refine s_nt <| k_ret ?_
       have hk := okKey_good c8 c11
       have hcl := cnt_le S
       have hS : osetL S k v = (S ++ [(⟨k, v, false⟩ : Slt)]) := by rw [osetL_put hk c14 (of_decide_eq_false c29), ht19]; show (if _ then _ else _) ++ _ = _; rw [if_neg (by have hx := of_decide_eq_false c35; omega)]
       refine xs_mem (fun _ h => rm_shut (S := (S ++ [(⟨k, v, false⟩ : Slt)])) (by rw [← hS]; exact osetL_inv hinv0 k v) (h.re [1, 1] [])) ?_
       refine xs_fin [iw 0] (rmA b (S ++ [(⟨k, v, false⟩ : Slt)]) :: F) (SI.tmp 6 SI.nil) (fun _ h => h.re [0] [1, 1, 1]) ⟨congrArg (Value.int .i64) (osetE_ok hk c14).symm, ?_⟩
       rw [hS]
    ·
     rw [hf23] at e16; subst e16
     have hlt58 : i21 < S.length := (List.getElem?_eq_some_iff.1 hs25).1
     refine sp (iw (i21 : Int)) ?_
     refine s_nt <| k_seq <| k_sr <| sp (pB g2 0) ?_
     refine s_lt (t_load 1 (iw v.kind)) ?_
     refine s_lt t_cmp ?_
     refine s_nt <| k_cond (decide (v.kind = 0)) (fun c59 => ?_) (fun c59 => ?_)
     ·
      have p60 := of_decide_eq_true c59
      refine k_seq <| k_sr <| sp (iw (i21 : Int)) ?_
      refine s_lt (Lt.to t_cmp (congrArg Value.bool (decide_eq_true (by omega) : (decide ((0 : Int) ≤ (i21 : Int))) = true))) ?_
      refine s_nt <| k_true ?_
      refine k_draw ?_
      refine sp (pB b 0) ?_
      refine sp (pB b 0) ?_
      refine sp (pB b 0) ?_
      refine s_memX (fun H h => rm_open (h.re [0] [])) (fun sv61 hw => ?_)
      refine s_lt (t_load 0 sv61) ?_
      refine sp (iw (i21 : Int)) ?_
      refine s_lt (t_loadA 3 (vc k)) ?_
      refine s_lt (t_kern (.agg #[iw k.kind, iw k.p, iw k.q, sw k.str, iw k.ref, iw 0, iw 0, iw 0, sw eb, iw 0, .bool true])) ?_
      refine s_lt (t_index RSltT_ok Tryz.underlying255 (.own 1) (i21 : Int) i21 (by omega) (by (try simp only [lnm]); omega) (by omega)) ?_
      refine s_storeE 1 0 (⟨k, zVl, true⟩ : Slt) RSltT_ok hs25 ?_
      refine s_nil <| x_dynS (fun _ h => by kernel_rfl) ?_
      refine xs_then <| k_sr <| sp (iw 0) ?_
      refine s_nt <| k_ret <| xs_ret ?_
      have hk := okKey_good c8 c11
      have hS : osetL S k v = (S.set i21 (⟨k, zVl, true⟩ : Slt)) := by rw [osetL_rem hk c14 (of_decide_eq_true c59), ht28]; cases hg : s22.gone with | true => exact set_gone hinv0 hs25 hk26 hg | false => rfl
      refine xs_mem (fun _ h => rm_shut (S := (S.set i21 (⟨k, zVl, true⟩ : Slt))) (by rw [← hS]; exact osetL_inv hinv0 k v) (h.re [0, 0] [])) ?_
      refine xs_fin [iw 0] (rmA b (S.set i21 (⟨k, zVl, true⟩ : Slt)) :: F) (SI.tmp 6 SI.nil) (fun _ h => h.re [0] [1, 1]) ⟨congrArg (Value.int .i64) (osetE_ok hk c14).symm, ?_⟩
      rw [hS]
     ·
      have p63 := of_decide_eq_false c59
      refine k_st <| k_seq <| k_sr <| sp (iw (i21 : Int)) ?_
      refine s_lt (Lt.to t_cmp (congrArg Value.bool (decide_eq_true (by omega) : (decide ((0 : Int) ≤ (i21 : Int))) = true))) ?_
      refine sp (.bool true) ?_
      refine sp (pB b 0) ?_
      refine sp (pB b 0) ?_
      refine sp (pB b 0) ?_
      refine s_memX (fun H h => rm_open (h.re [0] [])) (fun sv64 hw => ?_)
      refine s_lt (t_load 0 sv64) ?_
      refine sp (iw (i21 : Int)) ?_
      refine s_lt (t_index RSltT_ok Tryz.underlying255 (.own 1) (i21 : Int) i21 (by omega) (by (try simp only [lnm]); omega) (by omega)) ?_
      refine sp (.pointer (some ((elemAt RSltT.size sv64 i21).add 10))) ?_
      refine s_lt (t_loadF 10 RSltT_ok (.own 1) hs25) ?_
      refine sp (.bool (!s22.gone)) ?_
      refine sp (.bool (!s22.gone)) ?_
      refine s_nt <| k_cond (!s22.gone) (fun c66 => ?_) (fun c66 => ?_)
      ·
       have c67 := not_t c66
       refine k_seq <| k_draw ?_
       refine sp (pB b 0) ?_
       refine sp (pB b 0) ?_
       refine sp (pB b 0) ?_
       refine s_lt (t_load 0 sv64) ?_
       refine sp (iw (i21 : Int)) ?_
       refine s_lt (t_loadA 2 (vc v)) ?_
       refine s_lt (t_index RSltT_ok Tryz.underlying255 (.own 1) (i21 : Int) i21 (by omega) (by (try simp only [lnm]); omega) (by omega)) ?_
       refine sp (.pointer (some ((elemAt RSltT.size sv64 i21).add 5))) ?_
       refine s_storeE 1 5 (⟨s22.key, v, s22.gone⟩ : Slt) RSltT_ok hs25 ?_
       refine s_nil <| x_dynS (fun _ h => by kernel_rfl) ?_
       refine xs_then <| k_sr <| sp (iw 0) ?_
       refine s_nt <| k_ret <| xs_ret ?_
       have hk := okKey_good c8 c11
       have hS : osetL S k v = (S.set i21 (⟨s22.key, v, s22.gone⟩ : Slt)) := by rw [osetL_put hk c14 (of_decide_eq_false c59), ht28, if_neg (by rw [c67]; decide), hk26, c67]
       refine xs_mem (fun _ h => rm_shut (S := (S.set i21 (⟨s22.key, v, s22.gone⟩ : Slt))) (by rw [← hS]; exact osetL_inv hinv0 k v) (h.re [0, 0] [])) ?_
       refine xs_fin [iw 0] (rmA b (S.set i21 (⟨s22.key, v, s22.gone⟩ : Slt)) :: F) (SI.tmp 6 SI.nil) (fun _ h => h.re [0] [1, 1]) ⟨congrArg (Value.int .i64) (osetE_ok hk c14).symm, ?_⟩
       rw [hS]
      ·
       have c68 := not_f c66
       refine k_st <| k_sr <| sp (pB b 0) ?_
       refine s_mem (fun _ h => rm_shut (S := S) hinv0 (h.re [0, 0] [])) ?_
       refine s_call [0] (rmlen_s (S := S) (by omega)) ?_
       rintro _ _ ⟨rfl, rfl⟩
       have hcl69 := cnt_le S
       refine sp (iw (cnt S : Int)) ?_
       refine s_nt <| k_seq <| k_sr <| sp (pB b 0) ?_
       refine sp (pB b 0) ?_
       refine sp (pB b 0) ?_
       refine s_memX (fun H h => rm_open (h.re [0] [])) (fun sv70 hw => ?_)
       refine s_lt (t_load 0 sv70) ?_
       refine s_lt (t_len RSltT_ok Tryz.underlying255 (.own 1)) ?_
       refine sp (iw (cnt S : Int)) ?_
       refine s_lt (t_sub (S.length : Int) (cnt S : Int) (by (try simp only [lnm]); omega)) ?_
       refine sp (iw (cnt S : Int)) ?_
       refine s_lt (t_add (cnt S : Int) 8 (by (try simp only [lnm]); omega)) ?_
       refine s_lt t_cmp ?_
       refine s_nt <| k_cond (decide (((cnt S : Int) + 8) < ((S.length : Int) - (cnt S : Int)))) (fun c72 => ?_) (fun c72 => ?_)
       ·
        have p73 := of_decide_eq_true c72
        refine k_sr <| sp (.slice none 0 0) ?_
        refine s_nt <| k_seq <| k_sr <| sp (iw 0) ?_
        refine s_nt <| k_block ?_
        refine k_mem (fun _ h => rm_shut (S := S) hinv0 (h.re [0, 0] [])) ?_
        refine k_mem (fun _ h => Holds.nilS (T := RSltT) h) ?_
        refine k_mem (Bs := own RSltT (.slice none 0 0) (live (S.take 0)) :: rmA b S :: blkA g2 (vc v) 71 :: blkA g1 (vc k) 71 :: F) (fun _ h => h) ?_
        refine k_loop (ι := Value × Nat) (fun (lx, i) => i ≤ S.length) (fun (lx, i) => [(0, pB b 0), (4, pB g1 0), (5, pB g2 0), (9, lx), (10, iw (i : Int))]) (fun (lx, i) => own RSltT lx (live (S.take i)) :: rmA b S :: blkA g2 (vc v) 71 :: blkA g1 (vc k) 71 :: F) (fun (lx, i) => S.length - i) ((.slice none 0 0), 0) (Nat.zero_le _) (sub_of rfl ⟨⟨rfl, rfl⟩, ⟨⟨rfl, rfl⟩, ⟨⟨rfl, rfl⟩, ⟨⟨rfl, rfl⟩, ⟨⟨rfl, rfl⟩, trivial⟩⟩⟩⟩⟩) (fun _ h => h.re [0, 0, 0, 0] []) ?_
        rintro ⟨lx, i⟩ hi74
        replace hi74 : i ≤ S.length := hi74
        show SK _ _ _ _ _ [(0, .pointer (some ⟨b, 0, none⟩)), (4, .pointer (some ⟨g1, 0, none⟩)), (5, .pointer (some ⟨g2, 0, none⟩)), (9, lx), (10, iw (i : Int))] _ (own RSltT lx (live (S.take i)) :: rmA b S :: blkA g2 (vc v) 71 :: blkA g1 (vc k) 71 :: F)
        have hli : (live (S.take i)).length ≤ i := Nat.le_trans (cnt_le _) (by rw [List.length_take]; omega)
        refine k_seq <| k_sr <| sp (iw (i : Int)) ?_
        refine sp (pB b 0) ?_
        refine sp (pB b 0) ?_
        refine sp (pB b 0) ?_
        refine s_memX (fun H h => rm_open (h.re [1] [])) (fun sv75 hw => ?_)
        refine s_lt (t_load 0 sv75) ?_
        refine s_lt (t_len RSltT_ok Tryz.underlying255 (.own 1)) ?_
        refine s_lt t_cmp ?_
        refine s_nt <| k_cond (decide ((i : Int) < (S.length : Int))) (fun c77 => ?_) (fun c77 => ?_)
        ·
         have p78 := of_decide_eq_true c77
         refine k_st <| k_seq <| k_block ?_
         refine k_sr <| sp (pB b 0) ?_
         refine sp (pB b 0) ?_
         refine sp (pB b 0) ?_
         refine s_lt (t_load 0 sv75) ?_
         refine sp (iw (i : Int)) ?_
         refine s_lt (t_index RSltT_ok Tryz.underlying255 (.own 1) (i : Int) i (by omega) (by (try simp only [lnm]); omega) (by omega)) ?_
         refine sp (.pointer (some ((elemAt RSltT.size sv75 i).add 10))) ?_
         obtain ⟨y79, hy80⟩ : ∃ y, S[i]? = some y := ⟨_, List.getElem?_eq_getElem (by (try simp only [lnm]); omega)⟩
         refine s_lt (t_loadF 10 RSltT_ok (.own 1) hy80) ?_
         refine sp (.bool (!y79.gone)) ?_
         refine s_nt <| k_cond (!y79.gone) (fun c81 => ?_) (fun c81 => ?_)
         ·
          have c82 := not_t c81
          refine k_reg ?_
          refine sp lx ?_
          refine sp (pB b 0) ?_
          refine sp (pB b 0) ?_
          refine sp (pB b 0) ?_
          refine s_lt (t_load 0 sv75) ?_
          refine sp (iw (i : Int)) ?_
          refine s_lt (t_index RSltT_ok Tryz.underlying255 (.own 1) (i : Int) i (by omega) (by (try simp only [lnm]); omega) (by omega)) ?_
          refine s_lt (t_loadE RSltT_ok (.own 1) hy80) ?_
          refine s_buildSlice (e := 264) [(0, .agg #[iw y79.key.kind, iw y79.key.p, iw y79.key.q, sw y79.key.str, iw y79.key.ref, iw y79.val.kind, iw y79.val.p, iw y79.val.q, sw y79.val.str, iw y79.val.ref, .bool y79.gone])] #[iw y79.key.kind, iw y79.key.p, iw y79.key.q, sw y79.key.str, iw y79.key.ref, iw y79.val.kind, iw y79.val.p, iw y79.val.q, sw y79.val.str, iw y79.val.ref, .bool y79.gone] (fun g83 => ?_) (hb := by kernel_rfl)
          refine s_append (L := (live (S.take i))) 3 RSltT_ok Tryz.underlying255 (.lit 0 RSltT_ok [y79]) (by show _ * 104 ≤ _; (try simp only [lnm]); omega) (by (try simp only [lnm]); omega) (fun v84 => ?_)
          refine sp v84 ?_
          refine s_nil <| xs_block ?_
          refine xs_then <| k_reg ?_
          refine sp (iw (i : Int)) ?_
          refine s_lt (t_add (i : Int) 1 (by (try simp only [lnm]); omega)) ?_
          refine sp (iw ((i : Int) + 1)) ?_
          refine s_nil ?_
          have hks := live_take hy80
          rw [if_neg (by rw [c82]; decide)] at hks
          rw [← hks]
          refine xs_mem (fun _ h => rm_shut (S := S) hinv0 (h.re [1, 1] [])) ?_
          exact xs_round (v84, i + 1) (by show S.length - (i + 1) < S.length - i; omega) (by show i + 1 ≤ S.length; omega) (sub_of rfl ⟨⟨rfl, rfl⟩, ⟨⟨rfl, rfl⟩, ⟨⟨rfl, rfl⟩, ⟨⟨rfl, rfl⟩, ⟨⟨rfl, rfl⟩, trivial⟩⟩⟩⟩⟩) (fun _ h => h.re [2, 0, 1, 1] [4])
         ·
          have c85 := not_f c81
          refine k_skip ?_
          refine xs_block ?_
          refine xs_then <| k_reg ?_
          refine sp (iw (i : Int)) ?_
          refine s_lt (t_add (i : Int) 1 (by (try simp only [lnm]); omega)) ?_
          refine sp (iw ((i : Int) + 1)) ?_
          refine s_nil ?_
          have hks := live_take hy80
          rw [if_pos c85] at hks
          rw [← hks]
          refine xs_mem (fun _ h => rm_shut (S := S) hinv0 (h.re [0, 0] [])) ?_
          exact xs_round (lx, i + 1) (by show S.length - (i + 1) < S.length - i; omega) (by show i + 1 ≤ S.length; omega) (sub_of rfl ⟨⟨rfl, rfl⟩, ⟨⟨rfl, rfl⟩, ⟨⟨rfl, rfl⟩, ⟨⟨rfl, rfl⟩, ⟨⟨rfl, rfl⟩, trivial⟩⟩⟩⟩⟩) (fun _ h => h.re [1, 0, 0, 0] [])
        ·
         have p86 := of_decide_eq_false c77
         refine k_exit ?_
         have hend : live (S.take i) = live S := by rw [List.take_of_length_le (by omega)]
         rw [hend]
         rw [hend] at hli
         have hinv1 := live_inv hinv0
         refine xs_exit ?_
         refine xs_exit ?_
         refine xs_here ?_
         refine xs_then <| k_reg ?_
         refine sp (pB b 0) ?_
         refine sp lx ?_
         refine sp (pB b 0) ?_
         refine sp (pB b 0) ?_
         refine s_fact (fun H h => ((Acc.own (T := RSltT) (L := (live S)) 2 rfl) H h).form) (fun hf87 => ?_)
         refine s_store (u := lx) (m := 1) 0 #[lx] ?_ (hm := by (obtain ⟨_, _, e⟩ := hf87; rw [e]; rfl)) (h1 := by (obtain ⟨_, _, e⟩ := hf87; rw [e]; rfl)) (ha' := by (obtain ⟨_, _, e⟩ := hf87; rw [e]; rfl))
         refine s_nt <| k_seq <| k_draw ?_
         refine sp (pB b 0) ?_
         refine sp (pB b 0) ?_
         refine sp (pB b 0) ?_
         refine sp (pB b 0) ?_
         refine s_lt (t_load 0 lx) ?_
         refine s_lt (t_loadA 4 (vc k)) ?_
         refine s_lt (t_loadA 3 (vc v)) ?_
         refine s_lt (t_kern (.agg #[iw k.kind, iw k.p, iw k.q, sw k.str, iw k.ref, iw v.kind, iw v.p, iw v.q, sw v.str, iw v.ref, .bool false])) ?_
         refine s_buildSlice (e := 264) [(0, .agg #[iw k.kind, iw k.p, iw k.q, sw k.str, iw k.ref, iw v.kind, iw v.p, iw v.q, sw v.str, iw v.ref, .bool false])] #[iw k.kind, iw k.p, iw k.q, sw k.str, iw k.ref, iw v.kind, iw v.p, iw v.q, sw v.str, iw v.ref, .bool false] (fun g88 => ?_) (hb := by kernel_rfl)
         refine s_append (L := (live S)) 3 RSltT_ok Tryz.underlying255 (.lit 0 RSltT_ok [(⟨k, v, false⟩ : Slt)]) (by show _ * 104 ≤ _; (try simp only [lnm]); omega) (by (try simp only [lnm]); omega) (fun v89 => ?_)
         refine sp (pB b 0) ?_
         refine sp (pB b 0) ?_
         refine s_fact (fun H h => ((Acc.own (T := RSltT) (L := ((live S) ++ [(⟨k, v, false⟩ : Slt)])) 3 rfl) H h).form) (fun hf90 => ?_)
         refine s_store (u := v89) (m := 1) 1 #[v89] ?_ (hm := by (obtain ⟨_, _, e⟩ := hf90; rw [e]; rfl)) (h1 := by (obtain ⟨_, _, e⟩ := hf90; rw [e]; rfl)) (ha' := by (obtain ⟨_, _, e⟩ := hf90; rw [e]; rfl))
         refine s_nil <| x_dynS (fun _ h => by kernel_rfl) ?_
         refine xs_then <| k_sr <| sp (iw 0) ?_
         refine s_nt <| k_ret ?_
         have hk := okKey_good c8 c11
         have hcl := cnt_le S
         have hS : osetL S k v = ((live S) ++ [(⟨k, v, false⟩ : Slt)]) := by rw [osetL_put hk c14 (of_decide_eq_false c59), ht28, if_pos c68]; show (if _ then _ else _) ++ _ = _; rw [if_pos (by have hx := of_decide_eq_true c72; omega)]
         refine xs_mem (fun _ h => rm_shut (S := ((live S) ++ [(⟨k, v, false⟩ : Slt)])) (by rw [← hS]; exact osetL_inv hinv0 k v) (h.re [1, 2] [])) ?_
         refine xs_fin [iw 0] (rmA b ((live S) ++ [(⟨k, v, false⟩ : Slt)]) :: F) (SI.tmp 6 SI.nil) (fun _ h => h.re [0] [1, 1, 1, 1]) ⟨congrArg (Value.int .i64) (osetE_ok hk c14).symm, ?_⟩
         rw [hS]
       ·
        have p91 := of_decide_eq_false c72
        refine k_st <| k_seq <| k_draw ?_
        refine sp (pB b 0) ?_
        refine sp (pB b 0) ?_
        refine sp (pB b 0) ?_
        refine sp (pB b 0) ?_
        refine s_lt (t_load 0 sv70) ?_
        refine s_lt (t_loadA 3 (vc k)) ?_
        refine s_lt (t_loadA 2 (vc v)) ?_
        refine s_lt (t_kern (.agg #[iw k.kind, iw k.p, iw k.q, sw k.str, iw k.ref, iw v.kind, iw v.p, iw v.q, sw v.str, iw v.ref, .bool false])) ?_
        refine s_buildSlice (e := 264) [(0, .agg #[iw k.kind, iw k.p, iw k.q, sw k.str, iw k.ref, iw v.kind, iw v.p, iw v.q, sw v.str, iw v.ref, .bool false])] #[iw k.kind, iw k.p, iw k.q, sw k.str, iw k.ref, iw v.kind, iw v.p, iw v.q, sw v.str, iw v.ref, .bool false] (fun g92 => ?_) (hb := by kernel_rfl)
        refine s_append (L := S) 2 RSltT_ok Tryz.underlying255 (.lit 0 RSltT_ok [(⟨k, v, false⟩ : Slt)]) (by show _ * 104 ≤ _; (try simp only [lnm]); omega) (by (try simp only [lnm]); omega) (fun v93 => ?_)
        refine sp (pB b 0) ?_
        refine sp (pB b 0) ?_
        refine s_fact (fun H h => ((Acc.own (T := RSltT) (L := (S ++ [(⟨k, v, false⟩ : Slt)])) 2 rfl) H h).form) (fun hf94 => ?_)
        refine s_store (u := v93) (m := 1) 1 #[v93] ?_ (hm := by (obtain ⟨_, _, e⟩ := hf94; rw [e]; rfl)) (h1 := by (obtain ⟨_, _, e⟩ := hf94; rw [e]; rfl)) (ha' := by (obtain ⟨_, _, e⟩ := hf94; rw [e]; rfl))
        refine s_nil <| x_dynS (fun _ h => by kernel_rfl) ?_
        refine xs_then <| k_sr <| sp (iw 0) ?_
        refine s_nt <| k_ret ?_
        have hk := okKey_good c8 c11
        have hcl := cnt_le S
        have hS : osetL S k v = (S ++ [(⟨k, v, false⟩ : Slt)]) := by rw [osetL_put hk c14 (of_decide_eq_false c59), ht28, if_pos c68]; show (if _ then _ else _) ++ _ = _; rw [if_neg (by have hx := of_decide_eq_false c72; omega)]
        refine xs_mem (fun _ h => rm_shut (S := (S ++ [(⟨k, v, false⟩ : Slt)])) (by rw [← hS]; exact osetL_inv hinv0 k v) (h.re [1, 1] [])) ?_
        refine xs_fin [iw 0] (rmA b (S ++ [(⟨k, v, false⟩ : Slt)]) :: F) (SI.tmp 6 SI.nil) (fun _ h => h.re [0] [1, 1, 1]) ⟨congrArg (Value.int .i64) (osetE_ok hk c14).symm, ?_⟩
        rw [hS]
end Go.Proofs.YtmhpcebiamkciaaGreat
end
section
set_option linter.unusedSimpArgs false
set_option linter.unusedVariables false
set_option maxRecDepth 100000
set_option maxHeartbeats 2000000
namespace Go.Proofs.YtmhpcebiamkciaaGreat
open Go.Hp Go.J Go.S
open Go.Mem (Ty KTy blk elemAt pre suf blk_pre blk_suf aget aset strK aggDesc)
open Go.Mem (adel apos aget_aset aget_adel)
def tbA (b : Nat) (L : List Vl) (S : List Slt) : Asr := exA fun lv => exA fun r => stA True [blkA b #[lv, .pointer (some ⟨r, 0, none⟩)] 185, own VlT lv L, omA r S]
theorem tb_open {b : Nat} {L : List Vl} {S : List Slt} {Z : Zone} {F : List Asr} {H : Heap} (h : Holds Z (tbA b L S :: F) H) : ∃ (lv : Value) (r : Nat), True ∧ Holds Z (blkA b #[lv, .pointer (some ⟨r, 0, none⟩)] 185 :: own VlT lv L :: omA r S :: F) H := by
  obtain ⟨lv, h⟩ := h.open_ex
  obtain ⟨r, h⟩ := h.open_ex
  exact ⟨lv, r, h.open_st⟩
theorem tb_shut {b : Nat} {L : List Vl} {S : List Slt} {Z : Zone} {F : List Asr} {H : Heap} {lv : Value} {r : Nat} (h : Holds Z (blkA b #[lv, .pointer (some ⟨r, 0, none⟩)] 185 :: own VlT lv L :: omA r S :: F) H) : Holds Z (tbA b L S :: F) H :=
  Holds.shut_ex lv (Holds.shut_ex r (Holds.shut_st trivial h))
theorem tb_inv {b : Nat} {L : List Vl} {S : List Slt} {Z : Zone} {F : List Asr} {H : Heap} (h : Holds Z (tbA b L S :: F) H) : OInv S := by
  obtain ⟨_, _, _, h⟩ := tb_open h; exact om_inv (h.re [2] [])
theorem ofint_s {Z : Zone} (x : Int) : SF Tryz.prog 233 #[iw x] Z [] fun r Bs => r = (ofI x).v ∧ Bs = [] := by
 refine sf_enter Tryz.func233 13 [(0, iw x)] (fun w0 => ?_)
 refine k_sr <| s_alloc (.agg zc) zc (fun g1 => ?_)
 refine s_nt <| k_seq <| k_cut (ι := Unit) (fun _ => True) (fun _ => [(0, iw x), (2, pB g1 0), (8, .bool ((decide (x < (-2147483647))) || (decide ((2147483647 : Int) < x))))]) (fun _ => [blkA g1 zc 71]) ?_ (fun _ _ => ?_)
 ·
  refine k_reg ?_
  refine sp (iw x) ?_
  refine s_lt t_cmp ?_
  refine sp (.bool (decide (x < (-2147483647)))) ?_
  refine s_fork 5 (decide (x < (-2147483647))) (fun c2 => ?_) (fun c2 => ?_)
  ·
   have p3 := of_decide_eq_true c2
   refine s_skip ?_
   refine s_skip ?_
   refine sp (.bool true) ?_
   refine s_nil ?_
   exact xs_cut () trivial (sub_of rfl ⟨⟨rfl, rfl⟩, ⟨⟨rfl, rfl⟩, ⟨⟨rfl, show Value.bool true = Value.bool ((decide (x < (-2147483647))) || (decide ((2147483647 : Int) < x))) by first | (simp only [c2, bls]; done) | simp [c2]⟩, trivial⟩⟩⟩) (fun _ h => h.re [0] [])
  ·
   have p4 := of_decide_eq_false c2
   refine sp (iw x) ?_
   refine s_lt t_cmp ?_
   refine sp (.bool (decide ((2147483647 : Int) < x))) ?_
   refine s_nil ?_
   exact xs_cut () trivial (sub_of rfl ⟨⟨rfl, rfl⟩, ⟨⟨rfl, rfl⟩, ⟨⟨rfl, show Value.bool (decide ((2147483647 : Int) < x)) = Value.bool ((decide (x < (-2147483647))) || (decide ((2147483647 : Int) < x))) by first | (simp only [c2, bls]; done) | simp [c2]⟩, trivial⟩⟩⟩) (fun _ h => h.re [0] [])
 ·
  refine k_cond ((decide (x < (-2147483647))) || (decide ((2147483647 : Int) < x))) (fun c5 => ?_) (fun c5 => ?_)
  ·
   have p6 := c5
   simp only [Bool.and_eq_true, Bool.or_eq_true, Bool.and_eq_false_iff, Bool.or_eq_false_iff, Bool.not_eq_true', Bool.not_eq_false', decide_eq_true_eq, decide_eq_false_iff_not] at p6
   refine k_sr <| s_lt (t_kern (.agg zc)) ?_
   refine s_store 0 zc ?_
   refine s_nt <| k_ret <| xs_ret <| xs_fin [.agg zc] [] (SI.agg 2 71 0 SI.nil) (fun _ h => h.re [] [0]) ⟨?_, rfl⟩
   show Value.agg _ = Vl.v (ofI x); unfold ofI; rw [if_pos (by omega)]; rfl
  ·
   obtain ⟨c7, c8⟩ := or_f c5
   have p9 := of_decide_eq_false c7
   have p10 := of_decide_eq_false c8
   refine k_st <| k_sr <| sp (iw x) ?_
   refine s_lt (t_kern (.agg #[iw x, iw 1])) ?_
   refine s_lt (t_kern (.agg #[iw 2, iw x, iw 1, sw eb, iw 0])) ?_
   refine s_store 0 #[iw 2, iw x, iw 1, sw eb, iw 0] ?_
   refine s_nt <| k_ret <| xs_fin [.agg #[iw 2, iw x, iw 1, sw eb, iw 0]] [] (SI.agg 2 71 0 SI.nil) (fun _ h => h.re [] [0]) ⟨?_, rfl⟩
   show Value.agg _ = Vl.v (ofI x); unfold ofI; rw [if_neg (by omega)]
theorem rofint_s {Z : Zone} (x : Int) : SF Tryz.prog 242 #[iw x] Z [] fun r Bs => r = (ofI x).v ∧ Bs = [] := by
 refine sf_enter Tryz.func242 13 [(0, iw x)] (fun w0 => ?_)
 refine k_sr <| s_alloc (.agg zc) zc (fun g1 => ?_)
 refine s_nt <| k_seq <| k_cut (ι := Unit) (fun _ => True) (fun _ => [(0, iw x), (2, pB g1 0), (8, .bool ((decide (x < (-2147483647))) || (decide ((2147483647 : Int) < x))))]) (fun _ => [blkA g1 zc 71]) ?_ (fun _ _ => ?_)
 ·
  refine k_reg ?_
  refine sp (iw x) ?_
  refine s_lt t_cmp ?_
  refine sp (.bool (decide (x < (-2147483647)))) ?_
  refine s_fork 5 (decide (x < (-2147483647))) (fun c2 => ?_) (fun c2 => ?_)
  ·
   have p3 := of_decide_eq_true c2
   refine s_skip ?_
   refine s_skip ?_
   refine sp (.bool true) ?_
   refine s_nil ?_
   exact xs_cut () trivial (sub_of rfl ⟨⟨rfl, rfl⟩, ⟨⟨rfl, rfl⟩, ⟨⟨rfl, show Value.bool true = Value.bool ((decide (x < (-2147483647))) || (decide ((2147483647 : Int) < x))) by first | (simp only [c2, bls]; done) | simp [c2]⟩, trivial⟩⟩⟩) (fun _ h => h.re [0] [])
  ·
   have p4 := of_decide_eq_false c2
   refine sp (iw x) ?_
   refine s_lt t_cmp ?_
   refine sp (.bool (decide ((2147483647 : Int) < x))) ?_
   refine s_nil ?_
   exact xs_cut () trivial (sub_of rfl ⟨⟨rfl, rfl⟩, ⟨⟨rfl, rfl⟩, ⟨⟨rfl, show Value.bool (decide ((2147483647 : Int) < x)) = Value.bool ((decide (x < (-2147483647))) || (decide ((2147483647 : Int) < x))) by first | (simp only [c2, bls]; done) | simp [c2]⟩, trivial⟩⟩⟩) (fun _ h => h.re [0] [])
 ·
  refine k_cond ((decide (x < (-2147483647))) || (decide ((2147483647 : Int) < x))) (fun c5 => ?_) (fun c5 => ?_)
  ·
   have p6 := c5
   simp only [Bool.and_eq_true, Bool.or_eq_true, Bool.and_eq_false_iff, Bool.or_eq_false_iff, Bool.not_eq_true', Bool.not_eq_false', decide_eq_true_eq, decide_eq_false_iff_not] at p6
   refine k_sr <| s_lt (t_kern (.agg zc)) ?_
   refine s_store 0 zc ?_
   refine s_nt <| k_ret <| xs_ret <| xs_fin [.agg zc] [] (SI.agg 2 71 0 SI.nil) (fun _ h => h.re [] [0]) ⟨?_, rfl⟩
   show Value.agg _ = Vl.v (ofI x); unfold ofI; rw [if_pos (by omega)]; rfl
  ·
   obtain ⟨c7, c8⟩ := or_f c5
   have p9 := of_decide_eq_false c7
   have p10 := of_decide_eq_false c8
   refine k_st <| k_sr <| sp (iw x) ?_
   refine s_lt (t_kern (.agg #[iw x, iw 1])) ?_
   refine s_lt (t_kern (.agg #[iw 2, iw x, iw 1, sw eb, iw 0])) ?_
   refine s_store 0 #[iw 2, iw x, iw 1, sw eb, iw 0] ?_
   refine s_nt <| k_ret <| xs_fin [.agg #[iw 2, iw x, iw 1, sw eb, iw 0]] [] (SI.agg 2 71 0 SI.nil) (fun _ h => h.re [] [0]) ⟨?_, rfl⟩
   show Value.agg _ = Vl.v (ofI x); unfold ofI; rw [if_neg (by omega)]
theorem rkey_s {Z : Zone} (x : Int) : SF Tryz.prog 200 #[iw x] Z [] fun r Bs => r = (ofI x).v ∧ Bs = [] := by
 refine sf_enter Tryz.func200 5 [(0, iw x)] (fun w0 => ?_)
 refine k_sr <| s_alloc (.agg zc) zc (fun g1 => ?_)
 refine s_nr ?_
 refine sp (iw x) ?_
 refine s_vcall (fun _ h => rofint_s x) ?_
 rintro _ rfl
 refine s_store 0 (vc (ofI x)) ?_
 refine s_nt <| k_ret <| xs_fin [.agg (vc (ofI x))] [] (SI.agg 2 71 0 SI.nil) (fun _ h => h.re [] [0]) ⟨?_, rfl⟩
 rfl
theorem integer_s {Z : Zone} (k : Vl) : SF Tryz.prog 192 #[k.v] Z [] fun r Bs => r = .tuple #[iw k.p, .bool (isIntB k)] ∧ Bs = [] := by
 refine sf_enter Tryz.func192 20 [(0, .agg (vc k))] (fun w0 => ?_)
 refine k_sr <| s_box (vc k) (fun g1 => ?_)
 refine sp (iw 0) ?_
 refine sp (.bool false) ?_
 refine s_nt <| k_seq <| k_held [blkA g1 (vc k) 71] ?_
 refine hp_ 0 [0] (pB g1 1) ?_
 refine hp_ 1 [0] (pB g1 1) ?_
 refine h_l 2 rfl [0] (fun _ => (t_load 0 (iw k.p))) ?_
 refine hp_ 3 [0] (pB g1 0) ?_
 refine h_l 4 rfl [0] (fun _ => (t_load 0 (iw k.kind))) ?_
 refine h_l 5 rfl [0] (fun _ => t_cmp) ?_
 refine hp_ 6 [0] (.bool (decide (k.kind = 2))) ?_
 refine h_forkS 10 (decide (k.kind = 2)) (fun c2 => ?_) (fun c2 => ?_)
 ·
  have p3 := of_decide_eq_true c2
  refine hp_ 7 [0] (pB g1 1) ?_
  refine hp_ 8 [0] (pB g1 2) ?_
  refine h_l 9 rfl [0] (fun _ => (t_load 0 (iw k.q))) ?_
  refine h_l 10 rfl [0] (fun _ => t_cmp) ?_
  refine hp_ 11 [0] (.bool (decide (k.q = 1))) ?_
  refine hp_ 12 [0] (.bool (decide (k.q = 1))) ?_
  refine h_forkS 16 (decide (k.q = 1)) (fun c4 => ?_) (fun c4 => ?_)
  ·
   have p5 := of_decide_eq_true c4
   refine h_l 13 rfl [0] (fun _ => (t_loadA 0 (vc k))) ?_
   refine h_stepS 14 ?_
   refine s_vcall (fun _ h => valid_s k) ?_
   rintro _ rfl
   refine s_nil (xs_held [0] ?_)
   refine hp_ 15 [0] (.bool (validB k)) ?_
   refine hp_ 16 [0] (iw k.p) ?_
   refine hp_ 17 [0] (.bool (validB k)) ?_
   refine h_doneS ?_
   refine xs_then <| k_ret <| xs_fin [iw k.p, .bool (validB k)] [] (SI.tmp 2 (SI.tmp 3 SI.nil)) (fun _ h => h.re [] [0]) ⟨?_, rfl⟩
   show Value.tuple #[iw k.p, .bool (validB k)] = Value.tuple #[iw k.p, .bool (isIntB k)]
   unfold isIntB; simp [c2, c4]
  ·
   have p6 := of_decide_eq_false c4
   refine h_sk 13 [0] ?_
   refine h_stepS 14 ?_
   refine s_skip ?_
   refine s_nil (xs_held [0] ?_)
   refine hp_ 15 [0] (.bool false) ?_
   refine hp_ 16 [0] (iw k.p) ?_
   refine hp_ 17 [0] (.bool false) ?_
   refine h_doneS ?_
   refine xs_then <| k_ret <| xs_fin [iw k.p, .bool false] [] (SI.tmp 2 (SI.tmp 3 SI.nil)) (fun _ h => h.re [] [0]) ⟨?_, rfl⟩
   show Value.tuple #[iw k.p, .bool false] = Value.tuple #[iw k.p, .bool (isIntB k)]
   unfold isIntB; simp [c2, c4]
 ·
  have p7 := of_decide_eq_false c2
  refine h_sk 7 [0] ?_
  refine h_sk 8 [0] ?_
  refine h_sk 9 [0] ?_
  refine h_sk 10 [0] ?_
  refine hp_ 11 [0] (.bool false) ?_
  refine hp_ 12 [0] (.bool false) ?_
  refine h_sk 13 [0] ?_
  refine h_stepS 14 ?_
  refine s_skip ?_
  refine s_nil (xs_held [0] ?_)
  refine hp_ 15 [0] (.bool false) ?_
  refine hp_ 16 [0] (iw k.p) ?_
  refine hp_ 17 [0] (.bool false) ?_
  refine h_doneS ?_
  refine xs_then <| k_ret <| xs_fin [iw k.p, .bool false] [] (SI.tmp 2 (SI.tmp 3 SI.nil)) (fun _ h => h.re [] [0]) ⟨?_, rfl⟩
  show Value.tuple #[iw k.p, .bool false] = Value.tuple #[iw k.p, .bool (isIntB k)]
  unfold isIntB; simp [c2]
theorem tbnew_s {Z : Zone} : SF Tryz.prog 73 #[] Z [] fun r Bs => ∃ b, r = .pointer (some ⟨b, 0, none⟩) ∧ Bs = [tbA b [] []] := by
 refine sf_enter Tryz.func73 4 [] (fun w0 => ?_)
 refine k_sr <| sp (.pointer none) ?_
 refine s_nr ?_
 refine s_pcall (fun _ h => omnew_s) ?_
 rintro _ _ ⟨r1, rfl, rfl⟩
 refine s_lt (t_kern (.agg #[(.slice none 0 0), pB r1 0])) ?_
 refine s_box #[(.slice none 0 0), pB r1 0] (fun g2 => ?_)
 refine sp (pB g2 0) ?_
 refine s_nt <| k_ret <| xs_fin [pB g2 0] [tbA g2 [] []] (SI.tmp 0 SI.nil) (fun _ h => tb_shut (b := g2) (lv := .slice none 0 0) (r := r1) ((Holds.nilS (T := VlT) h).re [1, 0, 0] [])) ⟨g2, rfl, rfl⟩
theorem tbshrink_s {Z : Zone} {F : List Asr} {b : Nat} {L : List Vl} {S : List Slt} (hl : L.length ≤ 1000000) : SF Tryz.prog 193 #[.pointer (some ⟨b, 0, none⟩)] Z (tbA b L S :: F) fun r Bs => r = .tuple #[] ∧ Bs = tbA b (shr L) S :: F := by
 refine sf_enter Tryz.func193 34 [(0, pB b 0)] (fun w0 => ?_)
 refine k_sr <| sp (pB b 0) ?_
 refine sp (pB b 0) ?_
 refine sp (pB b 0) ?_
 refine s_mem2 (fun H h => tb_open (h.re [0] [])) (fun lv1 r2 hw => ?_)
 refine s_lt (t_load 0 lv1) ?_
 refine s_lt (t_len VlT_ok Tryz.underlying28 (.own 1)) ?_
 refine sp (iw (L.length : Int)) ?_
 refine s_nt <| k_seq <| k_block ?_
 refine k_mem (fun _ h => tb_shut (h.re [0, 0, 0] [])) ?_
 refine k_loop (ι := Nat) (fun n => n ≤ L.length ∧ shr L = shr (L.take n)) (fun n => [(0, pB b 0), (2, iw (n : Int))]) (fun n => tbA b L S :: F) (fun n => n) L.length ⟨Nat.le_refl _, by rw [List.take_length]⟩ (sub_of rfl ⟨⟨rfl, rfl⟩, ⟨⟨rfl, rfl⟩, trivial⟩⟩) (fun _ h => h.re [0] []) ?_
 rintro n hi3
 show SK _ _ _ _ _ [(0, .pointer (some ⟨b, 0, none⟩)), (2, iw (n : Int))] _ (tbA b L S :: F)
 refine k_seq <| k_sr <| sp (iw (n : Int)) ?_
 refine s_lt t_cmp ?_
 refine sp (.bool (decide ((0 : Int) < (n : Int)))) ?_
 refine s_fork 10 (decide ((0 : Int) < (n : Int))) (fun c4 => ?_) (fun c4 => ?_)
 ·
  have p5 := of_decide_eq_true c4
  refine sp (pB b 0) ?_
  refine sp (pB b 0) ?_
  refine sp (pB b 0) ?_
  refine s_mem2 (fun H h => tb_open (h.re [0] [])) (fun lv6 r7 hw => ?_)
  refine s_lt (t_load 0 lv6) ?_
  refine sp (iw (n : Int)) ?_
  refine s_lt (t_sub (n : Int) 1 (by (try simp only [lnm]); omega)) ?_
  refine s_lt (t_index VlT_ok Tryz.underlying28 (.own 1) ((n : Int) - 1) (n - 1) (by omega) (by (try simp only [lnm]); omega) (by omega)) ?_
  refine sp (.pointer (some (elemAt VlT.size lv6 (n - 1)))) ?_
  obtain ⟨y8, hy9⟩ : ∃ y, L[(n - 1)]? = some y := ⟨_, List.getElem?_eq_getElem (by (try simp only [lnm]); omega)⟩
  refine s_lt (t_loadF 0 VlT_ok (.own 1) hy9) ?_
  refine s_lt t_cmp ?_
  refine sp (.bool (decide (y8.kind = 0))) ?_
  refine s_nt <| k_cond (decide (y8.kind = 0)) (fun c10 => ?_) (fun c10 => ?_)
  ·
   have p11 := of_decide_eq_true c10
   refine k_st <| k_block ?_
   refine k_reg ?_
   refine sp (iw (n : Int)) ?_
   refine s_lt (t_sub (n : Int) 1 (by (try simp only [lnm]); omega)) ?_
   refine sp (iw ((n : Int) - 1)) ?_
   refine s_nil <| xs_block ?_
   refine xs_mem (fun _ h => tb_shut (h.re [0, 0, 0] [])) ?_
   exact xs_round (n - 1) (by omega) ⟨by omega, by rw [← shr_step (n := n - 1) (by omega) hy9 (by omega), show n - 1 + 1 = n by omega]; exact hi3.2⟩ (sub_of rfl ⟨⟨rfl, rfl⟩, ⟨⟨rfl, congrArg (Value.int .i64) (by omega)⟩, trivial⟩⟩) (fun _ h => h.re [0] [])
  ·
   have p12 := of_decide_eq_false c10
   refine k_exit ?_
   refine xs_exit ?_
   refine xs_exit ?_
   refine xs_here ?_
   refine xs_then <| k_reg ?_
   refine sp (pB b 0) ?_
   refine sp (pB b 0) ?_
   refine sp (pB b 0) ?_
   refine sp (pB b 0) ?_
   refine s_lt (t_load 0 lv6) ?_
   refine sp (iw (n : Int)) ?_
   refine sp (iw (n : Int)) ?_
   refine s_lt (t_pre3 VlT_ok Tryz.underlying28 (.own 1) (n : Int) n (by omega) (by (try simp only [lnm]); omega) (by omega)) ?_
   refine sp (pB b 0) ?_
   refine sp (pB b 0) ?_
   refine s_mem (fun _ h => Holds.pre3 (i := 1) h VlT_ok n rfl (by (try simp only [lnm]); omega)) ?_
   refine s_fact (fun H h => ((Acc.own (T := VlT) (L := (L.take n)) 1 rfl) H h).form) (fun hf13 => ?_)
   refine s_store (u := (pre3 lv6 n)) (m := 1) 0 #[(pre3 lv6 n), pB r7 0] ?_ (hm := by (obtain ⟨_, _, e⟩ := hf13; rw [e]; rfl)) (h1 := by (obtain ⟨_, _, e⟩ := hf13; rw [e]; rfl)) (ha' := by (obtain ⟨_, _, e⟩ := hf13; rw [e]; rfl))
   refine s_nil <| xs_mem (fun _ h => tb_shut (h.re [0, 0, 0] [])) ?_
   have hS : shr L = L.take n := by rw [hi3.2, show n = n - 1 + 1 by omega]; exact shr_stop hy9 (by omega)
   refine xs_finN [] (tbA b (L.take n) S :: F) SI.nil (fun _ h => h.re [0] []) ⟨rfl, ?_⟩
   rw [hS]
 ·
  have p14 := of_decide_eq_false c4
  refine s_skip ?_
  refine s_skip ?_
  refine s_skip ?_
  refine s_skip ?_
  refine s_skip ?_
  refine s_skip ?_
  refine s_skip ?_
  refine s_skip ?_
  refine s_skip ?_
  refine s_skip ?_
  refine sp (.bool false) ?_
  refine s_nt <| k_false ?_
  refine k_exit ?_
  refine xs_exit ?_
  refine xs_exit ?_
  refine xs_here ?_
  refine xs_then <| k_reg ?_
  refine sp (pB b 0) ?_
  refine sp (pB b 0) ?_
  refine sp (pB b 0) ?_
  refine sp (pB b 0) ?_
  refine s_mem2 (fun H h => tb_open (h.re [0] [])) (fun lv15 r16 hw => ?_)
  refine s_lt (t_load 0 lv15) ?_
  refine sp (iw (n : Int)) ?_
  refine sp (iw (n : Int)) ?_
  refine s_lt (t_pre3 VlT_ok Tryz.underlying28 (.own 1) (n : Int) n (by omega) (by (try simp only [lnm]); omega) (by omega)) ?_
  refine sp (pB b 0) ?_
  refine sp (pB b 0) ?_
  refine s_mem (fun _ h => Holds.pre3 (i := 1) h VlT_ok n rfl (by (try simp only [lnm]); omega)) ?_
  refine s_fact (fun H h => ((Acc.own (T := VlT) (L := (L.take n)) 1 rfl) H h).form) (fun hf17 => ?_)
  refine s_store (u := (pre3 lv15 n)) (m := 1) 0 #[(pre3 lv15 n), pB r16 0] ?_ (hm := by (obtain ⟨_, _, e⟩ := hf17; rw [e]; rfl)) (h1 := by (obtain ⟨_, _, e⟩ := hf17; rw [e]; rfl)) (ha' := by (obtain ⟨_, _, e⟩ := hf17; rw [e]; rfl))
  refine s_nil <| xs_mem (fun _ h => tb_shut (h.re [0, 0, 0] [])) ?_
  have hS : shr L = L.take n := by obtain rfl : n = 0 := (by omega); rw [hi3.2]; rfl
  refine xs_finN [] (tbA b (L.take n) S :: F) SI.nil (fun _ h => h.re [0] []) ⟨rfl, ?_⟩
  rw [hS]
theorem stale_step (S : List Slt) {n m : Nat} (h : n ≤ m) : (staleB S n m || decide ((onext S (ofI ((m : Int) + 1))).2.2.2 = 0)) = staleB S n (m + 1) := by
  rw [staleB_snoc S h, hasK_iff]
  cases hasK S (ofI ((m : Int) + 1)) <;> simp
theorem tadd_eq {L L' : List Vl} {S : List Slt} {v : Vl} (h : grow S (S.length + 2) L v = L') : tadd ⟨L, S⟩ v = ⟨L', if staleB S L.length L'.length then purge S L'.length else S⟩ := by
  unfold tadd; simp only [h]
theorem purgeS_len (S : List Slt) (m i : Nat) : (purgeS S m i).length ≤ S.length := by
  unfold purgeS
  refine Nat.le_trans (List.length_filter_le _ _) ?_
  rw [List.length_take]; have := cnt_le S; unfold cnt at this; omega
theorem okeys_length (S : List Slt) : (okeys S).length = (live S).length := by unfold okeys; simp
theorem mu_le (S : List Slt) (n : Nat) (v : Vl) : mu S n v ≤ S.length + 1 := by
  unfold mu; have := more_le S (n + 1); split <;> omega
theorem tbadd_s {Z : Zone} {F : List Asr} {b : Nat} {L : List Vl} {S : List Slt} (hl : L.length ≤ 100000) (hs : S.length ≤ 100000) (v : Vl) : SF Tryz.prog 194 #[.pointer (some ⟨b, 0, none⟩), v.v] Z (tbA b L S :: F) fun r Bs => r = .tuple #[] ∧ Bs = tbA b (tadd ⟨L, S⟩ v).list (tadd ⟨L, S⟩ v).rest :: F := by
 refine sf_enter Tryz.func194 107 [(0, pB b 0), (1, .agg (vc v))] (fun w0 => ?_)
 refine k_fact (fun H h => tb_inv (h.re [0] [])) (fun hinv0 => ?_)
 have hol := okeys_len S
 refine k_sr <| s_box (vc v) (fun g1 => ?_)
 refine s_nr ?_
 refine sp (.bool false) ?_
 refine s_nt <| k_seq <| k_block ?_
 refine k_mem2 (fun H h => tb_open (h.re [1] [])) (fun lv2 r3 hw => ?_)
 have hmu0 := mu_le S L.length v
 refine k_loop (ι := Value × List Vl × Vl × Nat) (fun (lx, X, x, f) => grow S (S.length + 2) L v = grow S f X x ∧ mu S X.length x ≤ f ∧ L.length ≤ X.length ∧ X.length + mu S X.length x ≤ L.length + S.length + 1) (fun (lx, X, x, f) => [(0, pB b 0), (3, pB g1 0), (4, .bool (staleB S L.length X.length))]) (fun (lx, X, x, f) => blkA b #[lx, pB r3 0] 185 :: own VlT lx X :: omA r3 S :: blkA g1 (vc x) 71 :: F) (fun (lx, X, x, f) => mu S X.length x) (lv2, L, v, S.length + 2) ⟨rfl, by omega, by omega, by omega⟩ (sub_of rfl ⟨⟨rfl, rfl⟩, ⟨⟨rfl, rfl⟩, ⟨⟨rfl, congrArg Value.bool (staleB_self S L.length).symm⟩, trivial⟩⟩⟩) (fun _ h => h.re [0, 0, 0, 0] []) ?_
 rintro ⟨lx, X, x, f⟩ hi4
 replace hi4 : grow S (S.length + 2) L v = grow S f X x ∧ mu S X.length x ≤ f ∧ L.length ≤ X.length ∧ X.length + mu S X.length x ≤ L.length + S.length + 1 := hi4
 show SK _ _ _ _ _ [(0, .pointer (some ⟨b, 0, none⟩)), (3, .pointer (some ⟨g1, 0, none⟩)), (4, .bool (staleB S L.length X.length))] _ (blkA b #[lx, .pointer (some ⟨r3, 0, none⟩)] 185 :: own VlT lx X :: omA r3 S :: blkA g1 (vc x) 71 :: F)
 refine k_seq <| k_sr <| sp (pB g1 0) ?_
 refine s_lt (t_load 3 (iw x.kind)) ?_
 refine s_lt t_cmp ?_
 refine s_nt <| k_cond (decide (x.kind ≠ 0)) (fun c5 => ?_) (fun c5 => ?_)
 ·
  have p6 := of_decide_eq_true c5
  have hx0 : x.kind ≠ 0 := of_decide_eq_true c5
  obtain ⟨f1, hf1, hg1⟩ := grow_step S X hx0 hi4.2.1
  have hg2 : grow S (S.length + 2) L v = grow S (f - 1) (X ++ [x]) (oget S (ofI ((X.length : Int) + 2))) := by rw [hi4.1, hg1, hf1]; rfl
  refine k_st <| k_block ?_
  refine k_seq <| k_draw ?_
  refine sp (pB b 0) ?_
  refine sp (pB b 0) ?_
  refine sp (pB b 0) ?_
  refine sp (pB b 0) ?_
  refine s_lt (t_load 0 lx) ?_
  refine s_lt (t_loadA 3 (vc x)) ?_
  refine s_buildSlice (e := 71) [(0, .agg (vc x))] (vc x) (fun g7 => ?_) (hb := by kernel_rfl)
  refine s_append (L := X) 2 VlT_ok Tryz.underlying28 (.lit 0 VlT_ok [x]) (by show _ * 48 ≤ _; (try simp only [lnm]); omega) (by (try simp only [lnm]); omega) (fun v8 => ?_)
  obtain ⟨L2, hL2⟩ : ∃ y, y = X ++ [x] := ⟨_, rfl⟩
  rw [← hL2]
  have ll2 : L2.length = X.length + 1 := by rw [hL2]; simp
  refine sp (pB b 0) ?_
  refine sp (pB b 0) ?_
  refine s_fact (fun H h => ((Acc.own (T := VlT) (L := L2) 2 rfl) H h).form) (fun hf9 => ?_)
  refine s_store (u := v8) (m := 1) 1 #[v8, pB r3 0] ?_ (hm := by (obtain ⟨_, _, e⟩ := hf9; rw [e]; rfl)) (h1 := by (obtain ⟨_, _, e⟩ := hf9; rw [e]; rfl)) (ha' := by (obtain ⟨_, _, e⟩ := hf9; rw [e]; rfl))
  refine s_nil <| x_dynS (fun _ h => by kernel_rfl) ?_
  refine xs_then <| k_cut (ι := Unit) (fun _ => True) (fun _ => [(0, pB b 0), (3, pB g1 0), (4, .bool (staleB S L.length X.length)), (8, iw ((onext S (ofI ((X.length : Int) + 1))).2.2.2))]) (fun _ => blkA g7 (vc x) 71 :: blkA b #[v8, pB r3 0] 185 :: own VlT v8 L2 :: omA r3 S :: blkA g1 (vc x) 71 :: F) ?_ (fun _ _ => ?_)
  ·
   refine k_held [blkA g7 (vc x) 71, blkA b #[v8, pB r3 0] 185, own VlT v8 L2, blkA g1 (vc x) 71] ?_
   refine hp_ 0 [0, 0, 0, 1] (pB b 0) ?_
   refine hp_ 1 [0, 0, 0, 1] (pB b 0) ?_
   refine hp_ 2 [0, 0, 0, 1] (pB b 1) ?_
   refine h_l 3 rfl [0, 0, 0, 1] (fun _ => (t_load 1 (pB r3 0))) ?_
   refine hp_ 4 [0, 0, 0, 1] (pB b 0) ?_
   refine hp_ 5 [0, 0, 0, 1] (pB b 0) ?_
   refine hp_ 6 [0, 0, 0, 1] (pB b 0) ?_
   refine h_l 7 rfl [0, 0, 0, 1] (fun _ => (t_load 1 v8)) ?_
   refine h_l 8 rfl [0, 0, 0, 1] (fun _ => (t_len VlT_ok Tryz.underlying28 (.own 2))) ?_
   refine h_stepS3 9 16 17 ?_ ?_ ?_
   ·
    refine s_vcall (fun _ h => ofint_s (L2.length : Int)) ?_
    rintro u11 e10
    obtain rfl : u11 = (ofI ((X.length : Int) + 1)).v := by rw [e10, show (L2.length : Int) = (X.length : Int) + 1 by omega]
    refine s_nil (xs_held [0, 0, 0, 1] ?_)
    refine h_stepS3 10 16 17 ?_ ?_ ?_
    ·
     refine s_call [3] (omnext_s (S := S) (by (try simp only [lnm]); omega) (ofI ((X.length : Int) + 1))) ?_
     rintro _ _ ⟨rfl, rfl⟩
     refine s_nil (xs_held [1, 1, 1, 1] ?_)
     refine hp_ 11 [1, 1, 1, 1] (.tuple #[.agg #[iw (((onext S (ofI ((X.length : Int) + 1))).1).kind), iw (((onext S (ofI ((X.length : Int) + 1))).1).p), iw (((onext S (ofI ((X.length : Int) + 1))).1).q), sw (((onext S (ofI ((X.length : Int) + 1))).1).str), iw (((onext S (ofI ((X.length : Int) + 1))).1).ref)], .agg #[iw (((onext S (ofI ((X.length : Int) + 1))).2.1).kind), iw (((onext S (ofI ((X.length : Int) + 1))).2.1).p), iw (((onext S (ofI ((X.length : Int) + 1))).2.1).q), sw (((onext S (ofI ((X.length : Int) + 1))).2.1).str), iw (((onext S (ofI ((X.length : Int) + 1))).2.1).ref)], .bool ((onext S (ofI ((X.length : Int) + 1))).2.2.1), iw ((onext S (ofI ((X.length : Int) + 1))).2.2.2)]) ?_
     refine hp_ 12 [1, 1, 1, 1] (.agg #[iw (((onext S (ofI ((X.length : Int) + 1))).1).kind), iw (((onext S (ofI ((X.length : Int) + 1))).1).p), iw (((onext S (ofI ((X.length : Int) + 1))).1).q), sw (((onext S (ofI ((X.length : Int) + 1))).1).str), iw (((onext S (ofI ((X.length : Int) + 1))).1).ref)]) ?_
     refine hp_ 13 [1, 1, 1, 1] (.agg #[iw (((onext S (ofI ((X.length : Int) + 1))).2.1).kind), iw (((onext S (ofI ((X.length : Int) + 1))).2.1).p), iw (((onext S (ofI ((X.length : Int) + 1))).2.1).q), sw (((onext S (ofI ((X.length : Int) + 1))).2.1).str), iw (((onext S (ofI ((X.length : Int) + 1))).2.1).ref)]) ?_
     refine hp_ 14 [1, 1, 1, 1] (.bool ((onext S (ofI ((X.length : Int) + 1))).2.2.1)) ?_
     refine hp_ 15 [1, 1, 1, 1] (iw ((onext S (ofI ((X.length : Int) + 1))).2.2.2)) ?_
     refine h_stepS2 16 17 ?_ ?_
     ·
      refine s_alloc (.agg zc) zc (fun g12 => ?_)
      refine s_nil (xs_held [2, 2, 2, 2] ?_)
      refine h_stepS 17 ?_
      refine s_alloc (.agg zc) zc (fun g13 => ?_)
      refine s_nil (xs_held [3, 3, 3, 3] ?_)
      refine h_stepS 18 ?_
      refine s_store 1 #[iw (((onext S (ofI ((X.length : Int) + 1))).1).kind), iw (((onext S (ofI ((X.length : Int) + 1))).1).p), iw (((onext S (ofI ((X.length : Int) + 1))).1).q), sw (((onext S (ofI ((X.length : Int) + 1))).1).str), iw (((onext S (ofI ((X.length : Int) + 1))).1).ref)] ?_
      refine s_nil (xs_held [3, 3, 3, 3] ?_)
      refine h_stepS 19 ?_
      refine s_store 0 #[iw (((onext S (ofI ((X.length : Int) + 1))).2.1).kind), iw (((onext S (ofI ((X.length : Int) + 1))).2.1).p), iw (((onext S (ofI ((X.length : Int) + 1))).2.1).q), sw (((onext S (ofI ((X.length : Int) + 1))).2.1).str), iw (((onext S (ofI ((X.length : Int) + 1))).2.1).ref)] ?_
      refine s_nil (xs_held [3, 3, 3, 3] ?_)
      refine hp_ 20 [3, 3, 3, 3] (.bool ((onext S (ofI ((X.length : Int) + 1))).2.2.1)) ?_
      refine hp_ 21 [3, 3, 3, 3] (iw ((onext S (ofI ((X.length : Int) + 1))).2.2.2)) ?_
      refine h_doneS ?_
      exact xcut () (fun _ h => h.re [3, 3, 3, 2, 2] [5, 5])
     ·
      refine s_alloc (.agg zc) zc (fun g14 => ?_)
      refine s_nil (xs_held [2, 2, 2, 2] ?_)
      refine h_stepS 16 ?_
      refine s_alloc (.agg zc) zc (fun g15 => ?_)
      refine s_nil (xs_held [3, 3, 3, 3] ?_)
      refine h_stepS 18 ?_
      refine s_store 0 #[iw (((onext S (ofI ((X.length : Int) + 1))).1).kind), iw (((onext S (ofI ((X.length : Int) + 1))).1).p), iw (((onext S (ofI ((X.length : Int) + 1))).1).q), sw (((onext S (ofI ((X.length : Int) + 1))).1).str), iw (((onext S (ofI ((X.length : Int) + 1))).1).ref)] ?_
      refine s_nil (xs_held [3, 3, 3, 3] ?_)
      refine h_stepS 19 ?_
      refine s_store 1 #[iw (((onext S (ofI ((X.length : Int) + 1))).2.1).kind), iw (((onext S (ofI ((X.length : Int) + 1))).2.1).p), iw (((onext S (ofI ((X.length : Int) + 1))).2.1).q), sw (((onext S (ofI ((X.length : Int) + 1))).2.1).str), iw (((onext S (ofI ((X.length : Int) + 1))).2.1).ref)] ?_
      refine s_nil (xs_held [3, 3, 3, 3] ?_)
      refine hp_ 20 [3, 3, 3, 3] (.bool ((onext S (ofI ((X.length : Int) + 1))).2.2.1)) ?_
      refine hp_ 21 [3, 3, 3, 3] (iw ((onext S (ofI ((X.length : Int) + 1))).2.2.2)) ?_
      refine h_doneS ?_
      exact xcut () (fun _ h => h.re [3, 3, 3, 2, 2] [5, 5])
    ·
     refine s_alloc (.agg zc) zc (fun g16 => ?_)
     refine s_nil (xs_held [1, 1, 1, 2] ?_)
     refine h_stepS2 10 17 ?_ ?_
     ·
      refine s_call [4] (omnext_s (S := S) (by (try simp only [lnm]); omega) (ofI ((X.length : Int) + 1))) ?_
      rintro _ _ ⟨rfl, rfl⟩
      refine s_nil (xs_held [2, 2, 2, 2] ?_)
      refine hp_ 11 [2, 2, 2, 2] (.tuple #[.agg #[iw (((onext S (ofI ((X.length : Int) + 1))).1).kind), iw (((onext S (ofI ((X.length : Int) + 1))).1).p), iw (((onext S (ofI ((X.length : Int) + 1))).1).q), sw (((onext S (ofI ((X.length : Int) + 1))).1).str), iw (((onext S (ofI ((X.length : Int) + 1))).1).ref)], .agg #[iw (((onext S (ofI ((X.length : Int) + 1))).2.1).kind), iw (((onext S (ofI ((X.length : Int) + 1))).2.1).p), iw (((onext S (ofI ((X.length : Int) + 1))).2.1).q), sw (((onext S (ofI ((X.length : Int) + 1))).2.1).str), iw (((onext S (ofI ((X.length : Int) + 1))).2.1).ref)], .bool ((onext S (ofI ((X.length : Int) + 1))).2.2.1), iw ((onext S (ofI ((X.length : Int) + 1))).2.2.2)]) ?_
      refine hp_ 12 [2, 2, 2, 2] (.agg #[iw (((onext S (ofI ((X.length : Int) + 1))).1).kind), iw (((onext S (ofI ((X.length : Int) + 1))).1).p), iw (((onext S (ofI ((X.length : Int) + 1))).1).q), sw (((onext S (ofI ((X.length : Int) + 1))).1).str), iw (((onext S (ofI ((X.length : Int) + 1))).1).ref)]) ?_
      refine hp_ 13 [2, 2, 2, 2] (.agg #[iw (((onext S (ofI ((X.length : Int) + 1))).2.1).kind), iw (((onext S (ofI ((X.length : Int) + 1))).2.1).p), iw (((onext S (ofI ((X.length : Int) + 1))).2.1).q), sw (((onext S (ofI ((X.length : Int) + 1))).2.1).str), iw (((onext S (ofI ((X.length : Int) + 1))).2.1).ref)]) ?_
      refine hp_ 14 [2, 2, 2, 2] (.bool ((onext S (ofI ((X.length : Int) + 1))).2.2.1)) ?_
      refine hp_ 15 [2, 2, 2, 2] (iw ((onext S (ofI ((X.length : Int) + 1))).2.2.2)) ?_
      refine h_stepS 17 ?_
      refine s_alloc (.agg zc) zc (fun g17 => ?_)
      refine s_nil (xs_held [3, 3, 3, 3] ?_)
      refine h_stepS 18 ?_
      refine s_store 2 #[iw (((onext S (ofI ((X.length : Int) + 1))).1).kind), iw (((onext S (ofI ((X.length : Int) + 1))).1).p), iw (((onext S (ofI ((X.length : Int) + 1))).1).q), sw (((onext S (ofI ((X.length : Int) + 1))).1).str), iw (((onext S (ofI ((X.length : Int) + 1))).1).ref)] ?_
      refine s_nil (xs_held [3, 3, 3, 3] ?_)
      refine h_stepS 19 ?_
      refine s_store 0 #[iw (((onext S (ofI ((X.length : Int) + 1))).2.1).kind), iw (((onext S (ofI ((X.length : Int) + 1))).2.1).p), iw (((onext S (ofI ((X.length : Int) + 1))).2.1).q), sw (((onext S (ofI ((X.length : Int) + 1))).2.1).str), iw (((onext S (ofI ((X.length : Int) + 1))).2.1).ref)] ?_
      refine s_nil (xs_held [3, 3, 3, 3] ?_)
      refine hp_ 20 [3, 3, 3, 3] (.bool ((onext S (ofI ((X.length : Int) + 1))).2.2.1)) ?_
      refine hp_ 21 [3, 3, 3, 3] (iw ((onext S (ofI ((X.length : Int) + 1))).2.2.2)) ?_
      refine h_doneS ?_
      exact xcut () (fun _ h => h.re [3, 3, 3, 1, 2] [5, 5])
     ·
      refine s_alloc (.agg zc) zc (fun g18 => ?_)
      refine s_nil (xs_held [2, 2, 2, 3] ?_)
      refine h_stepS 10 ?_
      refine s_call [5] (omnext_s (S := S) (by (try simp only [lnm]); omega) (ofI ((X.length : Int) + 1))) ?_
      rintro _ _ ⟨rfl, rfl⟩
      refine s_nil (xs_held [3, 3, 3, 3] ?_)
      refine hp_ 11 [3, 3, 3, 3] (.tuple #[.agg #[iw (((onext S (ofI ((X.length : Int) + 1))).1).kind), iw (((onext S (ofI ((X.length : Int) + 1))).1).p), iw (((onext S (ofI ((X.length : Int) + 1))).1).q), sw (((onext S (ofI ((X.length : Int) + 1))).1).str), iw (((onext S (ofI ((X.length : Int) + 1))).1).ref)], .agg #[iw (((onext S (ofI ((X.length : Int) + 1))).2.1).kind), iw (((onext S (ofI ((X.length : Int) + 1))).2.1).p), iw (((onext S (ofI ((X.length : Int) + 1))).2.1).q), sw (((onext S (ofI ((X.length : Int) + 1))).2.1).str), iw (((onext S (ofI ((X.length : Int) + 1))).2.1).ref)], .bool ((onext S (ofI ((X.length : Int) + 1))).2.2.1), iw ((onext S (ofI ((X.length : Int) + 1))).2.2.2)]) ?_
      refine hp_ 12 [3, 3, 3, 3] (.agg #[iw (((onext S (ofI ((X.length : Int) + 1))).1).kind), iw (((onext S (ofI ((X.length : Int) + 1))).1).p), iw (((onext S (ofI ((X.length : Int) + 1))).1).q), sw (((onext S (ofI ((X.length : Int) + 1))).1).str), iw (((onext S (ofI ((X.length : Int) + 1))).1).ref)]) ?_
      refine hp_ 13 [3, 3, 3, 3] (.agg #[iw (((onext S (ofI ((X.length : Int) + 1))).2.1).kind), iw (((onext S (ofI ((X.length : Int) + 1))).2.1).p), iw (((onext S (ofI ((X.length : Int) + 1))).2.1).q), sw (((onext S (ofI ((X.length : Int) + 1))).2.1).str), iw (((onext S (ofI ((X.length : Int) + 1))).2.1).ref)]) ?_
      refine hp_ 14 [3, 3, 3, 3] (.bool ((onext S (ofI ((X.length : Int) + 1))).2.2.1)) ?_
      refine hp_ 15 [3, 3, 3, 3] (iw ((onext S (ofI ((X.length : Int) + 1))).2.2.2)) ?_
      refine h_stepS 18 ?_
      refine s_store 2 #[iw (((onext S (ofI ((X.length : Int) + 1))).1).kind), iw (((onext S (ofI ((X.length : Int) + 1))).1).p), iw (((onext S (ofI ((X.length : Int) + 1))).1).q), sw (((onext S (ofI ((X.length : Int) + 1))).1).str), iw (((onext S (ofI ((X.length : Int) + 1))).1).ref)] ?_
      refine s_nil (xs_held [3, 3, 3, 3] ?_)
      refine h_stepS 19 ?_
      refine s_store 1 #[iw (((onext S (ofI ((X.length : Int) + 1))).2.1).kind), iw (((onext S (ofI ((X.length : Int) + 1))).2.1).p), iw (((onext S (ofI ((X.length : Int) + 1))).2.1).q), sw (((onext S (ofI ((X.length : Int) + 1))).2.1).str), iw (((onext S (ofI ((X.length : Int) + 1))).2.1).ref)] ?_
      refine s_nil (xs_held [3, 3, 3, 3] ?_)
      refine hp_ 20 [3, 3, 3, 3] (.bool ((onext S (ofI ((X.length : Int) + 1))).2.2.1)) ?_
      refine hp_ 21 [3, 3, 3, 3] (iw ((onext S (ofI ((X.length : Int) + 1))).2.2.2)) ?_
      refine h_doneS ?_
      exact xcut () (fun _ h => h.re [3, 3, 3, 0, 2] [5, 5])
    ·
     refine s_alloc (.agg zc) zc (fun g19 => ?_)
     refine s_nil (xs_held [1, 1, 1, 2] ?_)
     refine h_stepS2 10 16 ?_ ?_
     ·
      refine s_call [4] (omnext_s (S := S) (by (try simp only [lnm]); omega) (ofI ((X.length : Int) + 1))) ?_
      rintro _ _ ⟨rfl, rfl⟩
      refine s_nil (xs_held [2, 2, 2, 2] ?_)
      refine hp_ 11 [2, 2, 2, 2] (.tuple #[.agg #[iw (((onext S (ofI ((X.length : Int) + 1))).1).kind), iw (((onext S (ofI ((X.length : Int) + 1))).1).p), iw (((onext S (ofI ((X.length : Int) + 1))).1).q), sw (((onext S (ofI ((X.length : Int) + 1))).1).str), iw (((onext S (ofI ((X.length : Int) + 1))).1).ref)], .agg #[iw (((onext S (ofI ((X.length : Int) + 1))).2.1).kind), iw (((onext S (ofI ((X.length : Int) + 1))).2.1).p), iw (((onext S (ofI ((X.length : Int) + 1))).2.1).q), sw (((onext S (ofI ((X.length : Int) + 1))).2.1).str), iw (((onext S (ofI ((X.length : Int) + 1))).2.1).ref)], .bool ((onext S (ofI ((X.length : Int) + 1))).2.2.1), iw ((onext S (ofI ((X.length : Int) + 1))).2.2.2)]) ?_
      refine hp_ 12 [2, 2, 2, 2] (.agg #[iw (((onext S (ofI ((X.length : Int) + 1))).1).kind), iw (((onext S (ofI ((X.length : Int) + 1))).1).p), iw (((onext S (ofI ((X.length : Int) + 1))).1).q), sw (((onext S (ofI ((X.length : Int) + 1))).1).str), iw (((onext S (ofI ((X.length : Int) + 1))).1).ref)]) ?_
      refine hp_ 13 [2, 2, 2, 2] (.agg #[iw (((onext S (ofI ((X.length : Int) + 1))).2.1).kind), iw (((onext S (ofI ((X.length : Int) + 1))).2.1).p), iw (((onext S (ofI ((X.length : Int) + 1))).2.1).q), sw (((onext S (ofI ((X.length : Int) + 1))).2.1).str), iw (((onext S (ofI ((X.length : Int) + 1))).2.1).ref)]) ?_
      refine hp_ 14 [2, 2, 2, 2] (.bool ((onext S (ofI ((X.length : Int) + 1))).2.2.1)) ?_
      refine hp_ 15 [2, 2, 2, 2] (iw ((onext S (ofI ((X.length : Int) + 1))).2.2.2)) ?_
      refine h_stepS 16 ?_
      refine s_alloc (.agg zc) zc (fun g20 => ?_)
      refine s_nil (xs_held [3, 3, 3, 3] ?_)
      refine h_stepS 18 ?_
      refine s_store 0 #[iw (((onext S (ofI ((X.length : Int) + 1))).1).kind), iw (((onext S (ofI ((X.length : Int) + 1))).1).p), iw (((onext S (ofI ((X.length : Int) + 1))).1).q), sw (((onext S (ofI ((X.length : Int) + 1))).1).str), iw (((onext S (ofI ((X.length : Int) + 1))).1).ref)] ?_
      refine s_nil (xs_held [3, 3, 3, 3] ?_)
      refine h_stepS 19 ?_
      refine s_store 2 #[iw (((onext S (ofI ((X.length : Int) + 1))).2.1).kind), iw (((onext S (ofI ((X.length : Int) + 1))).2.1).p), iw (((onext S (ofI ((X.length : Int) + 1))).2.1).q), sw (((onext S (ofI ((X.length : Int) + 1))).2.1).str), iw (((onext S (ofI ((X.length : Int) + 1))).2.1).ref)] ?_
      refine s_nil (xs_held [3, 3, 3, 3] ?_)
      refine hp_ 20 [3, 3, 3, 3] (.bool ((onext S (ofI ((X.length : Int) + 1))).2.2.1)) ?_
      refine hp_ 21 [3, 3, 3, 3] (iw ((onext S (ofI ((X.length : Int) + 1))).2.2.2)) ?_
      refine h_doneS ?_
      exact xcut () (fun _ h => h.re [3, 3, 3, 1, 2] [5, 5])
     ·
      refine s_alloc (.agg zc) zc (fun g21 => ?_)
      refine s_nil (xs_held [2, 2, 2, 3] ?_)
      refine h_stepS 10 ?_
      refine s_call [5] (omnext_s (S := S) (by (try simp only [lnm]); omega) (ofI ((X.length : Int) + 1))) ?_
      rintro _ _ ⟨rfl, rfl⟩
      refine s_nil (xs_held [3, 3, 3, 3] ?_)
      refine hp_ 11 [3, 3, 3, 3] (.tuple #[.agg #[iw (((onext S (ofI ((X.length : Int) + 1))).1).kind), iw (((onext S (ofI ((X.length : Int) + 1))).1).p), iw (((onext S (ofI ((X.length : Int) + 1))).1).q), sw (((onext S (ofI ((X.length : Int) + 1))).1).str), iw (((onext S (ofI ((X.length : Int) + 1))).1).ref)], .agg #[iw (((onext S (ofI ((X.length : Int) + 1))).2.1).kind), iw (((onext S (ofI ((X.length : Int) + 1))).2.1).p), iw (((onext S (ofI ((X.length : Int) + 1))).2.1).q), sw (((onext S (ofI ((X.length : Int) + 1))).2.1).str), iw (((onext S (ofI ((X.length : Int) + 1))).2.1).ref)], .bool ((onext S (ofI ((X.length : Int) + 1))).2.2.1), iw ((onext S (ofI ((X.length : Int) + 1))).2.2.2)]) ?_
      refine hp_ 12 [3, 3, 3, 3] (.agg #[iw (((onext S (ofI ((X.length : Int) + 1))).1).kind), iw (((onext S (ofI ((X.length : Int) + 1))).1).p), iw (((onext S (ofI ((X.length : Int) + 1))).1).q), sw (((onext S (ofI ((X.length : Int) + 1))).1).str), iw (((onext S (ofI ((X.length : Int) + 1))).1).ref)]) ?_
      refine hp_ 13 [3, 3, 3, 3] (.agg #[iw (((onext S (ofI ((X.length : Int) + 1))).2.1).kind), iw (((onext S (ofI ((X.length : Int) + 1))).2.1).p), iw (((onext S (ofI ((X.length : Int) + 1))).2.1).q), sw (((onext S (ofI ((X.length : Int) + 1))).2.1).str), iw (((onext S (ofI ((X.length : Int) + 1))).2.1).ref)]) ?_
      refine hp_ 14 [3, 3, 3, 3] (.bool ((onext S (ofI ((X.length : Int) + 1))).2.2.1)) ?_
      refine hp_ 15 [3, 3, 3, 3] (iw ((onext S (ofI ((X.length : Int) + 1))).2.2.2)) ?_
      refine h_stepS 18 ?_
      refine s_store 1 #[iw (((onext S (ofI ((X.length : Int) + 1))).1).kind), iw (((onext S (ofI ((X.length : Int) + 1))).1).p), iw (((onext S (ofI ((X.length : Int) + 1))).1).q), sw (((onext S (ofI ((X.length : Int) + 1))).1).str), iw (((onext S (ofI ((X.length : Int) + 1))).1).ref)] ?_
      refine s_nil (xs_held [3, 3, 3, 3] ?_)
      refine h_stepS 19 ?_
      refine s_store 2 #[iw (((onext S (ofI ((X.length : Int) + 1))).2.1).kind), iw (((onext S (ofI ((X.length : Int) + 1))).2.1).p), iw (((onext S (ofI ((X.length : Int) + 1))).2.1).q), sw (((onext S (ofI ((X.length : Int) + 1))).2.1).str), iw (((onext S (ofI ((X.length : Int) + 1))).2.1).ref)] ?_
      refine s_nil (xs_held [3, 3, 3, 3] ?_)
      refine hp_ 20 [3, 3, 3, 3] (.bool ((onext S (ofI ((X.length : Int) + 1))).2.2.1)) ?_
      refine hp_ 21 [3, 3, 3, 3] (iw ((onext S (ofI ((X.length : Int) + 1))).2.2.2)) ?_
      refine h_doneS ?_
      exact xcut () (fun _ h => h.re [3, 3, 3, 0, 2] [5, 5])
   ·
    refine s_alloc (.agg zc) zc (fun g22 => ?_)
    refine s_nil (xs_held [1, 1, 1, 2] ?_)
    refine h_stepS2 9 17 ?_ ?_
    ·
     refine s_vcall (fun _ h => ofint_s (L2.length : Int)) ?_
     rintro u24 e23
     obtain rfl : u24 = (ofI ((X.length : Int) + 1)).v := by rw [e23, show (L2.length : Int) = (X.length : Int) + 1 by omega]
     refine s_nil (xs_held [1, 1, 1, 2] ?_)
     refine h_stepS2 10 17 ?_ ?_
     ·
      refine s_call [4] (omnext_s (S := S) (by (try simp only [lnm]); omega) (ofI ((X.length : Int) + 1))) ?_
      rintro _ _ ⟨rfl, rfl⟩
      refine s_nil (xs_held [2, 2, 2, 2] ?_)
      refine hp_ 11 [2, 2, 2, 2] (.tuple #[.agg #[iw (((onext S (ofI ((X.length : Int) + 1))).1).kind), iw (((onext S (ofI ((X.length : Int) + 1))).1).p), iw (((onext S (ofI ((X.length : Int) + 1))).1).q), sw (((onext S (ofI ((X.length : Int) + 1))).1).str), iw (((onext S (ofI ((X.length : Int) + 1))).1).ref)], .agg #[iw (((onext S (ofI ((X.length : Int) + 1))).2.1).kind), iw (((onext S (ofI ((X.length : Int) + 1))).2.1).p), iw (((onext S (ofI ((X.length : Int) + 1))).2.1).q), sw (((onext S (ofI ((X.length : Int) + 1))).2.1).str), iw (((onext S (ofI ((X.length : Int) + 1))).2.1).ref)], .bool ((onext S (ofI ((X.length : Int) + 1))).2.2.1), iw ((onext S (ofI ((X.length : Int) + 1))).2.2.2)]) ?_
      refine hp_ 12 [2, 2, 2, 2] (.agg #[iw (((onext S (ofI ((X.length : Int) + 1))).1).kind), iw (((onext S (ofI ((X.length : Int) + 1))).1).p), iw (((onext S (ofI ((X.length : Int) + 1))).1).q), sw (((onext S (ofI ((X.length : Int) + 1))).1).str), iw (((onext S (ofI ((X.length : Int) + 1))).1).ref)]) ?_
      refine hp_ 13 [2, 2, 2, 2] (.agg #[iw (((onext S (ofI ((X.length : Int) + 1))).2.1).kind), iw (((onext S (ofI ((X.length : Int) + 1))).2.1).p), iw (((onext S (ofI ((X.length : Int) + 1))).2.1).q), sw (((onext S (ofI ((X.length : Int) + 1))).2.1).str), iw (((onext S (ofI ((X.length : Int) + 1))).2.1).ref)]) ?_
      refine hp_ 14 [2, 2, 2, 2] (.bool ((onext S (ofI ((X.length : Int) + 1))).2.2.1)) ?_
      refine hp_ 15 [2, 2, 2, 2] (iw ((onext S (ofI ((X.length : Int) + 1))).2.2.2)) ?_
      refine h_stepS 17 ?_
      refine s_alloc (.agg zc) zc (fun g25 => ?_)
      refine s_nil (xs_held [3, 3, 3, 3] ?_)
      refine h_stepS 18 ?_
      refine s_store 2 #[iw (((onext S (ofI ((X.length : Int) + 1))).1).kind), iw (((onext S (ofI ((X.length : Int) + 1))).1).p), iw (((onext S (ofI ((X.length : Int) + 1))).1).q), sw (((onext S (ofI ((X.length : Int) + 1))).1).str), iw (((onext S (ofI ((X.length : Int) + 1))).1).ref)] ?_
      refine s_nil (xs_held [3, 3, 3, 3] ?_)
      refine h_stepS 19 ?_
      refine s_store 0 #[iw (((onext S (ofI ((X.length : Int) + 1))).2.1).kind), iw (((onext S (ofI ((X.length : Int) + 1))).2.1).p), iw (((onext S (ofI ((X.length : Int) + 1))).2.1).q), sw (((onext S (ofI ((X.length : Int) + 1))).2.1).str), iw (((onext S (ofI ((X.length : Int) + 1))).2.1).ref)] ?_
      refine s_nil (xs_held [3, 3, 3, 3] ?_)
      refine hp_ 20 [3, 3, 3, 3] (.bool ((onext S (ofI ((X.length : Int) + 1))).2.2.1)) ?_
      refine hp_ 21 [3, 3, 3, 3] (iw ((onext S (ofI ((X.length : Int) + 1))).2.2.2)) ?_
      refine h_doneS ?_
      exact xcut () (fun _ h => h.re [3, 3, 3, 1, 2] [5, 5])
     ·
      refine s_alloc (.agg zc) zc (fun g26 => ?_)
      refine s_nil (xs_held [2, 2, 2, 3] ?_)
      refine h_stepS 10 ?_
      refine s_call [5] (omnext_s (S := S) (by (try simp only [lnm]); omega) (ofI ((X.length : Int) + 1))) ?_
      rintro _ _ ⟨rfl, rfl⟩
      refine s_nil (xs_held [3, 3, 3, 3] ?_)
      refine hp_ 11 [3, 3, 3, 3] (.tuple #[.agg #[iw (((onext S (ofI ((X.length : Int) + 1))).1).kind), iw (((onext S (ofI ((X.length : Int) + 1))).1).p), iw (((onext S (ofI ((X.length : Int) + 1))).1).q), sw (((onext S (ofI ((X.length : Int) + 1))).1).str), iw (((onext S (ofI ((X.length : Int) + 1))).1).ref)], .agg #[iw (((onext S (ofI ((X.length : Int) + 1))).2.1).kind), iw (((onext S (ofI ((X.length : Int) + 1))).2.1).p), iw (((onext S (ofI ((X.length : Int) + 1))).2.1).q), sw (((onext S (ofI ((X.length : Int) + 1))).2.1).str), iw (((onext S (ofI ((X.length : Int) + 1))).2.1).ref)], .bool ((onext S (ofI ((X.length : Int) + 1))).2.2.1), iw ((onext S (ofI ((X.length : Int) + 1))).2.2.2)]) ?_
      refine hp_ 12 [3, 3, 3, 3] (.agg #[iw (((onext S (ofI ((X.length : Int) + 1))).1).kind), iw (((onext S (ofI ((X.length : Int) + 1))).1).p), iw (((onext S (ofI ((X.length : Int) + 1))).1).q), sw (((onext S (ofI ((X.length : Int) + 1))).1).str), iw (((onext S (ofI ((X.length : Int) + 1))).1).ref)]) ?_
      refine hp_ 13 [3, 3, 3, 3] (.agg #[iw (((onext S (ofI ((X.length : Int) + 1))).2.1).kind), iw (((onext S (ofI ((X.length : Int) + 1))).2.1).p), iw (((onext S (ofI ((X.length : Int) + 1))).2.1).q), sw (((onext S (ofI ((X.length : Int) + 1))).2.1).str), iw (((onext S (ofI ((X.length : Int) + 1))).2.1).ref)]) ?_
      refine hp_ 14 [3, 3, 3, 3] (.bool ((onext S (ofI ((X.length : Int) + 1))).2.2.1)) ?_
      refine hp_ 15 [3, 3, 3, 3] (iw ((onext S (ofI ((X.length : Int) + 1))).2.2.2)) ?_
      refine h_stepS 18 ?_
      refine s_store 2 #[iw (((onext S (ofI ((X.length : Int) + 1))).1).kind), iw (((onext S (ofI ((X.length : Int) + 1))).1).p), iw (((onext S (ofI ((X.length : Int) + 1))).1).q), sw (((onext S (ofI ((X.length : Int) + 1))).1).str), iw (((onext S (ofI ((X.length : Int) + 1))).1).ref)] ?_
      refine s_nil (xs_held [3, 3, 3, 3] ?_)
      refine h_stepS 19 ?_
      refine s_store 1 #[iw (((onext S (ofI ((X.length : Int) + 1))).2.1).kind), iw (((onext S (ofI ((X.length : Int) + 1))).2.1).p), iw (((onext S (ofI ((X.length : Int) + 1))).2.1).q), sw (((onext S (ofI ((X.length : Int) + 1))).2.1).str), iw (((onext S (ofI ((X.length : Int) + 1))).2.1).ref)] ?_
      refine s_nil (xs_held [3, 3, 3, 3] ?_)
      refine hp_ 20 [3, 3, 3, 3] (.bool ((onext S (ofI ((X.length : Int) + 1))).2.2.1)) ?_
      refine hp_ 21 [3, 3, 3, 3] (iw ((onext S (ofI ((X.length : Int) + 1))).2.2.2)) ?_
      refine h_doneS ?_
      exact xcut () (fun _ h => h.re [3, 3, 3, 0, 2] [5, 5])
    ·
     refine s_alloc (.agg zc) zc (fun g27 => ?_)
     refine s_nil (xs_held [2, 2, 2, 3] ?_)
     refine h_stepS 9 ?_
     refine s_vcall (fun _ h => ofint_s (L2.length : Int)) ?_
     rintro u29 e28
     obtain rfl : u29 = (ofI ((X.length : Int) + 1)).v := by rw [e28, show (L2.length : Int) = (X.length : Int) + 1 by omega]
     refine s_nil (xs_held [2, 2, 2, 3] ?_)
     refine h_stepS 10 ?_
     refine s_call [5] (omnext_s (S := S) (by (try simp only [lnm]); omega) (ofI ((X.length : Int) + 1))) ?_
     rintro _ _ ⟨rfl, rfl⟩
     refine s_nil (xs_held [3, 3, 3, 3] ?_)
     refine hp_ 11 [3, 3, 3, 3] (.tuple #[.agg #[iw (((onext S (ofI ((X.length : Int) + 1))).1).kind), iw (((onext S (ofI ((X.length : Int) + 1))).1).p), iw (((onext S (ofI ((X.length : Int) + 1))).1).q), sw (((onext S (ofI ((X.length : Int) + 1))).1).str), iw (((onext S (ofI ((X.length : Int) + 1))).1).ref)], .agg #[iw (((onext S (ofI ((X.length : Int) + 1))).2.1).kind), iw (((onext S (ofI ((X.length : Int) + 1))).2.1).p), iw (((onext S (ofI ((X.length : Int) + 1))).2.1).q), sw (((onext S (ofI ((X.length : Int) + 1))).2.1).str), iw (((onext S (ofI ((X.length : Int) + 1))).2.1).ref)], .bool ((onext S (ofI ((X.length : Int) + 1))).2.2.1), iw ((onext S (ofI ((X.length : Int) + 1))).2.2.2)]) ?_
     refine hp_ 12 [3, 3, 3, 3] (.agg #[iw (((onext S (ofI ((X.length : Int) + 1))).1).kind), iw (((onext S (ofI ((X.length : Int) + 1))).1).p), iw (((onext S (ofI ((X.length : Int) + 1))).1).q), sw (((onext S (ofI ((X.length : Int) + 1))).1).str), iw (((onext S (ofI ((X.length : Int) + 1))).1).ref)]) ?_
     refine hp_ 13 [3, 3, 3, 3] (.agg #[iw (((onext S (ofI ((X.length : Int) + 1))).2.1).kind), iw (((onext S (ofI ((X.length : Int) + 1))).2.1).p), iw (((onext S (ofI ((X.length : Int) + 1))).2.1).q), sw (((onext S (ofI ((X.length : Int) + 1))).2.1).str), iw (((onext S (ofI ((X.length : Int) + 1))).2.1).ref)]) ?_
     refine hp_ 14 [3, 3, 3, 3] (.bool ((onext S (ofI ((X.length : Int) + 1))).2.2.1)) ?_
     refine hp_ 15 [3, 3, 3, 3] (iw ((onext S (ofI ((X.length : Int) + 1))).2.2.2)) ?_
     refine h_stepS 18 ?_
     refine s_store 2 #[iw (((onext S (ofI ((X.length : Int) + 1))).1).kind), iw (((onext S (ofI ((X.length : Int) + 1))).1).p), iw (((onext S (ofI ((X.length : Int) + 1))).1).q), sw (((onext S (ofI ((X.length : Int) + 1))).1).str), iw (((onext S (ofI ((X.length : Int) + 1))).1).ref)] ?_
     refine s_nil (xs_held [3, 3, 3, 3] ?_)
     refine h_stepS 19 ?_
     refine s_store 1 #[iw (((onext S (ofI ((X.length : Int) + 1))).2.1).kind), iw (((onext S (ofI ((X.length : Int) + 1))).2.1).p), iw (((onext S (ofI ((X.length : Int) + 1))).2.1).q), sw (((onext S (ofI ((X.length : Int) + 1))).2.1).str), iw (((onext S (ofI ((X.length : Int) + 1))).2.1).ref)] ?_
     refine s_nil (xs_held [3, 3, 3, 3] ?_)
     refine hp_ 20 [3, 3, 3, 3] (.bool ((onext S (ofI ((X.length : Int) + 1))).2.2.1)) ?_
     refine hp_ 21 [3, 3, 3, 3] (iw ((onext S (ofI ((X.length : Int) + 1))).2.2.2)) ?_
     refine h_doneS ?_
     exact xcut () (fun _ h => h.re [3, 3, 3, 0, 2] [5, 5])
   ·
    refine s_alloc (.agg zc) zc (fun g30 => ?_)
    refine s_nil (xs_held [1, 1, 1, 2] ?_)
    refine h_stepS2 9 16 ?_ ?_
    ·
     refine s_vcall (fun _ h => ofint_s (L2.length : Int)) ?_
     rintro u32 e31
     obtain rfl : u32 = (ofI ((X.length : Int) + 1)).v := by rw [e31, show (L2.length : Int) = (X.length : Int) + 1 by omega]
     refine s_nil (xs_held [1, 1, 1, 2] ?_)
     refine h_stepS2 10 16 ?_ ?_
     ·
      refine s_call [4] (omnext_s (S := S) (by (try simp only [lnm]); omega) (ofI ((X.length : Int) + 1))) ?_
      rintro _ _ ⟨rfl, rfl⟩
      refine s_nil (xs_held [2, 2, 2, 2] ?_)
      refine hp_ 11 [2, 2, 2, 2] (.tuple #[.agg #[iw (((onext S (ofI ((X.length : Int) + 1))).1).kind), iw (((onext S (ofI ((X.length : Int) + 1))).1).p), iw (((onext S (ofI ((X.length : Int) + 1))).1).q), sw (((onext S (ofI ((X.length : Int) + 1))).1).str), iw (((onext S (ofI ((X.length : Int) + 1))).1).ref)], .agg #[iw (((onext S (ofI ((X.length : Int) + 1))).2.1).kind), iw (((onext S (ofI ((X.length : Int) + 1))).2.1).p), iw (((onext S (ofI ((X.length : Int) + 1))).2.1).q), sw (((onext S (ofI ((X.length : Int) + 1))).2.1).str), iw (((onext S (ofI ((X.length : Int) + 1))).2.1).ref)], .bool ((onext S (ofI ((X.length : Int) + 1))).2.2.1), iw ((onext S (ofI ((X.length : Int) + 1))).2.2.2)]) ?_
      refine hp_ 12 [2, 2, 2, 2] (.agg #[iw (((onext S (ofI ((X.length : Int) + 1))).1).kind), iw (((onext S (ofI ((X.length : Int) + 1))).1).p), iw (((onext S (ofI ((X.length : Int) + 1))).1).q), sw (((onext S (ofI ((X.length : Int) + 1))).1).str), iw (((onext S (ofI ((X.length : Int) + 1))).1).ref)]) ?_
      refine hp_ 13 [2, 2, 2, 2] (.agg #[iw (((onext S (ofI ((X.length : Int) + 1))).2.1).kind), iw (((onext S (ofI ((X.length : Int) + 1))).2.1).p), iw (((onext S (ofI ((X.length : Int) + 1))).2.1).q), sw (((onext S (ofI ((X.length : Int) + 1))).2.1).str), iw (((onext S (ofI ((X.length : Int) + 1))).2.1).ref)]) ?_
      refine hp_ 14 [2, 2, 2, 2] (.bool ((onext S (ofI ((X.length : Int) + 1))).2.2.1)) ?_
      refine hp_ 15 [2, 2, 2, 2] (iw ((onext S (ofI ((X.length : Int) + 1))).2.2.2)) ?_
      refine h_stepS 16 ?_
      refine s_alloc (.agg zc) zc (fun g33 => ?_)
      refine s_nil (xs_held [3, 3, 3, 3] ?_)
      refine h_stepS 18 ?_
      refine s_store 0 #[iw (((onext S (ofI ((X.length : Int) + 1))).1).kind), iw (((onext S (ofI ((X.length : Int) + 1))).1).p), iw (((onext S (ofI ((X.length : Int) + 1))).1).q), sw (((onext S (ofI ((X.length : Int) + 1))).1).str), iw (((onext S (ofI ((X.length : Int) + 1))).1).ref)] ?_
      refine s_nil (xs_held [3, 3, 3, 3] ?_)
      refine h_stepS 19 ?_
      refine s_store 2 #[iw (((onext S (ofI ((X.length : Int) + 1))).2.1).kind), iw (((onext S (ofI ((X.length : Int) + 1))).2.1).p), iw (((onext S (ofI ((X.length : Int) + 1))).2.1).q), sw (((onext S (ofI ((X.length : Int) + 1))).2.1).str), iw (((onext S (ofI ((X.length : Int) + 1))).2.1).ref)] ?_
      refine s_nil (xs_held [3, 3, 3, 3] ?_)
      refine hp_ 20 [3, 3, 3, 3] (.bool ((onext S (ofI ((X.length : Int) + 1))).2.2.1)) ?_
      refine hp_ 21 [3, 3, 3, 3] (iw ((onext S (ofI ((X.length : Int) + 1))).2.2.2)) ?_
      refine h_doneS ?_
      exact xcut () (fun _ h => h.re [3, 3, 3, 1, 2] [5, 5])
     ·
      refine s_alloc (.agg zc) zc (fun g34 => ?_)
      refine s_nil (xs_held [2, 2, 2, 3] ?_)
      refine h_stepS 10 ?_
      refine s_call [5] (omnext_s (S := S) (by (try simp only [lnm]); omega) (ofI ((X.length : Int) + 1))) ?_
      rintro _ _ ⟨rfl, rfl⟩
      refine s_nil (xs_held [3, 3, 3, 3] ?_)
      refine hp_ 11 [3, 3, 3, 3] (.tuple #[.agg #[iw (((onext S (ofI ((X.length : Int) + 1))).1).kind), iw (((onext S (ofI ((X.length : Int) + 1))).1).p), iw (((onext S (ofI ((X.length : Int) + 1))).1).q), sw (((onext S (ofI ((X.length : Int) + 1))).1).str), iw (((onext S (ofI ((X.length : Int) + 1))).1).ref)], .agg #[iw (((onext S (ofI ((X.length : Int) + 1))).2.1).kind), iw (((onext S (ofI ((X.length : Int) + 1))).2.1).p), iw (((onext S (ofI ((X.length : Int) + 1))).2.1).q), sw (((onext S (ofI ((X.length : Int) + 1))).2.1).str), iw (((onext S (ofI ((X.length : Int) + 1))).2.1).ref)], .bool ((onext S (ofI ((X.length : Int) + 1))).2.2.1), iw ((onext S (ofI ((X.length : Int) + 1))).2.2.2)]) ?_
      refine hp_ 12 [3, 3, 3, 3] (.agg #[iw (((onext S (ofI ((X.length : Int) + 1))).1).kind), iw (((onext S (ofI ((X.length : Int) + 1))).1).p), iw (((onext S (ofI ((X.length : Int) + 1))).1).q), sw (((onext S (ofI ((X.length : Int) + 1))).1).str), iw (((onext S (ofI ((X.length : Int) + 1))).1).ref)]) ?_
      refine hp_ 13 [3, 3, 3, 3] (.agg #[iw (((onext S (ofI ((X.length : Int) + 1))).2.1).kind), iw (((onext S (ofI ((X.length : Int) + 1))).2.1).p), iw (((onext S (ofI ((X.length : Int) + 1))).2.1).q), sw (((onext S (ofI ((X.length : Int) + 1))).2.1).str), iw (((onext S (ofI ((X.length : Int) + 1))).2.1).ref)]) ?_
      refine hp_ 14 [3, 3, 3, 3] (.bool ((onext S (ofI ((X.length : Int) + 1))).2.2.1)) ?_
      refine hp_ 15 [3, 3, 3, 3] (iw ((onext S (ofI ((X.length : Int) + 1))).2.2.2)) ?_
      refine h_stepS 18 ?_
      refine s_store 1 #[iw (((onext S (ofI ((X.length : Int) + 1))).1).kind), iw (((onext S (ofI ((X.length : Int) + 1))).1).p), iw (((onext S (ofI ((X.length : Int) + 1))).1).q), sw (((onext S (ofI ((X.length : Int) + 1))).1).str), iw (((onext S (ofI ((X.length : Int) + 1))).1).ref)] ?_
      refine s_nil (xs_held [3, 3, 3, 3] ?_)
      refine h_stepS 19 ?_
      refine s_store 2 #[iw (((onext S (ofI ((X.length : Int) + 1))).2.1).kind), iw (((onext S (ofI ((X.length : Int) + 1))).2.1).p), iw (((onext S (ofI ((X.length : Int) + 1))).2.1).q), sw (((onext S (ofI ((X.length : Int) + 1))).2.1).str), iw (((onext S (ofI ((X.length : Int) + 1))).2.1).ref)] ?_
      refine s_nil (xs_held [3, 3, 3, 3] ?_)
      refine hp_ 20 [3, 3, 3, 3] (.bool ((onext S (ofI ((X.length : Int) + 1))).2.2.1)) ?_
      refine hp_ 21 [3, 3, 3, 3] (iw ((onext S (ofI ((X.length : Int) + 1))).2.2.2)) ?_
      refine h_doneS ?_
      exact xcut () (fun _ h => h.re [3, 3, 3, 0, 2] [5, 5])
    ·
     refine s_alloc (.agg zc) zc (fun g35 => ?_)
     refine s_nil (xs_held [2, 2, 2, 3] ?_)
     refine h_stepS 9 ?_
     refine s_vcall (fun _ h => ofint_s (L2.length : Int)) ?_
     rintro u37 e36
     obtain rfl : u37 = (ofI ((X.length : Int) + 1)).v := by rw [e36, show (L2.length : Int) = (X.length : Int) + 1 by omega]
     refine s_nil (xs_held [2, 2, 2, 3] ?_)
     refine h_stepS 10 ?_
     refine s_call [5] (omnext_s (S := S) (by (try simp only [lnm]); omega) (ofI ((X.length : Int) + 1))) ?_
     rintro _ _ ⟨rfl, rfl⟩
     refine s_nil (xs_held [3, 3, 3, 3] ?_)
     refine hp_ 11 [3, 3, 3, 3] (.tuple #[.agg #[iw (((onext S (ofI ((X.length : Int) + 1))).1).kind), iw (((onext S (ofI ((X.length : Int) + 1))).1).p), iw (((onext S (ofI ((X.length : Int) + 1))).1).q), sw (((onext S (ofI ((X.length : Int) + 1))).1).str), iw (((onext S (ofI ((X.length : Int) + 1))).1).ref)], .agg #[iw (((onext S (ofI ((X.length : Int) + 1))).2.1).kind), iw (((onext S (ofI ((X.length : Int) + 1))).2.1).p), iw (((onext S (ofI ((X.length : Int) + 1))).2.1).q), sw (((onext S (ofI ((X.length : Int) + 1))).2.1).str), iw (((onext S (ofI ((X.length : Int) + 1))).2.1).ref)], .bool ((onext S (ofI ((X.length : Int) + 1))).2.2.1), iw ((onext S (ofI ((X.length : Int) + 1))).2.2.2)]) ?_
     refine hp_ 12 [3, 3, 3, 3] (.agg #[iw (((onext S (ofI ((X.length : Int) + 1))).1).kind), iw (((onext S (ofI ((X.length : Int) + 1))).1).p), iw (((onext S (ofI ((X.length : Int) + 1))).1).q), sw (((onext S (ofI ((X.length : Int) + 1))).1).str), iw (((onext S (ofI ((X.length : Int) + 1))).1).ref)]) ?_
     refine hp_ 13 [3, 3, 3, 3] (.agg #[iw (((onext S (ofI ((X.length : Int) + 1))).2.1).kind), iw (((onext S (ofI ((X.length : Int) + 1))).2.1).p), iw (((onext S (ofI ((X.length : Int) + 1))).2.1).q), sw (((onext S (ofI ((X.length : Int) + 1))).2.1).str), iw (((onext S (ofI ((X.length : Int) + 1))).2.1).ref)]) ?_
     refine hp_ 14 [3, 3, 3, 3] (.bool ((onext S (ofI ((X.length : Int) + 1))).2.2.1)) ?_
     refine hp_ 15 [3, 3, 3, 3] (iw ((onext S (ofI ((X.length : Int) + 1))).2.2.2)) ?_
     refine h_stepS 18 ?_
     refine s_store 1 #[iw (((onext S (ofI ((X.length : Int) + 1))).1).kind), iw (((onext S (ofI ((X.length : Int) + 1))).1).p), iw (((onext S (ofI ((X.length : Int) + 1))).1).q), sw (((onext S (ofI ((X.length : Int) + 1))).1).str), iw (((onext S (ofI ((X.length : Int) + 1))).1).ref)] ?_
     refine s_nil (xs_held [3, 3, 3, 3] ?_)
     refine h_stepS 19 ?_
     refine s_store 2 #[iw (((onext S (ofI ((X.length : Int) + 1))).2.1).kind), iw (((onext S (ofI ((X.length : Int) + 1))).2.1).p), iw (((onext S (ofI ((X.length : Int) + 1))).2.1).q), sw (((onext S (ofI ((X.length : Int) + 1))).2.1).str), iw (((onext S (ofI ((X.length : Int) + 1))).2.1).ref)] ?_
     refine s_nil (xs_held [3, 3, 3, 3] ?_)
     refine hp_ 20 [3, 3, 3, 3] (.bool ((onext S (ofI ((X.length : Int) + 1))).2.2.1)) ?_
     refine hp_ 21 [3, 3, 3, 3] (iw ((onext S (ofI ((X.length : Int) + 1))).2.2.2)) ?_
     refine h_doneS ?_
     exact xcut () (fun _ h => h.re [3, 3, 3, 0, 2] [5, 5])
  ·
   refine k_cut (ι := Unit) (fun _ => True) (fun _ => [(0, pB b 0), (3, pB g1 0), (4, .bool ((staleB S L.length X.length) || (decide ((onext S (ofI ((X.length : Int) + 1))).2.2.2 = 0))))]) (fun _ => blkA g7 (vc x) 71 :: blkA b #[v8, pB r3 0] 185 :: own VlT v8 L2 :: omA r3 S :: blkA g1 (vc x) 71 :: F) ?_ (fun _ _ => ?_)
   ·
    refine k_reg ?_
    refine sp (.bool (staleB S L.length X.length)) ?_
    refine sp (.bool (staleB S L.length X.length)) ?_
    refine s_fork 44 (staleB S L.length X.length) (fun c38 => ?_) (fun c38 => ?_)
    ·
     refine s_skip ?_
     refine s_skip ?_
     refine sp (.bool true) ?_
     refine sp (.bool true) ?_
     refine s_nil ?_
     exact xs_cut () trivial (sub_of rfl ⟨⟨rfl, rfl⟩, ⟨⟨rfl, rfl⟩, ⟨⟨rfl, show Value.bool true = Value.bool ((staleB S L.length X.length) || (decide ((onext S (ofI ((X.length : Int) + 1))).2.2.2 = 0))) by first | (simp only [c38, bls]; done) | simp [c38]⟩, trivial⟩⟩⟩) (fun _ h => h.re [0, 0, 0, 0, 0] [])
    ·
     refine sp (iw ((onext S (ofI ((X.length : Int) + 1))).2.2.2)) ?_
     refine s_lt t_cmp ?_
     refine sp (.bool (decide ((onext S (ofI ((X.length : Int) + 1))).2.2.2 = 0))) ?_
     refine sp (.bool (decide ((onext S (ofI ((X.length : Int) + 1))).2.2.2 = 0))) ?_
     refine s_nil ?_
     exact xs_cut () trivial (sub_of rfl ⟨⟨rfl, rfl⟩, ⟨⟨rfl, rfl⟩, ⟨⟨rfl, show Value.bool (decide ((onext S (ofI ((X.length : Int) + 1))).2.2.2 = 0)) = Value.bool ((staleB S L.length X.length) || (decide ((onext S (ofI ((X.length : Int) + 1))).2.2.2 = 0))) by first | (simp only [c38, bls]; done) | simp [c38]⟩, trivial⟩⟩⟩) (fun _ h => h.re [0, 0, 0, 0, 0] [])
   ·
    refine k_held [blkA g7 (vc x) 71, blkA b #[v8, pB r3 0] 185, own VlT v8 L2] ?_
    refine hp_ 0 [0, 0, 0] (pB b 0) ?_
    refine hp_ 1 [0, 0, 0] (pB b 0) ?_
    refine hp_ 2 [0, 0, 0] (pB b 1) ?_
    refine h_l 3 rfl [0, 0, 0] (fun _ => (t_load 1 (pB r3 0))) ?_
    refine hp_ 4 [0, 0, 0] (pB b 0) ?_
    refine hp_ 5 [0, 0, 0] (pB b 0) ?_
    refine hp_ 6 [0, 0, 0] (pB b 0) ?_
    refine h_l 7 rfl [0, 0, 0] (fun _ => (t_load 1 v8)) ?_
    refine h_l 8 rfl [0, 0, 0] (fun _ => (t_len VlT_ok Tryz.underlying28 (.own 2))) ?_
    refine h_l 9 rfl [0, 0, 0] (fun _ => (Lt.to (v' := iw ((X.length : Int) + 2)) (t_add (L2.length : Int) 1 (by omega)) (congrArg (Value.int .i64) (by omega)))) ?_
    refine h_stepS 10 ?_
    refine s_vcall (fun _ h => ofint_s ((X.length : Int) + 2)) ?_
    rintro _ rfl
    refine s_nil (xs_held [0, 0, 0] ?_)
    refine h_stepS 11 ?_
    refine s_call [3] (omget_s (S := S) (ofI ((X.length : Int) + 2))) ?_
    rintro _ _ ⟨rfl, rfl⟩
    refine s_nil (xs_held [1, 1, 1] ?_)
    refine h_stepS 12 ?_
    refine s_store 4 (vc (oget S (ofI ((X.length : Int) + 2)))) ?_
    refine s_nil (xs_held [1, 1, 1] ?_)
    refine h_doneS ?_
    refine xs_block ?_
    have hst : ((staleB S L.length X.length) || (decide ((onext S (ofI ((X.length : Int) + 1))).2.2.2 = 0))) = staleB S L.length L2.length := by rw [ll2, ← stale_step S hi4.2.2.1]
    rw [hst]
    exact xs_round (v8, L2, (oget S (ofI ((X.length : Int) + 2))), f - 1) (by show mu S _ _ < mu S _ _; rw [ll2]; exact mu_lt hinv0 hx0) (by show grow S (S.length + 2) L v = _ ∧ _; exact ⟨by rw [hg2, hL2], by rw [ll2]; have := mu_lt hinv0 (n := X.length) hx0; omega, by omega, by rw [ll2]; have := mu_lt hinv0 (n := X.length) hx0; omega⟩) (sub_of rfl ⟨⟨rfl, rfl⟩, ⟨⟨rfl, rfl⟩, ⟨⟨rfl, rfl⟩, trivial⟩⟩⟩) (fun _ h => h.re [2, 2, 0, 1] [4])
 ·
  have p39 := Decidable.not_not.1 (of_decide_eq_false c5)
  have hx0 : x.kind = 0 := Decidable.not_not.1 (of_decide_eq_false c5)
  have hgr : grow S (S.length + 2) L v = X := by rw [hi4.1]; exact grow_stop S X hx0
  refine k_exit ?_
  refine xs_exit ?_
  refine xs_exit ?_
  refine xs_here ?_
  refine xs_then <| k_seq <| k_sr <| sp (.bool (staleB S L.length X.length)) ?_
  refine sp (.bool (!(staleB S L.length X.length))) ?_
  refine s_nt <| k_cond (!(staleB S L.length X.length)) (fun c40 => ?_) (fun c40 => ?_)
  ·
   have c41 := not_t c40
   refine k_ret <| xs_ret <| xs_mem (fun _ h => tb_shut (h.re [0, 0, 0] [])) ?_
   have hT : tadd ⟨L, S⟩ v = ⟨X, S⟩ := by rw [tadd_eq hgr, if_neg (by rw [c41]; decide)]
   refine xs_fin [] (tbA b X S :: F) SI.nil (fun _ h => h.re [0] [1]) ⟨rfl, ?_⟩
   rw [hT]
  ·
   have c42 := not_f c40
   refine k_st <| k_sr <| s_pcall (fun _ h => omnew_s) ?_
   rintro _ _ ⟨r43, rfl, rfl⟩
   refine sp (pB r43 0) ?_
   refine s_nt <| k_seq <| k_sr <| sp (pB b 0) ?_
   refine sp (pB b 0) ?_
   refine sp (pB b 1) ?_
   refine s_lt (t_load 1 (pB r3 0)) ?_
   refine s_call [3] (omkeys_s (S := S) (by (try simp only [lnm]); omega)) ?_
   rintro v44 _ rfl
   refine s_fact (fun H h => ((Acc.own (T := VlT) (L := (okeys S)) 0 rfl) H h).form) (fun hf45 => ?_)
   refine s_lt (t_len VlT_ok Tryz.underlying28 (.own 0)) ?_
   refine sp (iw 0) ?_
   refine s_nt <| k_block ?_
   refine k_loop (ι := Nat) (fun i => i ≤ (okeys S).length) (fun i => [(0, pB b 0), (9, pB r43 0), (67, v44), (68, iw ((okeys S).length : Int)), (69, iw (i : Int))]) (fun i => own VlT v44 (okeys S) :: omA r3 S :: omA r43 (purgeS S X.length i) :: blkA b #[lx, pB r3 0] 185 :: own VlT lx X :: blkA g1 (vc x) 71 :: F) (fun i => (okeys S).length - i) 0 (Nat.zero_le _) (sub_of rfl ⟨⟨rfl, rfl⟩, ⟨⟨rfl, rfl⟩, ⟨⟨rfl, rfl⟩, ⟨⟨rfl, rfl⟩, ⟨⟨rfl, rfl⟩, trivial⟩⟩⟩⟩⟩) (fun _ h => h.re [0, 0, 0, 0, 0, 0] []) ?_
   rintro i hi46
   show SK _ _ _ _ _ [(0, .pointer (some ⟨b, 0, none⟩)), (9, .pointer (some ⟨r43, 0, none⟩)), (67, v44), (68, iw ((okeys S).length : Int)), (69, iw (i : Int))] _ (own VlT v44 (okeys S) :: omA r3 S :: omA r43 (purgeS S X.length i) :: blkA b #[lx, .pointer (some ⟨r3, 0, none⟩)] 185 :: own VlT lx X :: blkA g1 (vc x) 71 :: F)
   have hpl := purgeS_len S X.length i
   refine k_sr <| s_lt t_cmp ?_
   refine s_nt <| k_seq <| k_cond (decide ((i : Int) < ((okeys S).length : Int))) (fun c47 => ?_) (fun c47 => ?_)
   ·
    have p48 := of_decide_eq_true c47
    refine k_st <| k_seq <| k_block ?_
    refine k_sr <| s_lt (t_index VlT_ok Tryz.underlying28 (.own 0) (i : Int) i (by omega) (by (try simp only [lnm]); omega) (by omega)) ?_
    obtain ⟨y49, hy50⟩ : ∃ y, (okeys S)[i]? = some y := ⟨_, List.getElem?_eq_getElem (by (try simp only [lnm]); omega)⟩
    obtain ⟨s51, hs52, rfl⟩ := okeys_get hy50
    refine s_lt (t_loadE VlT_ok (.own 0) hy50) ?_
    refine s_alloc (.agg zc) zc (fun g53 => ?_)
    refine s_store 0 (vc s51.key) ?_
    refine s_nr ?_
    refine s_lt (t_loadA 0 (vc s51.key)) ?_
    refine s_vcall (fun _ h => integer_s s51.key) ?_
    rintro u54 e55
    rcases int_cases s51.key with ⟨hi56, hp57, hv58⟩ | ⟨hi59, hw60⟩
    ·
     rw [hi56, hp57] at e55; subst e55
     refine sp (.tuple #[iw (whole s51.key), .bool true]) ?_
     refine sp (iw (whole s51.key)) ?_
     refine sp (.bool true) ?_
     refine sp (iw (whole s51.key)) ?_
     refine sp (.bool true) ?_
     refine s_nt <| k_cut (ι := Unit) (fun _ => True) (fun _ => [(0, pB b 0), (9, pB r43 0), (11, pB g53 0), (67, v44), (68, iw ((okeys S).length : Int)), (69, iw (i : Int)), (92, .bool ((decide ((whole s51.key) < 1)) || (decide ((X.length : Int) < (whole s51.key)))))]) (fun _ => blkA g53 (vc s51.key) 71 :: own VlT v44 (okeys S) :: omA r3 S :: omA r43 (purgeS S X.length i) :: blkA b #[lx, pB r3 0] 185 :: own VlT lx X :: blkA g1 (vc x) 71 :: F) ?_ (fun _ _ => ?_)
     ·
      refine k_reg ?_
      refine sp (.bool true) ?_
      refine sp (.bool false) ?_
      refine sp (.bool false) ?_
      refine sp (iw (whole s51.key)) ?_
      refine s_lt t_cmp ?_
      refine sp (.bool (decide ((whole s51.key) < 1))) ?_
      refine sp (.bool (decide ((whole s51.key) < 1))) ?_
      refine s_fork 84 (decide ((whole s51.key) < 1)) (fun c61 => ?_) (fun c61 => ?_)
      ·
       have p62 := of_decide_eq_true c61
       refine s_skip ?_
       refine s_skip ?_
       refine s_skip ?_
       refine s_skip ?_
       refine s_skip ?_
       refine s_skip ?_
       refine s_skip ?_
       refine sp (.bool true) ?_
       refine s_nil ?_
       exact xs_cut () trivial (sub_of rfl ⟨⟨rfl, rfl⟩, ⟨⟨rfl, rfl⟩, ⟨⟨rfl, rfl⟩, ⟨⟨rfl, rfl⟩, ⟨⟨rfl, rfl⟩, ⟨⟨rfl, rfl⟩, ⟨⟨rfl, show Value.bool true = Value.bool ((decide ((whole s51.key) < 1)) || (decide ((X.length : Int) < (whole s51.key)))) by first | (simp only [c61, bls]; done) | simp [c61]⟩, trivial⟩⟩⟩⟩⟩⟩⟩) (fun _ h => h.re [0, 0, 0, 0, 0, 0, 0] [])
      ·
       have p63 := of_decide_eq_false c61
       refine sp (iw (whole s51.key)) ?_
       refine sp (pB b 0) ?_
       refine sp (pB b 0) ?_
       refine sp (pB b 0) ?_
       refine s_lt (t_load 4 lx) ?_
       refine s_lt (t_len VlT_ok Tryz.underlying28 (.own 5)) ?_
       refine s_lt t_cmp ?_
       refine sp (.bool (decide ((X.length : Int) < (whole s51.key)))) ?_
       refine s_nil ?_
       exact xs_cut () trivial (sub_of rfl ⟨⟨rfl, rfl⟩, ⟨⟨rfl, rfl⟩, ⟨⟨rfl, rfl⟩, ⟨⟨rfl, rfl⟩, ⟨⟨rfl, rfl⟩, ⟨⟨rfl, rfl⟩, ⟨⟨rfl, show Value.bool (decide ((X.length : Int) < (whole s51.key))) = Value.bool ((decide ((whole s51.key) < 1)) || (decide ((X.length : Int) < (whole s51.key)))) by first | (simp only [c61, bls]; done) | simp [c61]⟩, trivial⟩⟩⟩⟩⟩⟩⟩) (fun _ h => h.re [0, 0, 0, 0, 0, 0, 0] [])
     ·
      refine k_cond ((decide ((whole s51.key) < 1)) || (decide ((X.length : Int) < (whole s51.key)))) (fun c64 => ?_) (fun c64 => ?_)
      ·
       have p65 := c64
       simp only [Bool.and_eq_true, Bool.or_eq_true, Bool.and_eq_false_iff, Bool.or_eq_false_iff, Bool.not_eq_true', Bool.not_eq_false', decide_eq_true_eq, decide_eq_false_iff_not] at p65
       refine k_held [blkA g53 (vc s51.key) 71, own VlT v44 (okeys S), blkA b #[lx, pB r3 0] 185, own VlT lx X, blkA g1 (vc x) 71] ?_
       refine hp_ 0 [0, 0, 2, 2, 2] (pB r43 0) ?_
       refine h_l 1 rfl [0, 0, 2, 2, 2] (fun _ => (t_loadA 0 (vc s51.key))) ?_
       refine hp_ 2 [0, 0, 2, 2, 2] (pB b 0) ?_
       refine hp_ 3 [0, 0, 2, 2, 2] (pB b 0) ?_
       refine hp_ 4 [0, 0, 2, 2, 2] (pB b 1) ?_
       refine h_l 5 rfl [0, 0, 2, 2, 2] (fun _ => (t_load 2 (pB r3 0))) ?_
       refine h_l 6 rfl [0, 0, 2, 2, 2] (fun _ => (t_loadA 0 (vc s51.key))) ?_
       refine h_stepS 7 ?_
       refine s_call [2] (omget_s (S := S) s51.key) ?_
       rintro _ _ ⟨rfl, rfl⟩
       refine s_nil (xs_held [1, 1, 2, 2, 2] ?_)
       refine h_stepS 8 ?_
       refine s_call [3] (omset_s (S := (purgeS S X.length i)) (by (try simp only [lnm]); omega) s51.key (oget S s51.key)) ?_
       rintro _ _ ⟨rfl, rfl⟩
       refine s_nil (xs_held [2, 2, 2, 2, 2] ?_)
       refine h_doneS ?_
       refine xs_block ?_
       refine xs_then <| k_reg ?_
       refine s_lt (t_add (i : Int) 1 (by (try simp only [lnm]); omega)) ?_
       refine sp (iw ((i : Int) + 1)) ?_
       refine s_nil ?_
       have hps := purge_step hinv0 (m := X.length) hs52
       have hib : inB (whole s51.key) X.length = false := inB_false (by omega)
       have hpe := hps.1 hib
       rw [hpe]
       exact xs_round (i + 1) (by omega) (by omega) (sub_of rfl ⟨⟨rfl, rfl⟩, ⟨⟨rfl, rfl⟩, ⟨⟨rfl, rfl⟩, ⟨⟨rfl, rfl⟩, ⟨⟨rfl, rfl⟩, trivial⟩⟩⟩⟩⟩) (fun _ h => h.re [3, 1, 0, 1, 1, 1] [6])
      ·
       obtain ⟨c66, c67⟩ := or_f c64
       have p68 := of_decide_eq_false c66
       have p69 := of_decide_eq_false c67
       refine k_skip ?_
       refine xs_block ?_
       refine xs_then <| k_reg ?_
       refine s_lt (t_add (i : Int) 1 (by (try simp only [lnm]); omega)) ?_
       refine sp (iw ((i : Int) + 1)) ?_
       refine s_nil ?_
       have hps := purge_step hinv0 (m := X.length) hs52
       have hib : inB (whole s51.key) X.length = true := inB_iff.2 (by omega)
       have hpe := hps.2 hib
       rw [hpe]
       exact xs_round (i + 1) (by omega) (by omega) (sub_of rfl ⟨⟨rfl, rfl⟩, ⟨⟨rfl, rfl⟩, ⟨⟨rfl, rfl⟩, ⟨⟨rfl, rfl⟩, ⟨⟨rfl, rfl⟩, trivial⟩⟩⟩⟩⟩) (fun _ h => h.re [1, 1, 1, 1, 1, 1] [6])
    ·
     rw [hi59] at e55; subst e55
     refine sp (.tuple #[iw s51.key.p, .bool false]) ?_
     refine sp (iw s51.key.p) ?_
     refine sp (.bool false) ?_
     refine sp (iw s51.key.p) ?_
     refine sp (.bool false) ?_
     refine s_nr ?_
     refine sp (.bool false) ?_
     refine sp (.bool true) ?_
     refine sp (.bool true) ?_
     refine s_skip ?_
     refine s_skip ?_
     refine sp (.bool true) ?_
     refine sp (.bool true) ?_
     refine s_skip ?_
     refine s_skip ?_
     refine s_skip ?_
     refine s_skip ?_
     refine s_skip ?_
     refine s_skip ?_
     refine s_skip ?_
     refine sp (.bool true) ?_
     refine s_nt <| k_true ?_
     refine k_held [blkA g53 (vc s51.key) 71, own VlT v44 (okeys S), blkA b #[lx, pB r3 0] 185, own VlT lx X, blkA g1 (vc x) 71] ?_
     refine hp_ 0 [0, 0, 2, 2, 2] (pB r43 0) ?_
     refine h_l 1 rfl [0, 0, 2, 2, 2] (fun _ => (t_loadA 0 (vc s51.key))) ?_
     refine hp_ 2 [0, 0, 2, 2, 2] (pB b 0) ?_
     refine hp_ 3 [0, 0, 2, 2, 2] (pB b 0) ?_
     refine hp_ 4 [0, 0, 2, 2, 2] (pB b 1) ?_
     refine h_l 5 rfl [0, 0, 2, 2, 2] (fun _ => (t_load 2 (pB r3 0))) ?_
     refine h_l 6 rfl [0, 0, 2, 2, 2] (fun _ => (t_loadA 0 (vc s51.key))) ?_
     refine h_stepS 7 ?_
     refine s_call [2] (omget_s (S := S) s51.key) ?_
     rintro _ _ ⟨rfl, rfl⟩
     refine s_nil (xs_held [1, 1, 2, 2, 2] ?_)
     refine h_stepS 8 ?_
     refine s_call [3] (omset_s (S := (purgeS S X.length i)) (by (try simp only [lnm]); omega) s51.key (oget S s51.key)) ?_
     rintro _ _ ⟨rfl, rfl⟩
     refine s_nil (xs_held [2, 2, 2, 2, 2] ?_)
     refine h_doneS ?_
     refine xs_block ?_
     refine xs_then <| k_reg ?_
     refine s_lt (t_add (i : Int) 1 (by (try simp only [lnm]); omega)) ?_
     refine sp (iw ((i : Int) + 1)) ?_
     refine s_nil ?_
     have hps := purge_step hinv0 (m := X.length) hs52
     have hib : inB (whole s51.key) X.length = false := inB_false (by omega)
     have hpe := hps.1 hib
     rw [hpe]
     exact xs_round (i + 1) (by omega) (by omega) (sub_of rfl ⟨⟨rfl, rfl⟩, ⟨⟨rfl, rfl⟩, ⟨⟨rfl, rfl⟩, ⟨⟨rfl, rfl⟩, ⟨⟨rfl, rfl⟩, trivial⟩⟩⟩⟩⟩) (fun _ h => h.re [3, 1, 0, 1, 1, 1] [6])
   ·
    have p70 := of_decide_eq_false c47
    refine k_exit ?_
    refine xs_exit ?_
    refine xs_exit ?_
    refine xs_here ?_
    refine xs_then <| k_reg ?_
    refine sp (pB b 0) ?_
    refine sp (pB r43 0) ?_
    refine sp (pB b 0) ?_
    refine sp (pB b 1) ?_
    refine s_store 3 #[lx, pB r43 0] ?_
    refine s_nil <| xs_mem (fun _ h => tb_shut (h.re [3, 3, 2] [])) ?_
    have hpe : purgeS S X.length i = purge S X.length := purge_end S X.length i (by rw [← okeys_length]; omega)
    have hT : tadd ⟨L, S⟩ v = ⟨X, purgeS S X.length i⟩ := by rw [tadd_eq hgr, if_pos c42, hpe]
    refine xs_finN [] (tbA b X (purgeS S X.length i) :: F) SI.nil (fun _ h => h.re [0] [1, 1, 1]) ⟨rfl, ?_⟩
    rw [hT]
theorem tsetE_bad {k v : Vl} (h : okKey k = false) : tsetE k v = 13 := by unfold tsetE; rw [if_pos h]
theorem tsetE_val {k v : Vl} (h : okKey k = true) (hv : validB v = false) : tsetE k v = 2 := by unfold tsetE; rw [if_neg (by rw [h]; decide), if_pos hv]
theorem tsetE_ok {k v : Vl} (h : okKey k = true) (hv : validB v = true) : tsetE k v = 0 := by unfold tsetE; rw [if_neg (by rw [h]; decide), if_neg (by rw [hv]; decide)]
theorem tsetE_oset (k v : Vl) : tsetE k v = osetE k v := rfl
theorem tbset_s {Z : Zone} {F : List Asr} {b : Nat} {L : List Vl} {S : List Slt} (hti : TInv ⟨L, S⟩) (hl : L.length ≤ 100000) (hs : S.length ≤ 100000) (k v : Vl) : SF Tryz.prog 144 #[.pointer (some ⟨b, 0, none⟩), k.v, v.v] Z (tbA b L S :: F) fun r Bs => r = iw (tsetE k v) ∧ Bs = tbA b (tset ⟨L, S⟩ k v).list (tset ⟨L, S⟩ k v).rest :: F := by
 refine sf_enter Tryz.func144 86 [(0, pB b 0), (1, .agg (vc k)), (2, .agg (vc v))] (fun w0 => ?_)
 refine k_sr <| s_box (vc k) (fun g1 => ?_)
 refine s_box (vc v) (fun g2 => ?_)
 refine sp (iw 0) ?_
 refine s_nt <| k_seq <| k_sr <| sp (pB b 0) ?_
 refine sp (.bool false) ?_
 refine s_nt <| k_false ?_
 refine k_st <| k_seq <| k_sr <| sp (pB g1 0) ?_
 refine s_lt (t_load 1 (iw k.kind)) ?_
 refine s_lt t_cmp ?_
 refine sp (.bool (decide (k.kind = 0))) ?_
 refine s_fork 14 (decide (k.kind = 0)) (fun c3 => ?_) (fun c3 => ?_)
 ·
  have p4 := of_decide_eq_true c3
  refine s_skip ?_
  refine s_skip ?_
  refine s_skip ?_
  refine sp (.bool true) ?_
  refine s_nt <| k_true ?_
  refine k_sr <| sp (iw 13) ?_
  refine s_nt <| k_ret <| xs_ret ?_
  have hk : okKey k = false := okKey_bad (by first | exact p4 | exact .inl p4 | exact .inr p4)
  refine xs_fin [iw 13] (tbA b L S :: F) (SI.tmp 6 SI.nil) (fun _ h => h.re [2] [1, 1]) ⟨congrArg (Value.int .i64) (tsetE_bad hk).symm, ?_⟩
  rw [tset_bad (v := v) (.inl hk)]
 ·
  have p5 := of_decide_eq_false c3
  refine s_lt (t_loadA 1 (vc k)) ?_
  refine s_vcall (fun _ h => valid_s k) ?_
  rintro _ rfl
  refine sp (.bool (!(validB k))) ?_
  refine sp (.bool (!(validB k))) ?_
  refine s_nt <| k_cond (!(validB k)) (fun c6 => ?_) (fun c6 => ?_)
  ·
   have c7 := not_t c6
   refine k_sr <| sp (iw 13) ?_
   refine s_nt <| k_ret <| xs_ret ?_
   have hk : okKey k = false := okKey_bad (by first | exact c7 | exact .inl c7 | exact .inr c7)
   refine xs_fin [iw 13] (tbA b L S :: F) (SI.tmp 6 SI.nil) (fun _ h => h.re [2] [1, 1]) ⟨congrArg (Value.int .i64) (tsetE_bad hk).symm, ?_⟩
   rw [tset_bad (v := v) (.inl hk)]
  ·
   have c8 := not_f c6
   refine k_st <| k_seq <| k_sr <| s_lt (t_loadA 0 (vc v)) ?_
   refine s_vcall (fun _ h => valid_s v) ?_
   rintro _ rfl
   refine sp (.bool (!(validB v))) ?_
   refine s_nt <| k_cond (!(validB v)) (fun c9 => ?_) (fun c9 => ?_)
   ·
    have c10 := not_t c9
    refine k_sr <| sp (iw 2) ?_
    refine s_nt <| k_ret <| xs_ret ?_
    have hk := okKey_good c3 c8
    refine xs_fin [iw 2] (tbA b L S :: F) (SI.tmp 6 SI.nil) (fun _ h => h.re [2] [1, 1]) ⟨congrArg (Value.int .i64) (tsetE_val hk c10).symm, ?_⟩
    rw [tset_bad (v := v) (.inr c10)]
   ·
    have c11 := not_f c9
    refine k_st <| k_sr <| s_lt (t_loadA 1 (vc k)) ?_
    refine s_vcall (fun _ h => integer_s k) ?_
    rintro u12 e13
    rcases int_cases k with ⟨hi14, hp15, hv16⟩ | ⟨hi17, hw18⟩
    ·
     rw [hi14, hp15] at e13; subst e13
     refine sp (.tuple #[iw (whole k), .bool true]) ?_
     refine sp (iw (whole k)) ?_
     refine sp (.bool true) ?_
     refine sp (iw (whole k)) ?_
     refine sp (.bool true) ?_
     refine s_nt <| k_seq <| k_block ?_
     refine k_sr <| sp (.bool true) ?_
     refine sp (.bool true) ?_
     refine sp (iw (whole k)) ?_
     refine s_lt t_cmp ?_
     refine sp (.bool (decide ((1 : Int) ≤ (whole k)))) ?_
     refine sp (.bool (decide ((1 : Int) ≤ (whole k)))) ?_
     refine s_fork 40 (decide ((1 : Int) ≤ (whole k))) (fun c19 => ?_) (fun c19 => ?_)
     ·
      have p20 := of_decide_eq_true c19
      refine sp (iw (whole k)) ?_
      refine sp (pB b 0) ?_
      refine sp (pB b 0) ?_
      refine sp (pB b 0) ?_
      refine s_mem2 (fun H h => tb_open (h.re [2] [])) (fun lv21 r22 hw => ?_)
      refine s_lt (t_load 0 lv21) ?_
      refine s_lt (t_len VlT_ok Tryz.underlying28 (.own 1)) ?_
      refine s_lt t_cmp ?_
      refine sp (.bool (decide ((whole k) ≤ (L.length : Int)))) ?_
      refine sp (.bool (decide ((whole k) ≤ (L.length : Int)))) ?_
      refine s_nt <| k_cond (decide ((whole k) ≤ (L.length : Int))) (fun c23 => ?_) (fun c23 => ?_)
      ·
       have p24 := of_decide_eq_true c23
       refine k_seq <| k_draw ?_
       refine sp (pB b 0) ?_
       refine sp (pB b 0) ?_
       refine sp (pB b 0) ?_
       refine s_lt (t_load 0 lv21) ?_
       refine sp (iw (whole k)) ?_
       refine s_lt (t_sub (whole k) 1 (by (try simp only [lnm]); omega)) ?_
       refine s_lt (t_loadA 3 (vc v)) ?_
       refine s_lt (t_index VlT_ok Tryz.underlying28 (.own 1) ((whole k) - 1) ((((whole k) - 1)).toNat) (by omega) (by (try simp only [lnm]); omega) (by omega)) ?_
       obtain ⟨y25, hy26⟩ : ∃ y, L[(((whole k) - 1)).toNat]? = some y := ⟨_, List.getElem?_eq_getElem (by (try simp only [lnm]); omega)⟩
       refine s_storeE 1 0 v VlT_ok hy26 ?_
       refine s_nil <| x_dynS (fun _ h => by kernel_rfl) ?_
       refine xs_then <| k_sr <| sp (iw (whole k)) ?_
       refine sp (pB b 0) ?_
       refine sp (pB b 0) ?_
       refine sp (pB b 0) ?_
       refine s_lt (t_load 0 lv21) ?_
       refine s_lt (t_len VlT_ok Tryz.underlying28 (.own 1)) ?_
       refine s_lt t_cmp ?_
       refine s_nt <| k_cond (decide ((whole k) = ((L.set ((((whole k) - 1)).toNat) v).length : Int))) (fun c27 => ?_) (fun c27 => ?_)
       ·
        have p28 := of_decide_eq_true c27
        refine k_reg ?_
        refine sp (pB b 0) ?_
        refine s_mem (fun _ h => tb_shut (h.re [0, 0, 0] [])) ?_
        refine s_call [0] (tbshrink_s (L := (L.set ((((whole k) - 1)).toNat) v)) (S := S) (by (try simp only [lnm]); omega)) ?_
        rintro _ _ ⟨rfl, rfl⟩
        refine s_nil <| xs_block ?_
        refine xs_then <| k_sr <| sp (iw 0) ?_
        refine s_nt <| k_ret ?_
        have hk := okKey_good c3 c8
        have hsl : (L.set (whole k - 1).toNat v).length = L.length := List.length_set
        have hT : tset ⟨L, S⟩ k v = ⟨(shr (L.set ((((whole k) - 1)).toNat) v)), S⟩ := by rw [tset_in (T := ⟨L, S⟩) hk c11 (by omega) (by show _ ≤ (L.length : Int); omega)]
        refine xs_fin [iw 0] (tbA b (shr (L.set ((((whole k) - 1)).toNat) v)) S :: F) (SI.tmp 6 SI.nil) (fun _ h => h.re [0] [1, 1]) ⟨congrArg (Value.int .i64) (tsetE_ok hk c11).symm, ?_⟩
        rw [hT]
       ·
        have p29 := of_decide_eq_false c27
        refine k_skip ?_
        refine xs_block ?_
        refine xs_then <| k_sr <| sp (iw 0) ?_
        refine s_nt <| k_ret ?_
        have hk := okKey_good c3 c8
        refine xs_mem (fun _ h => tb_shut (h.re [0, 0, 0] [])) ?_
        have hsl : (L.set (whole k - 1).toNat v).length = L.length := List.length_set
        have hT : tset ⟨L, S⟩ k v = ⟨(L.set ((((whole k) - 1)).toNat) v), S⟩ := by rw [tset_in (T := ⟨L, S⟩) hk c11 (by omega) (by show _ ≤ (L.length : Int); omega)]; show (⟨shr (L.set _ v), S⟩ : Tb) = _; rw [shr_set hti.last (by show _ ≠ L.length; omega)]
        refine xs_fin [iw 0] (tbA b (L.set ((((whole k) - 1)).toNat) v) S :: F) (SI.tmp 6 SI.nil) (fun _ h => h.re [0] [1, 1]) ⟨congrArg (Value.int .i64) (tsetE_ok hk c11).symm, ?_⟩
        rw [hT]
      ·
       have p30 := of_decide_eq_false c23
       refine k_sr <| sp (.bool true) ?_
       refine sp (.bool true) ?_
       refine sp (iw (whole k)) ?_
       refine sp (pB b 0) ?_
       refine sp (pB b 0) ?_
       refine sp (pB b 0) ?_
       refine s_lt (t_load 0 lv21) ?_
       refine s_lt (t_len VlT_ok Tryz.underlying28 (.own 1)) ?_
       refine s_lt (t_add (L.length : Int) 1 (by (try simp only [lnm]); omega)) ?_
       refine s_lt t_cmp ?_
       refine sp (.bool (decide ((whole k) = ((L.length : Int) + 1)))) ?_
       refine sp (.bool (decide ((whole k) = ((L.length : Int) + 1)))) ?_
       refine s_fork 78 (decide ((whole k) = ((L.length : Int) + 1))) (fun c31 => ?_) (fun c31 => ?_)
       ·
        have p32 := of_decide_eq_true c31
        refine sp (pB g2 0) ?_
        refine s_lt (t_load 3 (iw v.kind)) ?_
        refine s_lt t_cmp ?_
        refine sp (.bool (decide (v.kind ≠ 0))) ?_
        refine sp (.bool (decide (v.kind ≠ 0))) ?_
        refine s_nt <| k_cond (decide (v.kind ≠ 0)) (fun c33 => ?_) (fun c33 => ?_)
        ·
         have p34 := of_decide_eq_true c33
         refine k_reg ?_
         refine sp (pB b 0) ?_
         refine s_lt (t_loadA 3 (vc v)) ?_
         refine s_mem (fun _ h => tb_shut (h.re [0, 0, 0] [])) ?_
         refine s_call [0] (tbadd_s (L := L) (S := S) (by (try simp only [lnm]); omega) (by (try simp only [lnm]); omega) v) ?_
         rintro _ _ ⟨rfl, rfl⟩
         refine s_nil <| xs_block ?_
         refine xs_then <| k_sr <| sp (iw 0) ?_
         refine s_nt <| k_ret ?_
         have hk := okKey_good c3 c8
         refine xs_fin [iw 0] (tbA b ((tadd ⟨L, S⟩ v).list) ((tadd ⟨L, S⟩ v).rest) :: F) (SI.tmp 6 SI.nil) (fun _ h => h.re [0] [1, 1]) ⟨congrArg (Value.int .i64) (tsetE_ok hk c11).symm, ?_⟩
         rw [tset_add (T := ⟨L, S⟩) hk c11 (by show _ = (L.length : Int) + 1; omega) (of_decide_eq_true c33)]
        ·
         have p35 := Decidable.not_not.1 (of_decide_eq_false c33)
         refine k_seq <| k_draw ?_
         refine sp (pB b 0) ?_
         refine sp (pB b 0) ?_
         refine sp (pB b 1) ?_
         refine s_lt (t_load 0 (pB r22 0)) ?_
         refine s_lt (t_loadA 4 (vc k)) ?_
         refine s_lt (t_loadA 3 (vc v)) ?_
         refine s_call [2] (omset_s (S := S) (by (try simp only [lnm]); omega) k v) ?_
         rintro _ _ ⟨rfl, rfl⟩
         refine sp (iw (osetE k v)) ?_
         refine s_nil <| x_dynS (fun _ h => by kernel_rfl) ?_
         refine xs_then <| k_ret <| xs_retBlock ?_
         refine xs_ret ?_
         have hk := okKey_good c3 c8
         refine xs_mem (fun _ h => tb_shut (h.re [1, 1, 0] [])) ?_
         refine xs_fin [iw (osetE k v)] (tbA b L (osetL S k v) :: F) (SI.tmp 6 SI.nil) (fun _ h => h.re [0] [1, 1]) ⟨congrArg (Value.int .i64) ((tsetE_oset k v)).symm, ?_⟩
         rw [tset_out (T := ⟨L, S⟩) hk c11 (by show ¬ (_ ∧ _ ≤ (L.length : Int)); omega) (by show ¬ (_ = (L.length : Int) + 1 ∧ _); rintro ⟨e1, e2⟩; first | omega | (have hq := p35; simp_all))]
       ·
        have p36 := of_decide_eq_false c31
        refine s_skip ?_
        refine s_skip ?_
        refine s_skip ?_
        refine sp (.bool false) ?_
        refine sp (.bool false) ?_
        refine s_nt <| k_false ?_
        refine k_seq <| k_draw ?_
        refine sp (pB b 0) ?_
        refine sp (pB b 0) ?_
        refine sp (pB b 1) ?_
        refine s_lt (t_load 0 (pB r22 0)) ?_
        refine s_lt (t_loadA 4 (vc k)) ?_
        refine s_lt (t_loadA 3 (vc v)) ?_
        refine s_call [2] (omset_s (S := S) (by (try simp only [lnm]); omega) k v) ?_
        rintro _ _ ⟨rfl, rfl⟩
        refine sp (iw (osetE k v)) ?_
        refine s_nil <| x_dynS (fun _ h => by kernel_rfl) ?_
        refine xs_then <| k_ret <| xs_retBlock ?_
        refine xs_ret ?_
        have hk := okKey_good c3 c8
        refine xs_mem (fun _ h => tb_shut (h.re [1, 1, 0] [])) ?_
        refine xs_fin [iw (osetE k v)] (tbA b L (osetL S k v) :: F) (SI.tmp 6 SI.nil) (fun _ h => h.re [0] [1, 1]) ⟨congrArg (Value.int .i64) ((tsetE_oset k v)).symm, ?_⟩
        rw [tset_out (T := ⟨L, S⟩) hk c11 (by show ¬ (_ ∧ _ ≤ (L.length : Int)); omega) (by show ¬ (_ = (L.length : Int) + 1 ∧ _); rintro ⟨e1, e2⟩; first | omega | (have hq := p36; simp_all))]
     ·
      have p37 := of_decide_eq_false c19
      refine s_skip ?_
      refine s_skip ?_
      refine s_skip ?_
      refine s_skip ?_
      refine s_skip ?_
      refine s_skip ?_
      refine s_skip ?_
      refine sp (.bool false) ?_
      refine sp (.bool false) ?_
      refine s_nt <| k_false ?_
      refine k_sr <| sp (.bool true) ?_
      refine sp (.bool true) ?_
      refine sp (iw (whole k)) ?_
      refine sp (pB b 0) ?_
      refine sp (pB b 0) ?_
      refine sp (pB b 0) ?_
      refine s_mem2 (fun H h => tb_open (h.re [2] [])) (fun lv38 r39 hw => ?_)
      refine s_lt (t_load 0 lv38) ?_
      refine s_lt (t_len VlT_ok Tryz.underlying28 (.own 1)) ?_
      refine s_lt (t_add (L.length : Int) 1 (by (try simp only [lnm]); omega)) ?_
      refine s_lt t_cmp ?_
      refine sp (.bool (decide ((whole k) = ((L.length : Int) + 1)))) ?_
      refine sp (.bool (decide ((whole k) = ((L.length : Int) + 1)))) ?_
      refine s_fork 78 (decide ((whole k) = ((L.length : Int) + 1))) (fun c40 => ?_) (fun c40 => ?_)
      ·
       have p41 := of_decide_eq_true c40
       refine sp (pB g2 0) ?_
       refine s_lt (t_load 3 (iw v.kind)) ?_
       refine s_lt t_cmp ?_
       refine sp (.bool (decide (v.kind ≠ 0))) ?_
       refine sp (.bool (decide (v.kind ≠ 0))) ?_
       refine s_nt <| k_cond (decide (v.kind ≠ 0)) (fun c42 => ?_) (fun c42 => ?_)
       ·
        have p43 := of_decide_eq_true c42
        refine k_reg ?_
        refine sp (pB b 0) ?_
        refine s_lt (t_loadA 3 (vc v)) ?_
        refine s_mem (fun _ h => tb_shut (h.re [0, 0, 0] [])) ?_
        refine s_call [0] (tbadd_s (L := L) (S := S) (by (try simp only [lnm]); omega) (by (try simp only [lnm]); omega) v) ?_
        rintro _ _ ⟨rfl, rfl⟩
        refine s_nil <| xs_block ?_
        refine xs_then <| k_sr <| sp (iw 0) ?_
        refine s_nt <| k_ret ?_
        have hk := okKey_good c3 c8
        refine xs_fin [iw 0] (tbA b ((tadd ⟨L, S⟩ v).list) ((tadd ⟨L, S⟩ v).rest) :: F) (SI.tmp 6 SI.nil) (fun _ h => h.re [0] [1, 1]) ⟨congrArg (Value.int .i64) (tsetE_ok hk c11).symm, ?_⟩
        rw [tset_add (T := ⟨L, S⟩) hk c11 (by show _ = (L.length : Int) + 1; omega) (of_decide_eq_true c42)]
       ·
        have p44 := Decidable.not_not.1 (of_decide_eq_false c42)
        refine k_seq <| k_draw ?_
        refine sp (pB b 0) ?_
        refine sp (pB b 0) ?_
        refine sp (pB b 1) ?_
        refine s_lt (t_load 0 (pB r39 0)) ?_
        refine s_lt (t_loadA 4 (vc k)) ?_
        refine s_lt (t_loadA 3 (vc v)) ?_
        refine s_call [2] (omset_s (S := S) (by (try simp only [lnm]); omega) k v) ?_
        rintro _ _ ⟨rfl, rfl⟩
        refine sp (iw (osetE k v)) ?_
        refine s_nil <| x_dynS (fun _ h => by kernel_rfl) ?_
        refine xs_then <| k_ret <| xs_retBlock ?_
        refine xs_ret ?_
        have hk := okKey_good c3 c8
        refine xs_mem (fun _ h => tb_shut (h.re [1, 1, 0] [])) ?_
        refine xs_fin [iw (osetE k v)] (tbA b L (osetL S k v) :: F) (SI.tmp 6 SI.nil) (fun _ h => h.re [0] [1, 1]) ⟨congrArg (Value.int .i64) ((tsetE_oset k v)).symm, ?_⟩
        rw [tset_out (T := ⟨L, S⟩) hk c11 (by show ¬ (_ ∧ _ ≤ (L.length : Int)); omega) (by show ¬ (_ = (L.length : Int) + 1 ∧ _); rintro ⟨e1, e2⟩; first | omega | (have hq := p44; simp_all))]
      ·
       have p45 := of_decide_eq_false c40
       refine s_skip ?_
       refine s_skip ?_
       refine s_skip ?_
       refine sp (.bool false) ?_
       refine sp (.bool false) ?_
       refine s_nt <| k_false ?_
       refine k_seq <| k_draw ?_
       refine sp (pB b 0) ?_
       refine sp (pB b 0) ?_
       refine sp (pB b 1) ?_
       refine s_lt (t_load 0 (pB r39 0)) ?_
       refine s_lt (t_loadA 4 (vc k)) ?_
       refine s_lt (t_loadA 3 (vc v)) ?_
       refine s_call [2] (omset_s (S := S) (by (try simp only [lnm]); omega) k v) ?_
       rintro _ _ ⟨rfl, rfl⟩
       refine sp (iw (osetE k v)) ?_
       refine s_nil <| x_dynS (fun _ h => by kernel_rfl) ?_
       refine xs_then <| k_ret <| xs_retBlock ?_
       refine xs_ret ?_
       have hk := okKey_good c3 c8
       refine xs_mem (fun _ h => tb_shut (h.re [1, 1, 0] [])) ?_
       refine xs_fin [iw (osetE k v)] (tbA b L (osetL S k v) :: F) (SI.tmp 6 SI.nil) (fun _ h => h.re [0] [1, 1]) ⟨congrArg (Value.int .i64) ((tsetE_oset k v)).symm, ?_⟩
       rw [tset_out (T := ⟨L, S⟩) hk c11 (by show ¬ (_ ∧ _ ≤ (L.length : Int)); omega) (by show ¬ (_ = (L.length : Int) + 1 ∧ _); rintro ⟨e1, e2⟩; first | omega | (have hq := p45; simp_all))]
    ·
     rw [hi17] at e13; subst e13
     refine sp (.tuple #[iw k.p, .bool false]) ?_
     refine sp (iw k.p) ?_
     refine sp (.bool false) ?_
     refine sp (iw k.p) ?_
     refine sp (.bool false) ?_
     refine s_nt <| k_seq <| k_block ?_
     refine k_sr <| sp (.bool false) ?_
     refine sp (.bool false) ?_
     refine s_skip ?_
     refine s_skip ?_
     refine sp (.bool false) ?_
     refine sp (.bool false) ?_
     refine s_skip ?_
     refine s_skip ?_
     refine s_skip ?_
     refine s_skip ?_
     refine s_skip ?_
     refine s_skip ?_
     refine s_skip ?_
     refine sp (.bool false) ?_
     refine sp (.bool false) ?_
     refine s_nt <| k_false ?_
     refine k_sr <| sp (.bool false) ?_
     refine sp (.bool false) ?_
     refine s_skip ?_
     refine s_skip ?_
     refine s_skip ?_
     refine s_skip ?_
     refine s_skip ?_
     refine s_skip ?_
     refine s_skip ?_
     refine s_skip ?_
     refine sp (.bool false) ?_
     refine sp (.bool false) ?_
     refine s_skip ?_
     refine s_skip ?_
     refine s_skip ?_
     refine sp (.bool false) ?_
     refine sp (.bool false) ?_
     refine s_nt <| k_false ?_
     refine k_seq <| k_draw ?_
     refine sp (pB b 0) ?_
     refine sp (pB b 0) ?_
     refine sp (pB b 1) ?_
     refine s_mem2 (fun H h => tb_open (h.re [2] [])) (fun lv46 r47 hw => ?_)
     refine s_lt (t_load 0 (pB r47 0)) ?_
     refine s_lt (t_loadA 4 (vc k)) ?_
     refine s_lt (t_loadA 3 (vc v)) ?_
     refine s_call [2] (omset_s (S := S) (by (try simp only [lnm]); omega) k v) ?_
     rintro _ _ ⟨rfl, rfl⟩
     refine sp (iw (osetE k v)) ?_
     refine s_nil <| x_dynS (fun _ h => by kernel_rfl) ?_
     refine xs_then <| k_ret <| xs_retBlock ?_
     refine xs_ret ?_
     have hk := okKey_good c3 c8
     refine xs_mem (fun _ h => tb_shut (h.re [1, 1, 0] [])) ?_
     refine xs_fin [iw (osetE k v)] (tbA b L (osetL S k v) :: F) (SI.tmp 6 SI.nil) (fun _ h => h.re [0] [1, 1]) ⟨congrArg (Value.int .i64) ((tsetE_oset k v)).symm, ?_⟩
     rw [tset_out (T := ⟨L, S⟩) hk c11 (by show ¬ (_ ∧ _ ≤ (L.length : Int)); omega) (by show ¬ (_ = (L.length : Int) + 1 ∧ _); rintro ⟨e1, e2⟩; first | omega | (have hq := c11; simp_all))]
end Go.Proofs.YtmhpcebiamkciaaGreat
end
section
set_option linter.unusedSimpArgs false
set_option linter.unusedVariables false
set_option maxRecDepth 100000
set_option maxHeartbeats 2000000
namespace Go.Proofs.YtmhpcebiamkciaaGreat
open Go.Hp Go.J Go.S
open Go.Mem (Ty KTy blk elemAt pre suf blk_pre blk_suf aget aset strK aggDesc)
open Go.Mem (adel apos aget_aset aget_adel)
def rtA (b : Nat) (L : List Vl) (S : List Slt) : Asr := exA fun lv => exA fun r => stA True [blkA b #[lv, .pointer (some ⟨r, 0, none⟩)] 229, own VlT lv L, rmA r S]
theorem rt_open {b : Nat} {L : List Vl} {S : List Slt} {Z : Zone} {F : List Asr} {H : Heap} (h : Holds Z (rtA b L S :: F) H) : ∃ (lv : Value) (r : Nat), True ∧ Holds Z (blkA b #[lv, .pointer (some ⟨r, 0, none⟩)] 229 :: own VlT lv L :: rmA r S :: F) H := by
  obtain ⟨lv, h⟩ := h.open_ex
  obtain ⟨r, h⟩ := h.open_ex
  exact ⟨lv, r, h.open_st⟩
theorem rt_shut {b : Nat} {L : List Vl} {S : List Slt} {Z : Zone} {F : List Asr} {H : Heap} {lv : Value} {r : Nat} (h : Holds Z (blkA b #[lv, .pointer (some ⟨r, 0, none⟩)] 229 :: own VlT lv L :: rmA r S :: F) H) : Holds Z (rtA b L S :: F) H :=
  Holds.shut_ex lv (Holds.shut_ex r (Holds.shut_st trivial h))
theorem rt_inv {b : Nat} {L : List Vl} {S : List Slt} {Z : Zone} {F : List Asr} {H : Heap} (h : Holds Z (rtA b L S :: F) H) : OInv S := by
  obtain ⟨_, _, _, h⟩ := rt_open h; exact rm_inv (h.re [2] [])
theorem whole_not {k : Vl} (h : k.kind ≠ 2 ∨ validB k = false) : whole k = 0 := by
  unfold whole; rcases h with h | h <;> simp [h]
theorem whole_yes {k : Vl} (h1 : k.kind = 2) (h2 : validB k = true) : whole k = if k.q = 1 then k.p else 0 := by
  unfold whole; simp [h1, h2]
theorem num_valid {k : Vl} (h1 : k.kind = 2) (h2 : validB k = true) : validN k.p k.q = true := by
  unfold validB at h2
  rw [h1, if_neg (by decide), if_neg (by decide), if_pos rfl, Bool.and_eq_true] at h2
  exact h2.2
theorem rwhole_s {Z : Zone} (p q : Int) : SF Tryz.prog 239 #[.agg #[iw p, iw q]] Z [] fun r Bs => r = .tuple #[iw (if validN p q = true ∧ q = 1 then p else 0), .bool (validN p q && decide (q = 1))] ∧ Bs = [] := by
 refine sf_enter Tryz.func239 13 [(0, .agg #[iw p, iw q])] (fun w0 => ?_)
 refine k_sr <| s_box #[iw p, iw q] (fun g1 => ?_)
 refine sp (iw 0) ?_
 refine sp (.bool false) ?_
 refine s_nt <| k_seq <| k_sr <| s_lt (t_loadA 0 #[iw p, iw q]) ?_
 refine s_vcall (fun _ h => rvnum_s p q) ?_
 rintro _ rfl
 refine sp (.bool (validN p q)) ?_
 refine s_fork 6 (validN p q) (fun c2 => ?_) (fun c2 => ?_)
 ·
  refine sp (pB g1 1) ?_
  refine s_lt (t_load 0 (iw q)) ?_
  refine s_lt t_cmp ?_
  refine sp (.bool (decide (q = 1))) ?_
  refine s_nt <| k_cond (decide (q = 1)) (fun c3 => ?_) (fun c3 => ?_)
  ·
   have p4 := of_decide_eq_true c3
   refine k_sr <| sp (pB g1 0) ?_
   refine s_lt (t_load 0 (iw p)) ?_
   refine sp (iw p) ?_
   refine sp (.bool true) ?_
   refine s_nt <| k_ret <| xs_ret <| xs_fin [iw p, .bool true] [] (SI.tmp 2 (SI.tmp 3 SI.nil)) (fun _ h => h.re [] [0]) ⟨?_, rfl⟩
   show Value.tuple _ = Value.tuple _; first | (simp [c2, c3, c2, p4]; done) | simp_all
  ·
   have p5 := of_decide_eq_false c3
   refine k_st <| k_sr <| sp (iw 0) ?_
   refine sp (.bool false) ?_
   refine s_nt <| k_ret <| xs_fin [iw 0, .bool false] [] (SI.tmp 2 (SI.tmp 3 SI.nil)) (fun _ h => h.re [] [0]) ⟨?_, rfl⟩
   show Value.tuple _ = Value.tuple _; first | (simp [c2, c3, c2, p5]; done) | simp_all
 ·
  refine s_skip ?_
  refine s_skip ?_
  refine s_skip ?_
  refine sp (.bool false) ?_
  refine s_nt <| k_false ?_
  refine k_st <| k_sr <| sp (iw 0) ?_
  refine sp (.bool false) ?_
  refine s_nt <| k_ret <| xs_fin [iw 0, .bool false] [] (SI.tmp 2 (SI.tmp 3 SI.nil)) (fun _ h => h.re [] [0]) ⟨?_, rfl⟩
  show Value.tuple _ = Value.tuple _; first | (simp [c2, c2]; done) | simp_all
theorem rwhole2_s {Z : Zone} (k : Vl) : SF Tryz.prog 197 #[k.v] Z [] fun r Bs => r = iw (whole k) ∧ Bs = [] := by
 refine sf_enter Tryz.func197 20 [(0, .agg (vc k))] (fun w0 => ?_)
 refine k_sr <| s_box (vc k) (fun g1 => ?_)
 refine sp (iw 0) ?_
 refine s_nt <| k_seq <| k_cut (ι := Unit) (fun _ => True) (fun _ => [(1, pB g1 0), (12, .bool ((decide (k.kind ≠ 2)) || (!(validB k))))]) (fun _ => [blkA g1 (vc k) 71]) ?_ (fun _ _ => ?_)
 ·
  refine k_reg ?_
  refine sp (pB g1 0) ?_
  refine s_lt (t_load 0 (iw k.kind)) ?_
  refine s_lt t_cmp ?_
  refine sp (.bool (decide (k.kind ≠ 2))) ?_
  refine s_fork 8 (decide (k.kind ≠ 2)) (fun c2 => ?_) (fun c2 => ?_)
  ·
   have p3 := of_decide_eq_true c2
   refine s_skip ?_
   refine s_skip ?_
   refine s_skip ?_
   refine sp (.bool true) ?_
   refine s_nil ?_
   exact xs_cut () trivial (sub_of rfl ⟨⟨rfl, rfl⟩, ⟨⟨rfl, show Value.bool true = Value.bool ((decide (k.kind ≠ 2)) || (!(validB k))) by first | (simp only [c2, bls]; done) | simp [c2]⟩, trivial⟩⟩) (fun _ h => h.re [0] [])
  ·
   have p4 := Decidable.not_not.1 (of_decide_eq_false c2)
   refine s_lt (t_loadA 0 (vc k)) ?_
   refine s_vcall (fun _ h => rvalid_s k) ?_
   rintro _ rfl
   refine sp (.bool (!(validB k))) ?_
   refine sp (.bool (!(validB k))) ?_
   refine s_nil ?_
   exact xs_cut () trivial (sub_of rfl ⟨⟨rfl, rfl⟩, ⟨⟨rfl, show Value.bool (!(validB k)) = Value.bool ((decide (k.kind ≠ 2)) || (!(validB k))) by first | (simp only [c2, bls]; done) | simp [c2]⟩, trivial⟩⟩) (fun _ h => h.re [0] [])
 ·
  refine k_cond ((decide (k.kind ≠ 2)) || (!(validB k))) (fun c5 => ?_) (fun c5 => ?_)
  ·
   have p6 := c5
   simp only [Bool.and_eq_true, Bool.or_eq_true, Bool.and_eq_false_iff, Bool.or_eq_false_iff, Bool.not_eq_true', Bool.not_eq_false', decide_eq_true_eq, decide_eq_false_iff_not] at p6
   refine k_sr <| sp (iw 0) ?_
   refine s_nt <| k_ret <| xs_ret <| xs_fin [iw 0] [] (SI.tmp 2 SI.nil) (fun _ h => h.re [] [0]) ⟨congrArg (Value.int .i64) ?_, rfl⟩
   exact (whole_not (by first | exact p6 | exact .inl p6 | exact .inr p6)).symm
  ·
   obtain ⟨c7, c8⟩ := or_f c5
   have p9 := Decidable.not_not.1 (of_decide_eq_false c7)
   have c10 := not_f c8
   refine k_st <| k_sr <| sp (pB g1 1) ?_
   refine s_lt (t_loadA 0 #[iw k.p, iw k.q]) ?_
   refine s_vcall (fun _ h => rwhole_s k.p k.q) ?_
   rintro _ rfl
   refine sp (.tuple #[iw (if validN k.p k.q = true ∧ k.q = 1 then k.p else 0), .bool (validN k.p k.q && decide (k.q = 1))]) ?_
   refine sp (iw (if validN k.p k.q = true ∧ k.q = 1 then k.p else 0)) ?_
   refine sp (.bool (validN k.p k.q && decide (k.q = 1))) ?_
   refine sp (iw (if validN k.p k.q = true ∧ k.q = 1 then k.p else 0)) ?_
   refine sp (.bool (validN k.p k.q && decide (k.q = 1))) ?_
   refine s_nr ?_
   refine sp (iw (if validN k.p k.q = true ∧ k.q = 1 then k.p else 0)) ?_
   refine sp (iw (if validN k.p k.q = true ∧ k.q = 1 then k.p else 0)) ?_
   refine s_nt <| k_ret <| xs_fin [iw (if validN k.p k.q = true ∧ k.q = 1 then k.p else 0)] [] (SI.tmp 2 SI.nil) (fun _ h => h.re [] [0]) ⟨congrArg (Value.int .i64) ?_, rfl⟩
   have h2 : k.kind = 2 := Decidable.not_not.1 (of_decide_eq_false c7)
   rw [whole_yes h2 c10, num_valid h2 c10]; simp
theorem rtnew_s {Z : Zone} : SF Tryz.prog 138 #[] Z [] fun r Bs => ∃ b, r = .pointer (some ⟨b, 0, none⟩) ∧ Bs = [rtA b [] []] := by
 refine sf_enter Tryz.func138 4 [] (fun w0 => ?_)
 refine k_sr <| sp (.pointer none) ?_
 refine s_nr ?_
 refine s_pcall (fun _ h => rmnew_s) ?_
 rintro _ _ ⟨r1, rfl, rfl⟩
 refine s_lt (t_kern (.agg #[(.slice none 0 0), pB r1 0])) ?_
 refine s_box #[(.slice none 0 0), pB r1 0] (fun g2 => ?_)
 refine sp (pB g2 0) ?_
 refine s_nt <| k_ret <| xs_fin [pB g2 0] [rtA g2 [] []] (SI.tmp 0 SI.nil) (fun _ h => rt_shut (b := g2) (lv := .slice none 0 0) (r := r1) ((Holds.nilS (T := VlT) h).re [1, 0, 0] [])) ⟨g2, rfl, rfl⟩
theorem rtpurge_s {Z : Zone} {F : List Asr} {b : Nat} {L : List Vl} {S : List Slt} (hl : L.length ≤ 1000000) (hs : S.length ≤ 100000) {n : Nat} {x : Int} (hn : n ≤ L.length) (hx : x = (n : Int) + 1) : SF Tryz.prog 201 #[.pointer (some ⟨b, 0, none⟩), iw x] Z (rtA b L S :: F) fun r Bs => r = .tuple #[] ∧ Bs = rtA b L (if staleB S n L.length then purge S L.length else S) :: F := by
 refine sf_enter Tryz.func201 90 [(0, pB b 0), (1, iw x)] (fun w0 => ?_)
 refine k_fact (fun H h => rt_inv (h.re [0] [])) (fun hinv0 => ?_)
 have hol := okeys_len S
 refine k_sr <| sp (.bool false) ?_
 refine s_nt <| k_seq <| k_sr <| sp (iw x) ?_
 refine sp (iw x) ?_
 refine s_nt <| k_block ?_
 refine k_loop (ι := Nat) (fun j => n ≤ j ∧ j ≤ L.length) (fun j => [(0, pB b 0), (4, .bool (staleB S n j)), (5, iw ((j : Int) + 1))]) (fun j => rtA b L S :: F) (fun j => L.length - j) n ⟨Nat.le_refl _, hn⟩ (sub_of rfl ⟨⟨rfl, rfl⟩, ⟨⟨rfl, congrArg Value.bool (staleB_self S n).symm⟩, ⟨⟨rfl, congrArg (Value.int .i64) hx⟩, trivial⟩⟩⟩) (fun _ h => h.re [0] []) ?_
 rintro j hi1
 show SK _ _ _ _ _ [(0, .pointer (some ⟨b, 0, none⟩)), (4, .bool (staleB S n j)), (5, iw ((j : Int) + 1))] _ (rtA b L S :: F)
 refine k_seq <| k_sr <| sp (iw ((j : Int) + 1)) ?_
 refine sp (pB b 0) ?_
 refine sp (pB b 0) ?_
 refine sp (pB b 0) ?_
 refine s_mem2 (fun H h => rt_open (h.re [0] [])) (fun lv2 r3 hw => ?_)
 refine s_lt (t_load 0 lv2) ?_
 refine s_lt (t_len VlT_ok Tryz.underlying28 (.own 1)) ?_
 refine s_lt t_cmp ?_
 refine s_nt <| k_cond (decide (((j : Int) + 1) ≤ (L.length : Int))) (fun c4 => ?_) (fun c4 => ?_)
 ·
  have p5 := of_decide_eq_true c4
  refine k_st <| k_seq <| k_block ?_
  refine k_cut (ι := Unit) (fun _ => True) (fun _ => [(0, pB b 0), (4, .bool (staleB S n j)), (5, iw ((j : Int) + 1)), (9, iw ((onext S (ofI ((j : Int) + 1))).2.2.2))]) (fun _ => blkA b #[lv2, pB r3 0] 229 :: own VlT lv2 L :: rmA r3 S :: F) ?_ (fun _ _ => ?_)
  ·
   refine k_held [blkA b #[lv2, pB r3 0] 229, own VlT lv2 L] ?_
   refine hp_ 0 [0, 0] (pB b 0) ?_
   refine hp_ 1 [0, 0] (pB b 0) ?_
   refine hp_ 2 [0, 0] (pB b 1) ?_
   refine h_l 3 rfl [0, 0] (fun _ => (t_load 0 (pB r3 0))) ?_
   refine hp_ 4 [0, 0] (iw ((j : Int) + 1)) ?_
   refine h_stepS3 5 12 13 ?_ ?_ ?_
   ·
    refine s_vcall (fun _ h => rkey_s ((j : Int) + 1)) ?_
    rintro _ rfl
    refine s_nil (xs_held [0, 0] ?_)
    refine h_stepS3 6 12 13 ?_ ?_ ?_
    ·
     refine s_call [2] (rmnext_s (S := S) (by (try simp only [lnm]); omega) (ofI ((j : Int) + 1))) ?_
     rintro _ _ ⟨rfl, rfl⟩
     refine s_nil (xs_held [1, 1] ?_)
     refine hp_ 7 [1, 1] (.tuple #[.agg #[iw (((onext S (ofI ((j : Int) + 1))).1).kind), iw (((onext S (ofI ((j : Int) + 1))).1).p), iw (((onext S (ofI ((j : Int) + 1))).1).q), sw (((onext S (ofI ((j : Int) + 1))).1).str), iw (((onext S (ofI ((j : Int) + 1))).1).ref)], .agg #[iw (((onext S (ofI ((j : Int) + 1))).2.1).kind), iw (((onext S (ofI ((j : Int) + 1))).2.1).p), iw (((onext S (ofI ((j : Int) + 1))).2.1).q), sw (((onext S (ofI ((j : Int) + 1))).2.1).str), iw (((onext S (ofI ((j : Int) + 1))).2.1).ref)], .bool ((onext S (ofI ((j : Int) + 1))).2.2.1), iw ((onext S (ofI ((j : Int) + 1))).2.2.2)]) ?_
     refine hp_ 8 [1, 1] (.agg #[iw (((onext S (ofI ((j : Int) + 1))).1).kind), iw (((onext S (ofI ((j : Int) + 1))).1).p), iw (((onext S (ofI ((j : Int) + 1))).1).q), sw (((onext S (ofI ((j : Int) + 1))).1).str), iw (((onext S (ofI ((j : Int) + 1))).1).ref)]) ?_
     refine hp_ 9 [1, 1] (.agg #[iw (((onext S (ofI ((j : Int) + 1))).2.1).kind), iw (((onext S (ofI ((j : Int) + 1))).2.1).p), iw (((onext S (ofI ((j : Int) + 1))).2.1).q), sw (((onext S (ofI ((j : Int) + 1))).2.1).str), iw (((onext S (ofI ((j : Int) + 1))).2.1).ref)]) ?_
     refine hp_ 10 [1, 1] (.bool ((onext S (ofI ((j : Int) + 1))).2.2.1)) ?_
     refine hp_ 11 [1, 1] (iw ((onext S (ofI ((j : Int) + 1))).2.2.2)) ?_
     refine h_stepS2 12 13 ?_ ?_
     ·
      refine s_alloc (.agg zc) zc (fun g6 => ?_)
      refine s_nil (xs_held [2, 2] ?_)
      refine h_stepS 13 ?_
      refine s_alloc (.agg zc) zc (fun g7 => ?_)
      refine s_nil (xs_held [3, 3] ?_)
      refine h_stepS 14 ?_
      refine s_store 1 #[iw (((onext S (ofI ((j : Int) + 1))).1).kind), iw (((onext S (ofI ((j : Int) + 1))).1).p), iw (((onext S (ofI ((j : Int) + 1))).1).q), sw (((onext S (ofI ((j : Int) + 1))).1).str), iw (((onext S (ofI ((j : Int) + 1))).1).ref)] ?_
      refine s_nil (xs_held [3, 3] ?_)
      refine h_stepS 15 ?_
      refine s_store 0 #[iw (((onext S (ofI ((j : Int) + 1))).2.1).kind), iw (((onext S (ofI ((j : Int) + 1))).2.1).p), iw (((onext S (ofI ((j : Int) + 1))).2.1).q), sw (((onext S (ofI ((j : Int) + 1))).2.1).str), iw (((onext S (ofI ((j : Int) + 1))).2.1).ref)] ?_
      refine s_nil (xs_held [3, 3] ?_)
      refine hp_ 16 [3, 3] (.bool ((onext S (ofI ((j : Int) + 1))).2.2.1)) ?_
      refine hp_ 17 [3, 3] (iw ((onext S (ofI ((j : Int) + 1))).2.2.2)) ?_
      refine h_doneS ?_
      exact xcut () (fun _ h => h.re [3, 3, 2] [3, 3])
     ·
      refine s_alloc (.agg zc) zc (fun g8 => ?_)
      refine s_nil (xs_held [2, 2] ?_)
      refine h_stepS 12 ?_
      refine s_alloc (.agg zc) zc (fun g9 => ?_)
      refine s_nil (xs_held [3, 3] ?_)
      refine h_stepS 14 ?_
      refine s_store 0 #[iw (((onext S (ofI ((j : Int) + 1))).1).kind), iw (((onext S (ofI ((j : Int) + 1))).1).p), iw (((onext S (ofI ((j : Int) + 1))).1).q), sw (((onext S (ofI ((j : Int) + 1))).1).str), iw (((onext S (ofI ((j : Int) + 1))).1).ref)] ?_
      refine s_nil (xs_held [3, 3] ?_)
      refine h_stepS 15 ?_
      refine s_store 1 #[iw (((onext S (ofI ((j : Int) + 1))).2.1).kind), iw (((onext S (ofI ((j : Int) + 1))).2.1).p), iw (((onext S (ofI ((j : Int) + 1))).2.1).q), sw (((onext S (ofI ((j : Int) + 1))).2.1).str), iw (((onext S (ofI ((j : Int) + 1))).2.1).ref)] ?_
      refine s_nil (xs_held [3, 3] ?_)
      refine hp_ 16 [3, 3] (.bool ((onext S (ofI ((j : Int) + 1))).2.2.1)) ?_
      refine hp_ 17 [3, 3] (iw ((onext S (ofI ((j : Int) + 1))).2.2.2)) ?_
      refine h_doneS ?_
      exact xcut () (fun _ h => h.re [3, 3, 2] [3, 3])
    ·
     refine s_alloc (.agg zc) zc (fun g10 => ?_)
     refine s_nil (xs_held [1, 1] ?_)
     refine h_stepS2 6 13 ?_ ?_
     ·
      refine s_call [3] (rmnext_s (S := S) (by (try simp only [lnm]); omega) (ofI ((j : Int) + 1))) ?_
      rintro _ _ ⟨rfl, rfl⟩
      refine s_nil (xs_held [2, 2] ?_)
      refine hp_ 7 [2, 2] (.tuple #[.agg #[iw (((onext S (ofI ((j : Int) + 1))).1).kind), iw (((onext S (ofI ((j : Int) + 1))).1).p), iw (((onext S (ofI ((j : Int) + 1))).1).q), sw (((onext S (ofI ((j : Int) + 1))).1).str), iw (((onext S (ofI ((j : Int) + 1))).1).ref)], .agg #[iw (((onext S (ofI ((j : Int) + 1))).2.1).kind), iw (((onext S (ofI ((j : Int) + 1))).2.1).p), iw (((onext S (ofI ((j : Int) + 1))).2.1).q), sw (((onext S (ofI ((j : Int) + 1))).2.1).str), iw (((onext S (ofI ((j : Int) + 1))).2.1).ref)], .bool ((onext S (ofI ((j : Int) + 1))).2.2.1), iw ((onext S (ofI ((j : Int) + 1))).2.2.2)]) ?_
      refine hp_ 8 [2, 2] (.agg #[iw (((onext S (ofI ((j : Int) + 1))).1).kind), iw (((onext S (ofI ((j : Int) + 1))).1).p), iw (((onext S (ofI ((j : Int) + 1))).1).q), sw (((onext S (ofI ((j : Int) + 1))).1).str), iw (((onext S (ofI ((j : Int) + 1))).1).ref)]) ?_
      refine hp_ 9 [2, 2] (.agg #[iw (((onext S (ofI ((j : Int) + 1))).2.1).kind), iw (((onext S (ofI ((j : Int) + 1))).2.1).p), iw (((onext S (ofI ((j : Int) + 1))).2.1).q), sw (((onext S (ofI ((j : Int) + 1))).2.1).str), iw (((onext S (ofI ((j : Int) + 1))).2.1).ref)]) ?_
      refine hp_ 10 [2, 2] (.bool ((onext S (ofI ((j : Int) + 1))).2.2.1)) ?_
      refine hp_ 11 [2, 2] (iw ((onext S (ofI ((j : Int) + 1))).2.2.2)) ?_
      refine h_stepS 13 ?_
      refine s_alloc (.agg zc) zc (fun g11 => ?_)
      refine s_nil (xs_held [3, 3] ?_)
      refine h_stepS 14 ?_
      refine s_store 2 #[iw (((onext S (ofI ((j : Int) + 1))).1).kind), iw (((onext S (ofI ((j : Int) + 1))).1).p), iw (((onext S (ofI ((j : Int) + 1))).1).q), sw (((onext S (ofI ((j : Int) + 1))).1).str), iw (((onext S (ofI ((j : Int) + 1))).1).ref)] ?_
      refine s_nil (xs_held [3, 3] ?_)
      refine h_stepS 15 ?_
      refine s_store 0 #[iw (((onext S (ofI ((j : Int) + 1))).2.1).kind), iw (((onext S (ofI ((j : Int) + 1))).2.1).p), iw (((onext S (ofI ((j : Int) + 1))).2.1).q), sw (((onext S (ofI ((j : Int) + 1))).2.1).str), iw (((onext S (ofI ((j : Int) + 1))).2.1).ref)] ?_
      refine s_nil (xs_held [3, 3] ?_)
      refine hp_ 16 [3, 3] (.bool ((onext S (ofI ((j : Int) + 1))).2.2.1)) ?_
      refine hp_ 17 [3, 3] (iw ((onext S (ofI ((j : Int) + 1))).2.2.2)) ?_
      refine h_doneS ?_
      exact xcut () (fun _ h => h.re [3, 3, 1] [3, 3])
     ·
      refine s_alloc (.agg zc) zc (fun g12 => ?_)
      refine s_nil (xs_held [2, 2] ?_)
      refine h_stepS 6 ?_
      refine s_call [4] (rmnext_s (S := S) (by (try simp only [lnm]); omega) (ofI ((j : Int) + 1))) ?_
      rintro _ _ ⟨rfl, rfl⟩
      refine s_nil (xs_held [3, 3] ?_)
      refine hp_ 7 [3, 3] (.tuple #[.agg #[iw (((onext S (ofI ((j : Int) + 1))).1).kind), iw (((onext S (ofI ((j : Int) + 1))).1).p), iw (((onext S (ofI ((j : Int) + 1))).1).q), sw (((onext S (ofI ((j : Int) + 1))).1).str), iw (((onext S (ofI ((j : Int) + 1))).1).ref)], .agg #[iw (((onext S (ofI ((j : Int) + 1))).2.1).kind), iw (((onext S (ofI ((j : Int) + 1))).2.1).p), iw (((onext S (ofI ((j : Int) + 1))).2.1).q), sw (((onext S (ofI ((j : Int) + 1))).2.1).str), iw (((onext S (ofI ((j : Int) + 1))).2.1).ref)], .bool ((onext S (ofI ((j : Int) + 1))).2.2.1), iw ((onext S (ofI ((j : Int) + 1))).2.2.2)]) ?_
      refine hp_ 8 [3, 3] (.agg #[iw (((onext S (ofI ((j : Int) + 1))).1).kind), iw (((onext S (ofI ((j : Int) + 1))).1).p), iw (((onext S (ofI ((j : Int) + 1))).1).q), sw (((onext S (ofI ((j : Int) + 1))).1).str), iw (((onext S (ofI ((j : Int) + 1))).1).ref)]) ?_
      refine hp_ 9 [3, 3] (.agg #[iw (((onext S (ofI ((j : Int) + 1))).2.1).kind), iw (((onext S (ofI ((j : Int) + 1))).2.1).p), iw (((onext S (ofI ((j : Int) + 1))).2.1).q), sw (((onext S (ofI ((j : Int) + 1))).2.1).str), iw (((onext S (ofI ((j : Int) + 1))).2.1).ref)]) ?_
      refine hp_ 10 [3, 3] (.bool ((onext S (ofI ((j : Int) + 1))).2.2.1)) ?_
      refine hp_ 11 [3, 3] (iw ((onext S (ofI ((j : Int) + 1))).2.2.2)) ?_
      refine h_stepS 14 ?_
      refine s_store 2 #[iw (((onext S (ofI ((j : Int) + 1))).1).kind), iw (((onext S (ofI ((j : Int) + 1))).1).p), iw (((onext S (ofI ((j : Int) + 1))).1).q), sw (((onext S (ofI ((j : Int) + 1))).1).str), iw (((onext S (ofI ((j : Int) + 1))).1).ref)] ?_
      refine s_nil (xs_held [3, 3] ?_)
      refine h_stepS 15 ?_
      refine s_store 1 #[iw (((onext S (ofI ((j : Int) + 1))).2.1).kind), iw (((onext S (ofI ((j : Int) + 1))).2.1).p), iw (((onext S (ofI ((j : Int) + 1))).2.1).q), sw (((onext S (ofI ((j : Int) + 1))).2.1).str), iw (((onext S (ofI ((j : Int) + 1))).2.1).ref)] ?_
      refine s_nil (xs_held [3, 3] ?_)
      refine hp_ 16 [3, 3] (.bool ((onext S (ofI ((j : Int) + 1))).2.2.1)) ?_
      refine hp_ 17 [3, 3] (iw ((onext S (ofI ((j : Int) + 1))).2.2.2)) ?_
      refine h_doneS ?_
      exact xcut () (fun _ h => h.re [3, 3, 0] [3, 3])
    ·
     refine s_alloc (.agg zc) zc (fun g13 => ?_)
     refine s_nil (xs_held [1, 1] ?_)
     refine h_stepS2 6 12 ?_ ?_
     ·
      refine s_call [3] (rmnext_s (S := S) (by (try simp only [lnm]); omega) (ofI ((j : Int) + 1))) ?_
      rintro _ _ ⟨rfl, rfl⟩
      refine s_nil (xs_held [2, 2] ?_)
      refine hp_ 7 [2, 2] (.tuple #[.agg #[iw (((onext S (ofI ((j : Int) + 1))).1).kind), iw (((onext S (ofI ((j : Int) + 1))).1).p), iw (((onext S (ofI ((j : Int) + 1))).1).q), sw (((onext S (ofI ((j : Int) + 1))).1).str), iw (((onext S (ofI ((j : Int) + 1))).1).ref)], .agg #[iw (((onext S (ofI ((j : Int) + 1))).2.1).kind), iw (((onext S (ofI ((j : Int) + 1))).2.1).p), iw (((onext S (ofI ((j : Int) + 1))).2.1).q), sw (((onext S (ofI ((j : Int) + 1))).2.1).str), iw (((onext S (ofI ((j : Int) + 1))).2.1).ref)], .bool ((onext S (ofI ((j : Int) + 1))).2.2.1), iw ((onext S (ofI ((j : Int) + 1))).2.2.2)]) ?_
      refine hp_ 8 [2, 2] (.agg #[iw (((onext S (ofI ((j : Int) + 1))).1).kind), iw (((onext S (ofI ((j : Int) + 1))).1).p), iw (((onext S (ofI ((j : Int) + 1))).1).q), sw (((onext S (ofI ((j : Int) + 1))).1).str), iw (((onext S (ofI ((j : Int) + 1))).1).ref)]) ?_
      refine hp_ 9 [2, 2] (.agg #[iw (((onext S (ofI ((j : Int) + 1))).2.1).kind), iw (((onext S (ofI ((j : Int) + 1))).2.1).p), iw (((onext S (ofI ((j : Int) + 1))).2.1).q), sw (((onext S (ofI ((j : Int) + 1))).2.1).str), iw (((onext S (ofI ((j : Int) + 1))).2.1).ref)]) ?_
      refine hp_ 10 [2, 2] (.bool ((onext S (ofI ((j : Int) + 1))).2.2.1)) ?_
      refine hp_ 11 [2, 2] (iw ((onext S (ofI ((j : Int) + 1))).2.2.2)) ?_
      refine h_stepS 12 ?_
      refine s_alloc (.agg zc) zc (fun g14 => ?_)
      refine s_nil (xs_held [3, 3] ?_)
      refine h_stepS 14 ?_
      refine s_store 0 #[iw (((onext S (ofI ((j : Int) + 1))).1).kind), iw (((onext S (ofI ((j : Int) + 1))).1).p), iw (((onext S (ofI ((j : Int) + 1))).1).q), sw (((onext S (ofI ((j : Int) + 1))).1).str), iw (((onext S (ofI ((j : Int) + 1))).1).ref)] ?_
      refine s_nil (xs_held [3, 3] ?_)
      refine h_stepS 15 ?_
      refine s_store 2 #[iw (((onext S (ofI ((j : Int) + 1))).2.1).kind), iw (((onext S (ofI ((j : Int) + 1))).2.1).p), iw (((onext S (ofI ((j : Int) + 1))).2.1).q), sw (((onext S (ofI ((j : Int) + 1))).2.1).str), iw (((onext S (ofI ((j : Int) + 1))).2.1).ref)] ?_
      refine s_nil (xs_held [3, 3] ?_)
      refine hp_ 16 [3, 3] (.bool ((onext S (ofI ((j : Int) + 1))).2.2.1)) ?_
      refine hp_ 17 [3, 3] (iw ((onext S (ofI ((j : Int) + 1))).2.2.2)) ?_
      refine h_doneS ?_
      exact xcut () (fun _ h => h.re [3, 3, 1] [3, 3])
     ·
      refine s_alloc (.agg zc) zc (fun g15 => ?_)
      refine s_nil (xs_held [2, 2] ?_)
      refine h_stepS 6 ?_
      refine s_call [4] (rmnext_s (S := S) (by (try simp only [lnm]); omega) (ofI ((j : Int) + 1))) ?_
      rintro _ _ ⟨rfl, rfl⟩
      refine s_nil (xs_held [3, 3] ?_)
      refine hp_ 7 [3, 3] (.tuple #[.agg #[iw (((onext S (ofI ((j : Int) + 1))).1).kind), iw (((onext S (ofI ((j : Int) + 1))).1).p), iw (((onext S (ofI ((j : Int) + 1))).1).q), sw (((onext S (ofI ((j : Int) + 1))).1).str), iw (((onext S (ofI ((j : Int) + 1))).1).ref)], .agg #[iw (((onext S (ofI ((j : Int) + 1))).2.1).kind), iw (((onext S (ofI ((j : Int) + 1))).2.1).p), iw (((onext S (ofI ((j : Int) + 1))).2.1).q), sw (((onext S (ofI ((j : Int) + 1))).2.1).str), iw (((onext S (ofI ((j : Int) + 1))).2.1).ref)], .bool ((onext S (ofI ((j : Int) + 1))).2.2.1), iw ((onext S (ofI ((j : Int) + 1))).2.2.2)]) ?_
      refine hp_ 8 [3, 3] (.agg #[iw (((onext S (ofI ((j : Int) + 1))).1).kind), iw (((onext S (ofI ((j : Int) + 1))).1).p), iw (((onext S (ofI ((j : Int) + 1))).1).q), sw (((onext S (ofI ((j : Int) + 1))).1).str), iw (((onext S (ofI ((j : Int) + 1))).1).ref)]) ?_
      refine hp_ 9 [3, 3] (.agg #[iw (((onext S (ofI ((j : Int) + 1))).2.1).kind), iw (((onext S (ofI ((j : Int) + 1))).2.1).p), iw (((onext S (ofI ((j : Int) + 1))).2.1).q), sw (((onext S (ofI ((j : Int) + 1))).2.1).str), iw (((onext S (ofI ((j : Int) + 1))).2.1).ref)]) ?_
      refine hp_ 10 [3, 3] (.bool ((onext S (ofI ((j : Int) + 1))).2.2.1)) ?_
      refine hp_ 11 [3, 3] (iw ((onext S (ofI ((j : Int) + 1))).2.2.2)) ?_
      refine h_stepS 14 ?_
      refine s_store 1 #[iw (((onext S (ofI ((j : Int) + 1))).1).kind), iw (((onext S (ofI ((j : Int) + 1))).1).p), iw (((onext S (ofI ((j : Int) + 1))).1).q), sw (((onext S (ofI ((j : Int) + 1))).1).str), iw (((onext S (ofI ((j : Int) + 1))).1).ref)] ?_
      refine s_nil (xs_held [3, 3] ?_)
      refine h_stepS 15 ?_
      refine s_store 2 #[iw (((onext S (ofI ((j : Int) + 1))).2.1).kind), iw (((onext S (ofI ((j : Int) + 1))).2.1).p), iw (((onext S (ofI ((j : Int) + 1))).2.1).q), sw (((onext S (ofI ((j : Int) + 1))).2.1).str), iw (((onext S (ofI ((j : Int) + 1))).2.1).ref)] ?_
      refine s_nil (xs_held [3, 3] ?_)
      refine hp_ 16 [3, 3] (.bool ((onext S (ofI ((j : Int) + 1))).2.2.1)) ?_
      refine hp_ 17 [3, 3] (iw ((onext S (ofI ((j : Int) + 1))).2.2.2)) ?_
      refine h_doneS ?_
      exact xcut () (fun _ h => h.re [3, 3, 0] [3, 3])
   ·
    refine s_alloc (.agg zc) zc (fun g16 => ?_)
    refine s_nil (xs_held [1, 1] ?_)
    refine h_stepS2 5 13 ?_ ?_
    ·
     refine s_vcall (fun _ h => rkey_s ((j : Int) + 1)) ?_
     rintro _ rfl
     refine s_nil (xs_held [1, 1] ?_)
     refine h_stepS2 6 13 ?_ ?_
     ·
      refine s_call [3] (rmnext_s (S := S) (by (try simp only [lnm]); omega) (ofI ((j : Int) + 1))) ?_
      rintro _ _ ⟨rfl, rfl⟩
      refine s_nil (xs_held [2, 2] ?_)
      refine hp_ 7 [2, 2] (.tuple #[.agg #[iw (((onext S (ofI ((j : Int) + 1))).1).kind), iw (((onext S (ofI ((j : Int) + 1))).1).p), iw (((onext S (ofI ((j : Int) + 1))).1).q), sw (((onext S (ofI ((j : Int) + 1))).1).str), iw (((onext S (ofI ((j : Int) + 1))).1).ref)], .agg #[iw (((onext S (ofI ((j : Int) + 1))).2.1).kind), iw (((onext S (ofI ((j : Int) + 1))).2.1).p), iw (((onext S (ofI ((j : Int) + 1))).2.1).q), sw (((onext S (ofI ((j : Int) + 1))).2.1).str), iw (((onext S (ofI ((j : Int) + 1))).2.1).ref)], .bool ((onext S (ofI ((j : Int) + 1))).2.2.1), iw ((onext S (ofI ((j : Int) + 1))).2.2.2)]) ?_
      refine hp_ 8 [2, 2] (.agg #[iw (((onext S (ofI ((j : Int) + 1))).1).kind), iw (((onext S (ofI ((j : Int) + 1))).1).p), iw (((onext S (ofI ((j : Int) + 1))).1).q), sw (((onext S (ofI ((j : Int) + 1))).1).str), iw (((onext S (ofI ((j : Int) + 1))).1).ref)]) ?_
      refine hp_ 9 [2, 2] (.agg #[iw (((onext S (ofI ((j : Int) + 1))).2.1).kind), iw (((onext S (ofI ((j : Int) + 1))).2.1).p), iw (((onext S (ofI ((j : Int) + 1))).2.1).q), sw (((onext S (ofI ((j : Int) + 1))).2.1).str), iw (((onext S (ofI ((j : Int) + 1))).2.1).ref)]) ?_
      refine hp_ 10 [2, 2] (.bool ((onext S (ofI ((j : Int) + 1))).2.2.1)) ?_
      refine hp_ 11 [2, 2] (iw ((onext S (ofI ((j : Int) + 1))).2.2.2)) ?_
      refine h_stepS 13 ?_
      refine s_alloc (.agg zc) zc (fun g17 => ?_)
      refine s_nil (xs_held [3, 3] ?_)
      refine h_stepS 14 ?_
      refine s_store 2 #[iw (((onext S (ofI ((j : Int) + 1))).1).kind), iw (((onext S (ofI ((j : Int) + 1))).1).p), iw (((onext S (ofI ((j : Int) + 1))).1).q), sw (((onext S (ofI ((j : Int) + 1))).1).str), iw (((onext S (ofI ((j : Int) + 1))).1).ref)] ?_
      refine s_nil (xs_held [3, 3] ?_)
      refine h_stepS 15 ?_
      refine s_store 0 #[iw (((onext S (ofI ((j : Int) + 1))).2.1).kind), iw (((onext S (ofI ((j : Int) + 1))).2.1).p), iw (((onext S (ofI ((j : Int) + 1))).2.1).q), sw (((onext S (ofI ((j : Int) + 1))).2.1).str), iw (((onext S (ofI ((j : Int) + 1))).2.1).ref)] ?_
      refine s_nil (xs_held [3, 3] ?_)
      refine hp_ 16 [3, 3] (.bool ((onext S (ofI ((j : Int) + 1))).2.2.1)) ?_
      refine hp_ 17 [3, 3] (iw ((onext S (ofI ((j : Int) + 1))).2.2.2)) ?_
      refine h_doneS ?_
      exact xcut () (fun _ h => h.re [3, 3, 1] [3, 3])
     ·
      refine s_alloc (.agg zc) zc (fun g18 => ?_)
      refine s_nil (xs_held [2, 2] ?_)
      refine h_stepS 6 ?_
      refine s_call [4] (rmnext_s (S := S) (by (try simp only [lnm]); omega) (ofI ((j : Int) + 1))) ?_
      rintro _ _ ⟨rfl, rfl⟩
      refine s_nil (xs_held [3, 3] ?_)
      refine hp_ 7 [3, 3] (.tuple #[.agg #[iw (((onext S (ofI ((j : Int) + 1))).1).kind), iw (((onext S (ofI ((j : Int) + 1))).1).p), iw (((onext S (ofI ((j : Int) + 1))).1).q), sw (((onext S (ofI ((j : Int) + 1))).1).str), iw (((onext S (ofI ((j : Int) + 1))).1).ref)], .agg #[iw (((onext S (ofI ((j : Int) + 1))).2.1).kind), iw (((onext S (ofI ((j : Int) + 1))).2.1).p), iw (((onext S (ofI ((j : Int) + 1))).2.1).q), sw (((onext S (ofI ((j : Int) + 1))).2.1).str), iw (((onext S (ofI ((j : Int) + 1))).2.1).ref)], .bool ((onext S (ofI ((j : Int) + 1))).2.2.1), iw ((onext S (ofI ((j : Int) + 1))).2.2.2)]) ?_
      refine hp_ 8 [3, 3] (.agg #[iw (((onext S (ofI ((j : Int) + 1))).1).kind), iw (((onext S (ofI ((j : Int) + 1))).1).p), iw (((onext S (ofI ((j : Int) + 1))).1).q), sw (((onext S (ofI ((j : Int) + 1))).1).str), iw (((onext S (ofI ((j : Int) + 1))).1).ref)]) ?_
      refine hp_ 9 [3, 3] (.agg #[iw (((onext S (ofI ((j : Int) + 1))).2.1).kind), iw (((onext S (ofI ((j : Int) + 1))).2.1).p), iw (((onext S (ofI ((j : Int) + 1))).2.1).q), sw (((onext S (ofI ((j : Int) + 1))).2.1).str), iw (((onext S (ofI ((j : Int) + 1))).2.1).ref)]) ?_
      refine hp_ 10 [3, 3] (.bool ((onext S (ofI ((j : Int) + 1))).2.2.1)) ?_
      refine hp_ 11 [3, 3] (iw ((onext S (ofI ((j : Int) + 1))).2.2.2)) ?_
      refine h_stepS 14 ?_
      refine s_store 2 #[iw (((onext S (ofI ((j : Int) + 1))).1).kind), iw (((onext S (ofI ((j : Int) + 1))).1).p), iw (((onext S (ofI ((j : Int) + 1))).1).q), sw (((onext S (ofI ((j : Int) + 1))).1).str), iw (((onext S (ofI ((j : Int) + 1))).1).ref)] ?_
      refine s_nil (xs_held [3, 3] ?_)
      refine h_stepS 15 ?_
      refine s_store 1 #[iw (((onext S (ofI ((j : Int) + 1))).2.1).kind), iw (((onext S (ofI ((j : Int) + 1))).2.1).p), iw (((onext S (ofI ((j : Int) + 1))).2.1).q), sw (((onext S (ofI ((j : Int) + 1))).2.1).str), iw (((onext S (ofI ((j : Int) + 1))).2.1).ref)] ?_
      refine s_nil (xs_held [3, 3] ?_)
      refine hp_ 16 [3, 3] (.bool ((onext S (ofI ((j : Int) + 1))).2.2.1)) ?_
      refine hp_ 17 [3, 3] (iw ((onext S (ofI ((j : Int) + 1))).2.2.2)) ?_
      refine h_doneS ?_
      exact xcut () (fun _ h => h.re [3, 3, 0] [3, 3])
    ·
     refine s_alloc (.agg zc) zc (fun g19 => ?_)
     refine s_nil (xs_held [2, 2] ?_)
     refine h_stepS 5 ?_
     refine s_vcall (fun _ h => rkey_s ((j : Int) + 1)) ?_
     rintro _ rfl
     refine s_nil (xs_held [2, 2] ?_)
     refine h_stepS 6 ?_
     refine s_call [4] (rmnext_s (S := S) (by (try simp only [lnm]); omega) (ofI ((j : Int) + 1))) ?_
     rintro _ _ ⟨rfl, rfl⟩
     refine s_nil (xs_held [3, 3] ?_)
     refine hp_ 7 [3, 3] (.tuple #[.agg #[iw (((onext S (ofI ((j : Int) + 1))).1).kind), iw (((onext S (ofI ((j : Int) + 1))).1).p), iw (((onext S (ofI ((j : Int) + 1))).1).q), sw (((onext S (ofI ((j : Int) + 1))).1).str), iw (((onext S (ofI ((j : Int) + 1))).1).ref)], .agg #[iw (((onext S (ofI ((j : Int) + 1))).2.1).kind), iw (((onext S (ofI ((j : Int) + 1))).2.1).p), iw (((onext S (ofI ((j : Int) + 1))).2.1).q), sw (((onext S (ofI ((j : Int) + 1))).2.1).str), iw (((onext S (ofI ((j : Int) + 1))).2.1).ref)], .bool ((onext S (ofI ((j : Int) + 1))).2.2.1), iw ((onext S (ofI ((j : Int) + 1))).2.2.2)]) ?_
     refine hp_ 8 [3, 3] (.agg #[iw (((onext S (ofI ((j : Int) + 1))).1).kind), iw (((onext S (ofI ((j : Int) + 1))).1).p), iw (((onext S (ofI ((j : Int) + 1))).1).q), sw (((onext S (ofI ((j : Int) + 1))).1).str), iw (((onext S (ofI ((j : Int) + 1))).1).ref)]) ?_
     refine hp_ 9 [3, 3] (.agg #[iw (((onext S (ofI ((j : Int) + 1))).2.1).kind), iw (((onext S (ofI ((j : Int) + 1))).2.1).p), iw (((onext S (ofI ((j : Int) + 1))).2.1).q), sw (((onext S (ofI ((j : Int) + 1))).2.1).str), iw (((onext S (ofI ((j : Int) + 1))).2.1).ref)]) ?_
     refine hp_ 10 [3, 3] (.bool ((onext S (ofI ((j : Int) + 1))).2.2.1)) ?_
     refine hp_ 11 [3, 3] (iw ((onext S (ofI ((j : Int) + 1))).2.2.2)) ?_
     refine h_stepS 14 ?_
     refine s_store 2 #[iw (((onext S (ofI ((j : Int) + 1))).1).kind), iw (((onext S (ofI ((j : Int) + 1))).1).p), iw (((onext S (ofI ((j : Int) + 1))).1).q), sw (((onext S (ofI ((j : Int) + 1))).1).str), iw (((onext S (ofI ((j : Int) + 1))).1).ref)] ?_
     refine s_nil (xs_held [3, 3] ?_)
     refine h_stepS 15 ?_
     refine s_store 1 #[iw (((onext S (ofI ((j : Int) + 1))).2.1).kind), iw (((onext S (ofI ((j : Int) + 1))).2.1).p), iw (((onext S (ofI ((j : Int) + 1))).2.1).q), sw (((onext S (ofI ((j : Int) + 1))).2.1).str), iw (((onext S (ofI ((j : Int) + 1))).2.1).ref)] ?_
     refine s_nil (xs_held [3, 3] ?_)
     refine hp_ 16 [3, 3] (.bool ((onext S (ofI ((j : Int) + 1))).2.2.1)) ?_
     refine hp_ 17 [3, 3] (iw ((onext S (ofI ((j : Int) + 1))).2.2.2)) ?_
     refine h_doneS ?_
     exact xcut () (fun _ h => h.re [3, 3, 0] [3, 3])
   ·
    refine s_alloc (.agg zc) zc (fun g20 => ?_)
    refine s_nil (xs_held [1, 1] ?_)
    refine h_stepS2 5 12 ?_ ?_
    ·
     refine s_vcall (fun _ h => rkey_s ((j : Int) + 1)) ?_
     rintro _ rfl
     refine s_nil (xs_held [1, 1] ?_)
     refine h_stepS2 6 12 ?_ ?_
     ·
      refine s_call [3] (rmnext_s (S := S) (by (try simp only [lnm]); omega) (ofI ((j : Int) + 1))) ?_
      rintro _ _ ⟨rfl, rfl⟩
      refine s_nil (xs_held [2, 2] ?_)
      refine hp_ 7 [2, 2] (.tuple #[.agg #[iw (((onext S (ofI ((j : Int) + 1))).1).kind), iw (((onext S (ofI ((j : Int) + 1))).1).p), iw (((onext S (ofI ((j : Int) + 1))).1).q), sw (((onext S (ofI ((j : Int) + 1))).1).str), iw (((onext S (ofI ((j : Int) + 1))).1).ref)], .agg #[iw (((onext S (ofI ((j : Int) + 1))).2.1).kind), iw (((onext S (ofI ((j : Int) + 1))).2.1).p), iw (((onext S (ofI ((j : Int) + 1))).2.1).q), sw (((onext S (ofI ((j : Int) + 1))).2.1).str), iw (((onext S (ofI ((j : Int) + 1))).2.1).ref)], .bool ((onext S (ofI ((j : Int) + 1))).2.2.1), iw ((onext S (ofI ((j : Int) + 1))).2.2.2)]) ?_
      refine hp_ 8 [2, 2] (.agg #[iw (((onext S (ofI ((j : Int) + 1))).1).kind), iw (((onext S (ofI ((j : Int) + 1))).1).p), iw (((onext S (ofI ((j : Int) + 1))).1).q), sw (((onext S (ofI ((j : Int) + 1))).1).str), iw (((onext S (ofI ((j : Int) + 1))).1).ref)]) ?_
      refine hp_ 9 [2, 2] (.agg #[iw (((onext S (ofI ((j : Int) + 1))).2.1).kind), iw (((onext S (ofI ((j : Int) + 1))).2.1).p), iw (((onext S (ofI ((j : Int) + 1))).2.1).q), sw (((onext S (ofI ((j : Int) + 1))).2.1).str), iw (((onext S (ofI ((j : Int) + 1))).2.1).ref)]) ?_
      refine hp_ 10 [2, 2] (.bool ((onext S (ofI ((j : Int) + 1))).2.2.1)) ?_
      refine hp_ 11 [2, 2] (iw ((onext S (ofI ((j : Int) + 1))).2.2.2)) ?_
      refine h_stepS 12 ?_
      refine s_alloc (.agg zc) zc (fun g21 => ?_)
      refine s_nil (xs_held [3, 3] ?_)
      refine h_stepS 14 ?_
      refine s_store 0 #[iw (((onext S (ofI ((j : Int) + 1))).1).kind), iw (((onext S (ofI ((j : Int) + 1))).1).p), iw (((onext S (ofI ((j : Int) + 1))).1).q), sw (((onext S (ofI ((j : Int) + 1))).1).str), iw (((onext S (ofI ((j : Int) + 1))).1).ref)] ?_
      refine s_nil (xs_held [3, 3] ?_)
      refine h_stepS 15 ?_
      refine s_store 2 #[iw (((onext S (ofI ((j : Int) + 1))).2.1).kind), iw (((onext S (ofI ((j : Int) + 1))).2.1).p), iw (((onext S (ofI ((j : Int) + 1))).2.1).q), sw (((onext S (ofI ((j : Int) + 1))).2.1).str), iw (((onext S (ofI ((j : Int) + 1))).2.1).ref)] ?_
      refine s_nil (xs_held [3, 3] ?_)
      refine hp_ 16 [3, 3] (.bool ((onext S (ofI ((j : Int) + 1))).2.2.1)) ?_
      refine hp_ 17 [3, 3] (iw ((onext S (ofI ((j : Int) + 1))).2.2.2)) ?_
      refine h_doneS ?_
      exact xcut () (fun _ h => h.re [3, 3, 1] [3, 3])
     ·
      refine s_alloc (.agg zc) zc (fun g22 => ?_)
      refine s_nil (xs_held [2, 2] ?_)
      refine h_stepS 6 ?_
      refine s_call [4] (rmnext_s (S := S) (by (try simp only [lnm]); omega) (ofI ((j : Int) + 1))) ?_
      rintro _ _ ⟨rfl, rfl⟩
      refine s_nil (xs_held [3, 3] ?_)
      refine hp_ 7 [3, 3] (.tuple #[.agg #[iw (((onext S (ofI ((j : Int) + 1))).1).kind), iw (((onext S (ofI ((j : Int) + 1))).1).p), iw (((onext S (ofI ((j : Int) + 1))).1).q), sw (((onext S (ofI ((j : Int) + 1))).1).str), iw (((onext S (ofI ((j : Int) + 1))).1).ref)], .agg #[iw (((onext S (ofI ((j : Int) + 1))).2.1).kind), iw (((onext S (ofI ((j : Int) + 1))).2.1).p), iw (((onext S (ofI ((j : Int) + 1))).2.1).q), sw (((onext S (ofI ((j : Int) + 1))).2.1).str), iw (((onext S (ofI ((j : Int) + 1))).2.1).ref)], .bool ((onext S (ofI ((j : Int) + 1))).2.2.1), iw ((onext S (ofI ((j : Int) + 1))).2.2.2)]) ?_
      refine hp_ 8 [3, 3] (.agg #[iw (((onext S (ofI ((j : Int) + 1))).1).kind), iw (((onext S (ofI ((j : Int) + 1))).1).p), iw (((onext S (ofI ((j : Int) + 1))).1).q), sw (((onext S (ofI ((j : Int) + 1))).1).str), iw (((onext S (ofI ((j : Int) + 1))).1).ref)]) ?_
      refine hp_ 9 [3, 3] (.agg #[iw (((onext S (ofI ((j : Int) + 1))).2.1).kind), iw (((onext S (ofI ((j : Int) + 1))).2.1).p), iw (((onext S (ofI ((j : Int) + 1))).2.1).q), sw (((onext S (ofI ((j : Int) + 1))).2.1).str), iw (((onext S (ofI ((j : Int) + 1))).2.1).ref)]) ?_
      refine hp_ 10 [3, 3] (.bool ((onext S (ofI ((j : Int) + 1))).2.2.1)) ?_
      refine hp_ 11 [3, 3] (iw ((onext S (ofI ((j : Int) + 1))).2.2.2)) ?_
      refine h_stepS 14 ?_
      refine s_store 1 #[iw (((onext S (ofI ((j : Int) + 1))).1).kind), iw (((onext S (ofI ((j : Int) + 1))).1).p), iw (((onext S (ofI ((j : Int) + 1))).1).q), sw (((onext S (ofI ((j : Int) + 1))).1).str), iw (((onext S (ofI ((j : Int) + 1))).1).ref)] ?_
      refine s_nil (xs_held [3, 3] ?_)
      refine h_stepS 15 ?_
      refine s_store 2 #[iw (((onext S (ofI ((j : Int) + 1))).2.1).kind), iw (((onext S (ofI ((j : Int) + 1))).2.1).p), iw (((onext S (ofI ((j : Int) + 1))).2.1).q), sw (((onext S (ofI ((j : Int) + 1))).2.1).str), iw (((onext S (ofI ((j : Int) + 1))).2.1).ref)] ?_
      refine s_nil (xs_held [3, 3] ?_)
      refine hp_ 16 [3, 3] (.bool ((onext S (ofI ((j : Int) + 1))).2.2.1)) ?_
      refine hp_ 17 [3, 3] (iw ((onext S (ofI ((j : Int) + 1))).2.2.2)) ?_
      refine h_doneS ?_
      exact xcut () (fun _ h => h.re [3, 3, 0] [3, 3])
    ·
     refine s_alloc (.agg zc) zc (fun g23 => ?_)
     refine s_nil (xs_held [2, 2] ?_)
     refine h_stepS 5 ?_
     refine s_vcall (fun _ h => rkey_s ((j : Int) + 1)) ?_
     rintro _ rfl
     refine s_nil (xs_held [2, 2] ?_)
     refine h_stepS 6 ?_
     refine s_call [4] (rmnext_s (S := S) (by (try simp only [lnm]); omega) (ofI ((j : Int) + 1))) ?_
     rintro _ _ ⟨rfl, rfl⟩
     refine s_nil (xs_held [3, 3] ?_)
     refine hp_ 7 [3, 3] (.tuple #[.agg #[iw (((onext S (ofI ((j : Int) + 1))).1).kind), iw (((onext S (ofI ((j : Int) + 1))).1).p), iw (((onext S (ofI ((j : Int) + 1))).1).q), sw (((onext S (ofI ((j : Int) + 1))).1).str), iw (((onext S (ofI ((j : Int) + 1))).1).ref)], .agg #[iw (((onext S (ofI ((j : Int) + 1))).2.1).kind), iw (((onext S (ofI ((j : Int) + 1))).2.1).p), iw (((onext S (ofI ((j : Int) + 1))).2.1).q), sw (((onext S (ofI ((j : Int) + 1))).2.1).str), iw (((onext S (ofI ((j : Int) + 1))).2.1).ref)], .bool ((onext S (ofI ((j : Int) + 1))).2.2.1), iw ((onext S (ofI ((j : Int) + 1))).2.2.2)]) ?_
     refine hp_ 8 [3, 3] (.agg #[iw (((onext S (ofI ((j : Int) + 1))).1).kind), iw (((onext S (ofI ((j : Int) + 1))).1).p), iw (((onext S (ofI ((j : Int) + 1))).1).q), sw (((onext S (ofI ((j : Int) + 1))).1).str), iw (((onext S (ofI ((j : Int) + 1))).1).ref)]) ?_
     refine hp_ 9 [3, 3] (.agg #[iw (((onext S (ofI ((j : Int) + 1))).2.1).kind), iw (((onext S (ofI ((j : Int) + 1))).2.1).p), iw (((onext S (ofI ((j : Int) + 1))).2.1).q), sw (((onext S (ofI ((j : Int) + 1))).2.1).str), iw (((onext S (ofI ((j : Int) + 1))).2.1).ref)]) ?_
     refine hp_ 10 [3, 3] (.bool ((onext S (ofI ((j : Int) + 1))).2.2.1)) ?_
     refine hp_ 11 [3, 3] (iw ((onext S (ofI ((j : Int) + 1))).2.2.2)) ?_
     refine h_stepS 14 ?_
     refine s_store 1 #[iw (((onext S (ofI ((j : Int) + 1))).1).kind), iw (((onext S (ofI ((j : Int) + 1))).1).p), iw (((onext S (ofI ((j : Int) + 1))).1).q), sw (((onext S (ofI ((j : Int) + 1))).1).str), iw (((onext S (ofI ((j : Int) + 1))).1).ref)] ?_
     refine s_nil (xs_held [3, 3] ?_)
     refine h_stepS 15 ?_
     refine s_store 2 #[iw (((onext S (ofI ((j : Int) + 1))).2.1).kind), iw (((onext S (ofI ((j : Int) + 1))).2.1).p), iw (((onext S (ofI ((j : Int) + 1))).2.1).q), sw (((onext S (ofI ((j : Int) + 1))).2.1).str), iw (((onext S (ofI ((j : Int) + 1))).2.1).ref)] ?_
     refine s_nil (xs_held [3, 3] ?_)
     refine hp_ 16 [3, 3] (.bool ((onext S (ofI ((j : Int) + 1))).2.2.1)) ?_
     refine hp_ 17 [3, 3] (iw ((onext S (ofI ((j : Int) + 1))).2.2.2)) ?_
     refine h_doneS ?_
     exact xcut () (fun _ h => h.re [3, 3, 0] [3, 3])
  ·
   refine k_reg ?_
   refine sp (.bool (staleB S n j)) ?_
   refine sp (.bool (staleB S n j)) ?_
   refine s_fork 37 (staleB S n j) (fun c24 => ?_) (fun c24 => ?_)
   ·
    refine s_skip ?_
    refine s_skip ?_
    refine sp (.bool true) ?_
    refine sp (.bool true) ?_
    refine s_nil <| xs_block ?_
    refine xs_then <| k_reg ?_
    refine sp (iw ((j : Int) + 1)) ?_
    refine s_lt (t_add ((j : Int) + 1) 1 (by (try simp only [lnm]); omega)) ?_
    refine sp (iw (((j : Int) + 1) + 1)) ?_
    refine s_nil ?_
    have hst : true = staleB S n (j + 1) := by rw [← stale_step S hi1.1]; first | rfl | simp [c4, c24]
    refine xs_mem (fun _ h => rt_shut (h.re [0, 0, 0] [])) ?_
    exact xs_round (j + 1) (by omega) ⟨by omega, by omega⟩ (sub_of rfl ⟨⟨rfl, rfl⟩, ⟨⟨rfl, congrArg Value.bool hst⟩, ⟨⟨rfl, rfl⟩, trivial⟩⟩⟩) (fun _ h => h.re [0] [])
   ·
    refine sp (iw ((onext S (ofI ((j : Int) + 1))).2.2.2)) ?_
    refine s_lt t_cmp ?_
    refine sp (.bool (decide ((onext S (ofI ((j : Int) + 1))).2.2.2 = 0))) ?_
    refine sp (.bool (decide ((onext S (ofI ((j : Int) + 1))).2.2.2 = 0))) ?_
    refine s_nil <| xs_block ?_
    refine xs_then <| k_reg ?_
    refine sp (iw ((j : Int) + 1)) ?_
    refine s_lt (t_add ((j : Int) + 1) 1 (by (try simp only [lnm]); omega)) ?_
    refine sp (iw (((j : Int) + 1) + 1)) ?_
    refine s_nil ?_
    have hst : (decide ((onext S (ofI ((j : Int) + 1))).2.2.2 = 0)) = staleB S n (j + 1) := by rw [← stale_step S hi1.1]; first | rfl | simp [c4, c24]
    refine xs_mem (fun _ h => rt_shut (h.re [0, 0, 0] [])) ?_
    exact xs_round (j + 1) (by omega) ⟨by omega, by omega⟩ (sub_of rfl ⟨⟨rfl, rfl⟩, ⟨⟨rfl, congrArg Value.bool hst⟩, ⟨⟨rfl, rfl⟩, trivial⟩⟩⟩) (fun _ h => h.re [0] [])
 ·
  have p25 := of_decide_eq_false c4
  refine k_exit ?_
  refine xs_exit ?_
  refine xs_exit ?_
  refine xs_here ?_
  refine xs_then <| k_seq <| k_sr <| sp (.bool (staleB S n j)) ?_
  refine sp (.bool (!(staleB S n j))) ?_
  refine s_nt <| k_cond (!(staleB S n j)) (fun c26 => ?_) (fun c26 => ?_)
  ·
   have c27 := not_t c26
   refine k_ret <| xs_ret <| xs_mem (fun _ h => rt_shut (h.re [0, 0, 0] [])) ?_
   have hj : j = L.length := by omega
   have hT : (if staleB S n L.length then purge S L.length else S) = S := by rw [if_neg (by rw [← hj, c27]; decide)]
   refine xs_fin [] (rtA b L S :: F) SI.nil (fun _ h => h.re [0] []) ⟨rfl, ?_⟩
   rw [hT]
  ·
   have c28 := not_f c26
   refine k_st <| k_sr <| s_pcall (fun _ h => rmnew_s) ?_
   rintro _ _ ⟨r29, rfl, rfl⟩
   refine sp (pB r29 0) ?_
   refine s_nr ?_
   refine sp (pB b 0) ?_
   refine sp (pB b 0) ?_
   refine sp (pB b 1) ?_
   refine s_lt (t_load 1 (pB r3 0)) ?_
   refine s_call [3] (rmkeys_s (S := S) (by (try simp only [lnm]); omega)) ?_
   rintro v30 _ rfl
   refine s_fact (fun H h => ((Acc.own (T := VlT) (L := (okeys S)) 0 rfl) H h).form) (fun hf31 => ?_)
   refine sp v30 ?_
   refine s_nt <| k_seq <| k_sr <| sp (iw 0) ?_
   refine s_nt <| k_block ?_
   refine k_mem (fun _ h => rt_shut (h.re [3, 3, 1] [])) ?_
   refine k_loop (ι := Nat) (fun i => i ≤ (okeys S).length) (fun i => [(0, pB b 0), (10, pB r29 0), (11, v30), (12, iw (i : Int))]) (fun i => rtA b L S :: own VlT v30 (okeys S) :: rmA r29 (purgeS S L.length i) :: F) (fun i => (okeys S).length - i) 0 (Nat.zero_le _) (sub_of rfl ⟨⟨rfl, rfl⟩, ⟨⟨rfl, rfl⟩, ⟨⟨rfl, rfl⟩, ⟨⟨rfl, rfl⟩, trivial⟩⟩⟩⟩) (fun _ h => h.re [0, 0, 0] []) ?_
   rintro i hi32
   show SK _ _ _ _ _ [(0, .pointer (some ⟨b, 0, none⟩)), (10, .pointer (some ⟨r29, 0, none⟩)), (11, v30), (12, iw (i : Int))] _ (rtA b L S :: own VlT v30 (okeys S) :: rmA r29 (purgeS S L.length i) :: F)
   have hpl := purgeS_len S L.length i
   refine k_seq <| k_sr <| sp (iw (i : Int)) ?_
   refine sp v30 ?_
   refine s_lt (t_len VlT_ok Tryz.underlying28 (.own 1)) ?_
   refine s_lt t_cmp ?_
   refine s_nt <| k_cond (decide ((i : Int) < ((okeys S).length : Int))) (fun c33 => ?_) (fun c33 => ?_)
   ·
    have p34 := of_decide_eq_true c33
    refine k_st <| k_seq <| k_block ?_
    refine k_sr <| sp v30 ?_
    refine sp (iw (i : Int)) ?_
    refine s_lt (t_index VlT_ok Tryz.underlying28 (.own 1) (i : Int) i (by omega) (by (try simp only [lnm]); omega) (by omega)) ?_
    obtain ⟨y35, hy36⟩ : ∃ y, (okeys S)[i]? = some y := ⟨_, List.getElem?_eq_getElem (by (try simp only [lnm]); omega)⟩
    obtain ⟨s37, hs38, rfl⟩ := okeys_get hy36
    refine s_lt (t_loadE VlT_ok (.own 1) hy36) ?_
    refine s_vcall (fun _ h => rwhole2_s s37.key) ?_
    rintro _ rfl
    refine sp (iw (whole s37.key)) ?_
    refine s_nr ?_
    refine sp (iw (whole s37.key)) ?_
    refine s_lt t_cmp ?_
    refine sp (.bool (decide ((whole s37.key) < 1))) ?_
    refine s_fork 62 (decide ((whole s37.key) < 1)) (fun c39 => ?_) (fun c39 => ?_)
    ·
     have p40 := of_decide_eq_true c39
     refine s_skip ?_
     refine s_skip ?_
     refine s_skip ?_
     refine s_skip ?_
     refine s_skip ?_
     refine s_skip ?_
     refine s_skip ?_
     refine sp (.bool true) ?_
     refine s_nt <| k_true ?_
     refine k_mem2 (fun H h => rt_open (h.re [0] [])) (fun lv41 r42 hw => ?_)
     refine k_held [blkA b #[lv41, pB r42 0] 229, own VlT lv41 L, own VlT v30 (okeys S)] ?_
     refine hp_ 0 [0, 0, 1] (pB r29 0) ?_
     refine hp_ 1 [0, 0, 1] v30 ?_
     refine hp_ 2 [0, 0, 1] (iw (i : Int)) ?_
     refine h_l 3 rfl [0, 0, 1] (fun _ => (t_index VlT_ok Tryz.underlying28 (.own 2) (i : Int) i (by omega) (by (try simp only [lnm]); omega) (by omega))) ?_
     refine h_l 4 rfl [0, 0, 1] (fun _ => (t_loadE VlT_ok (.own 2) hy36)) ?_
     refine hp_ 5 [0, 0, 1] (pB b 0) ?_
     refine hp_ 6 [0, 0, 1] (pB b 0) ?_
     refine hp_ 7 [0, 0, 1] (pB b 1) ?_
     refine h_l 8 rfl [0, 0, 1] (fun _ => (t_load 0 (pB r42 0))) ?_
     refine hp_ 9 [0, 0, 1] v30 ?_
     refine hp_ 10 [0, 0, 1] (iw (i : Int)) ?_
     refine h_l 11 rfl [0, 0, 1] (fun _ => (t_index VlT_ok Tryz.underlying28 (.own 2) (i : Int) i (by omega) (by (try simp only [lnm]); omega) (by omega))) ?_
     refine h_l 12 rfl [0, 0, 1] (fun _ => (t_loadE VlT_ok (.own 2) hy36)) ?_
     refine h_stepS 13 ?_
     refine s_call [2] (rmget_s (S := S) (by (try simp only [lnm]); omega) s37.key) ?_
     rintro _ _ ⟨rfl, rfl⟩
     refine s_nil (xs_held [1, 1, 1] ?_)
     refine h_stepS 14 ?_
     refine s_call [4] (rmset_s (S := (purgeS S L.length i)) (by (try simp only [lnm]); omega) s37.key (oget S s37.key)) ?_
     rintro _ _ ⟨rfl, rfl⟩
     refine s_nil (xs_held [2, 2, 2] ?_)
     refine h_doneS ?_
     refine xs_block ?_
     refine xs_then <| k_reg ?_
     refine sp (iw (i : Int)) ?_
     refine s_lt (t_add (i : Int) 1 (by (try simp only [lnm]); omega)) ?_
     refine sp (iw ((i : Int) + 1)) ?_
     refine s_nil ?_
     have hps := purge_step hinv0 (m := L.length) hs38
     have hib : inB (whole s37.key) L.length = false := inB_false (by omega)
     have hpe := hps.1 hib
     rw [hpe]
     refine xs_mem (fun _ h => rt_shut (h.re [2, 2, 1] [])) ?_
     exact xs_round (i + 1) (by omega) (by omega) (sub_of rfl ⟨⟨rfl, rfl⟩, ⟨⟨rfl, rfl⟩, ⟨⟨rfl, rfl⟩, ⟨⟨rfl, rfl⟩, trivial⟩⟩⟩⟩) (fun _ h => h.re [0, 1, 0] [])
    ·
     have p43 := of_decide_eq_false c39
     refine sp (iw (whole s37.key)) ?_
     refine sp (pB b 0) ?_
     refine sp (pB b 0) ?_
     refine sp (pB b 0) ?_
     refine s_mem2 (fun H h => rt_open (h.re [0] [])) (fun lv44 r45 hw => ?_)
     refine s_lt (t_load 0 lv44) ?_
     refine s_lt (t_len VlT_ok Tryz.underlying28 (.own 1)) ?_
     refine s_lt t_cmp ?_
     refine sp (.bool (decide ((L.length : Int) < (whole s37.key)))) ?_
     refine s_nt <| k_cond (decide ((L.length : Int) < (whole s37.key))) (fun c46 => ?_) (fun c46 => ?_)
     ·
      have p47 := of_decide_eq_true c46
      refine k_held [blkA b #[lv44, pB r45 0] 229, own VlT lv44 L, own VlT v30 (okeys S)] ?_
      refine hp_ 0 [0, 0, 1] (pB r29 0) ?_
      refine hp_ 1 [0, 0, 1] v30 ?_
      refine hp_ 2 [0, 0, 1] (iw (i : Int)) ?_
      refine h_l 3 rfl [0, 0, 1] (fun _ => (t_index VlT_ok Tryz.underlying28 (.own 2) (i : Int) i (by omega) (by (try simp only [lnm]); omega) (by omega))) ?_
      refine h_l 4 rfl [0, 0, 1] (fun _ => (t_loadE VlT_ok (.own 2) hy36)) ?_
      refine hp_ 5 [0, 0, 1] (pB b 0) ?_
      refine hp_ 6 [0, 0, 1] (pB b 0) ?_
      refine hp_ 7 [0, 0, 1] (pB b 1) ?_
      refine h_l 8 rfl [0, 0, 1] (fun _ => (t_load 0 (pB r45 0))) ?_
      refine hp_ 9 [0, 0, 1] v30 ?_
      refine hp_ 10 [0, 0, 1] (iw (i : Int)) ?_
      refine h_l 11 rfl [0, 0, 1] (fun _ => (t_index VlT_ok Tryz.underlying28 (.own 2) (i : Int) i (by omega) (by (try simp only [lnm]); omega) (by omega))) ?_
      refine h_l 12 rfl [0, 0, 1] (fun _ => (t_loadE VlT_ok (.own 2) hy36)) ?_
      refine h_stepS 13 ?_
      refine s_call [2] (rmget_s (S := S) (by (try simp only [lnm]); omega) s37.key) ?_
      rintro _ _ ⟨rfl, rfl⟩
      refine s_nil (xs_held [1, 1, 1] ?_)
      refine h_stepS 14 ?_
      refine s_call [4] (rmset_s (S := (purgeS S L.length i)) (by (try simp only [lnm]); omega) s37.key (oget S s37.key)) ?_
      rintro _ _ ⟨rfl, rfl⟩
      refine s_nil (xs_held [2, 2, 2] ?_)
      refine h_doneS ?_
      refine xs_block ?_
      refine xs_then <| k_reg ?_
      refine sp (iw (i : Int)) ?_
      refine s_lt (t_add (i : Int) 1 (by (try simp only [lnm]); omega)) ?_
      refine sp (iw ((i : Int) + 1)) ?_
      refine s_nil ?_
      have hps := purge_step hinv0 (m := L.length) hs38
      have hib : inB (whole s37.key) L.length = false := inB_false (by omega)
      have hpe := hps.1 hib
      rw [hpe]
      refine xs_mem (fun _ h => rt_shut (h.re [2, 2, 1] [])) ?_
      exact xs_round (i + 1) (by omega) (by omega) (sub_of rfl ⟨⟨rfl, rfl⟩, ⟨⟨rfl, rfl⟩, ⟨⟨rfl, rfl⟩, ⟨⟨rfl, rfl⟩, trivial⟩⟩⟩⟩) (fun _ h => h.re [0, 1, 0] [])
     ·
      have p48 := of_decide_eq_false c46
      refine k_skip ?_
      refine xs_block ?_
      refine xs_then <| k_reg ?_
      refine sp (iw (i : Int)) ?_
      refine s_lt (t_add (i : Int) 1 (by (try simp only [lnm]); omega)) ?_
      refine sp (iw ((i : Int) + 1)) ?_
      refine s_nil ?_
      have hps := purge_step hinv0 (m := L.length) hs38
      have hib : inB (whole s37.key) L.length = true := inB_iff.2 (by omega)
      have hpe := hps.2 hib
      rw [hpe]
      refine xs_mem (fun _ h => rt_shut (h.re [0, 0, 0] [])) ?_
      exact xs_round (i + 1) (by omega) (by omega) (sub_of rfl ⟨⟨rfl, rfl⟩, ⟨⟨rfl, rfl⟩, ⟨⟨rfl, rfl⟩, ⟨⟨rfl, rfl⟩, trivial⟩⟩⟩⟩) (fun _ h => h.re [0, 0, 0] [])
   ·
    have p49 := of_decide_eq_false c33
    refine k_exit ?_
    refine xs_exit ?_
    refine xs_exit ?_
    refine xs_here ?_
    refine xs_then <| k_reg ?_
    refine sp (pB b 0) ?_
    refine sp (pB r29 0) ?_
    refine sp (pB b 0) ?_
    refine sp (pB b 1) ?_
    refine s_mem2 (fun H h => rt_open (h.re [0] [])) (fun lv50 r51 hw => ?_)
    refine s_store 0 #[lv50, pB r29 0] ?_
    refine s_nil <| xs_mem (fun _ h => rt_shut (h.re [0, 0, 2] [])) ?_
    have hj : j = L.length := by omega
    have hpe : purgeS S L.length i = purge S L.length := purge_end S L.length i (by rw [← okeys_length]; omega)
    have hT : (if staleB S n L.length then purge S L.length else S) = purgeS S L.length i := by rw [if_pos (by rw [← hj]; exact c28), hpe]
    refine xs_finN [] (rtA b L (purgeS S L.length i) :: F) SI.nil (fun _ h => h.re [0] [1, 1]) ⟨rfl, ?_⟩
    rw [hT]
theorem rtset_s {Z : Zone} {F : List Asr} {b : Nat} {L : List Vl} {S : List Slt} (hti : TInv ⟨L, S⟩) (hl : L.length ≤ 100000) (hs : S.length ≤ 100000) (k v : Vl) : SF Tryz.prog 149 #[.pointer (some ⟨b, 0, none⟩), k.v, v.v] Z (rtA b L S :: F) fun r Bs => r = iw (tsetE k v) ∧ Bs = rtA b (tset ⟨L, S⟩ k v).list (tset ⟨L, S⟩ k v).rest :: F := by
 refine sf_enter Tryz.func149 126 [(0, pB b 0), (1, .agg (vc k)), (2, .agg (vc v))] (fun w0 => ?_)
 refine k_fact (fun H h => rt_inv (h.re [0] [])) (fun hinv0 => ?_)
 have hol := okeys_len S
 refine k_sr <| s_box (vc k) (fun g1 => ?_)
 refine s_box (vc v) (fun g2 => ?_)
 refine sp (iw 0) ?_
 refine s_nt <| k_seq <| k_sr <| sp (pB b 0) ?_
 refine sp (.bool false) ?_
 refine s_nt <| k_false ?_
 refine k_st <| k_seq <| k_sr <| sp (pB g1 0) ?_
 refine s_lt (t_load 1 (iw k.kind)) ?_
 refine s_lt t_cmp ?_
 refine sp (.bool (decide (k.kind = 0))) ?_
 refine s_fork 13 (decide (k.kind = 0)) (fun c3 => ?_) (fun c3 => ?_)
 ·
  have p4 := of_decide_eq_true c3
  refine s_skip ?_
  refine s_skip ?_
  refine s_skip ?_
  refine sp (.bool true) ?_
  refine s_nt <| k_true ?_
  refine k_sr <| sp (iw 13) ?_
  refine s_nt <| k_ret <| xs_ret ?_
  have hk : okKey k = false := okKey_bad (by first | exact p4 | exact .inl p4 | exact .inr p4)
  refine xs_fin [iw 13] (rtA b L S :: F) (SI.tmp 6 SI.nil) (fun _ h => h.re [2] [1, 1]) ⟨congrArg (Value.int .i64) (tsetE_bad hk).symm, ?_⟩
  rw [tset_bad (v := v) (.inl hk)]
 ·
  have p5 := of_decide_eq_false c3
  refine s_lt (t_loadA 1 (vc k)) ?_
  refine s_vcall (fun _ h => rvalid_s k) ?_
  rintro _ rfl
  refine sp (.bool (!(validB k))) ?_
  refine sp (.bool (!(validB k))) ?_
  refine s_nt <| k_cond (!(validB k)) (fun c6 => ?_) (fun c6 => ?_)
  ·
   have c7 := not_t c6
   refine k_sr <| sp (iw 13) ?_
   refine s_nt <| k_ret <| xs_ret ?_
   have hk : okKey k = false := okKey_bad (by first | exact c7 | exact .inl c7 | exact .inr c7)
   refine xs_fin [iw 13] (rtA b L S :: F) (SI.tmp 6 SI.nil) (fun _ h => h.re [2] [1, 1]) ⟨congrArg (Value.int .i64) (tsetE_bad hk).symm, ?_⟩
   rw [tset_bad (v := v) (.inl hk)]
  ·
   have c8 := not_f c6
   refine k_st <| k_seq <| k_sr <| s_lt (t_loadA 0 (vc v)) ?_
   refine s_vcall (fun _ h => rvalid_s v) ?_
   rintro _ rfl
   refine sp (.bool (!(validB v))) ?_
   refine s_nt <| k_cond (!(validB v)) (fun c9 => ?_) (fun c9 => ?_)
   ·
    have c10 := not_t c9
    refine k_sr <| sp (iw 2) ?_
    refine s_nt <| k_ret <| xs_ret ?_
    have hk := okKey_good c3 c8
    refine xs_fin [iw 2] (rtA b L S :: F) (SI.tmp 6 SI.nil) (fun _ h => h.re [2] [1, 1]) ⟨congrArg (Value.int .i64) (tsetE_val hk c10).symm, ?_⟩
    rw [tset_bad (v := v) (.inr c10)]
   ·
    have c11 := not_f c9
    refine k_st <| k_sr <| s_lt (t_loadA 1 (vc k)) ?_
    refine s_vcall (fun _ h => rwhole2_s k) ?_
    rintro _ rfl
    refine sp (iw (whole k)) ?_
    refine s_nt <| k_seq <| k_sr <| sp (iw (whole k)) ?_
    refine s_lt t_cmp ?_
    refine sp (.bool (decide ((1 : Int) ≤ (whole k)))) ?_
    refine s_fork 25 (decide ((1 : Int) ≤ (whole k))) (fun c12 => ?_) (fun c12 => ?_)
    ·
     have p13 := of_decide_eq_true c12
     refine sp (iw (whole k)) ?_
     refine sp (pB b 0) ?_
     refine sp (pB b 0) ?_
     refine sp (pB b 0) ?_
     refine s_mem2 (fun H h => rt_open (h.re [2] [])) (fun lv14 r15 hw => ?_)
     refine s_lt (t_load 0 lv14) ?_
     refine s_lt (t_len VlT_ok Tryz.underlying28 (.own 1)) ?_
     refine s_lt t_cmp ?_
     refine sp (.bool (decide ((whole k) ≤ (L.length : Int)))) ?_
     refine s_nt <| k_cond (decide ((whole k) ≤ (L.length : Int))) (fun c16 => ?_) (fun c16 => ?_)
     ·
      have p17 := of_decide_eq_true c16
      refine k_seq <| k_draw ?_
      refine sp (pB b 0) ?_
      refine sp (pB b 0) ?_
      refine sp (pB b 0) ?_
      refine s_lt (t_load 0 lv14) ?_
      refine sp (iw (whole k)) ?_
      refine s_lt (t_sub (whole k) 1 (by (try simp only [lnm]); omega)) ?_
      refine s_lt (t_loadA 3 (vc v)) ?_
      refine s_lt (t_index VlT_ok Tryz.underlying28 (.own 1) ((whole k) - 1) ((((whole k) - 1)).toNat) (by omega) (by (try simp only [lnm]); omega) (by omega)) ?_
      obtain ⟨y18, hy19⟩ : ∃ y, L[(((whole k) - 1)).toNat]? = some y := ⟨_, List.getElem?_eq_getElem (by (try simp only [lnm]); omega)⟩
      refine s_storeE 1 0 v VlT_ok hy19 ?_
      refine s_nil <| x_dynS (fun _ h => by kernel_rfl) ?_
      refine xs_then <| k_seq <| k_block ?_
      have hsl : (L.set (whole k - 1).toNat v).length = L.length := List.length_set
      refine k_loop (ι := Value × List Vl) (fun (lx, X) => shr (L.set (whole k - 1).toNat v) = shr X ∧ X.length ≤ L.length) (fun (lx, X) => [(0, pB b 0)]) (fun (lx, X) => blkA b #[lx, pB r15 0] 229 :: own VlT lx X :: rmA r15 S :: blkA g2 (vc v) 71 :: blkA g1 (vc k) 71 :: F) (fun (lx, X) => X.length) (lv14, (L.set ((((whole k) - 1)).toNat) v)) ⟨rfl, by omega⟩ (sub_of rfl ⟨⟨rfl, rfl⟩, trivial⟩) (fun _ h => h.re [0, 0, 0, 0, 0] []) ?_
      rintro ⟨lx, X⟩ hi20
      replace hi20 : shr (L.set (whole k - 1).toNat v) = shr X ∧ X.length ≤ L.length := hi20
      show SK _ _ _ _ _ [(0, .pointer (some ⟨b, 0, none⟩))] _ (blkA b #[lx, .pointer (some ⟨r15, 0, none⟩)] 229 :: own VlT lx X :: rmA r15 S :: blkA g2 (vc v) 71 :: blkA g1 (vc k) 71 :: F)
      refine k_seq <| k_seq <| k_draw ?_
      refine sp (pB b 0) ?_
      refine sp (pB b 0) ?_
      refine sp (pB b 0) ?_
      refine s_lt (t_load 0 lx) ?_
      refine s_fact (fun H h => ((Acc.own (T := VlT) (L := X) 1 rfl) H h).form) (fun hf21 => ?_)
      refine s_lt (t_len VlT_ok Tryz.underlying28 (.own 1)) ?_
      refine s_lt t_cmp ?_
      refine sp (.bool (decide ((0 : Int) < (X.length : Int)))) ?_
      refine s_fork 48 (decide ((0 : Int) < (X.length : Int))) (fun c22 => ?_) (fun c22 => ?_)
      ·
       have p23 := of_decide_eq_true c22
       refine sp (pB b 0) ?_
       refine sp (pB b 0) ?_
       refine sp (pB b 0) ?_
       refine s_lt (t_load 0 lx) ?_
       refine sp (pB b 0) ?_
       refine sp (pB b 0) ?_
       refine sp (pB b 0) ?_
       refine s_lt (t_load 0 lx) ?_
       refine s_lt (t_len VlT_ok Tryz.underlying28 (.own 1)) ?_
       refine s_lt (t_sub (X.length : Int) 1 (by (try simp only [lnm]); omega)) ?_
       refine s_lt (t_index VlT_ok Tryz.underlying28 (.own 1) ((X.length : Int) - 1) (X.length - 1) (by omega) (by (try simp only [lnm]); omega) (by omega)) ?_
       refine sp (.pointer (some (elemAt VlT.size lx (X.length - 1)))) ?_
       obtain ⟨y24, hy25⟩ : ∃ y, X[(X.length - 1)]? = some y := ⟨_, List.getElem?_eq_getElem (by (try simp only [lnm]); omega)⟩
       refine s_lt (t_loadF 0 VlT_ok (.own 1) hy25) ?_
       refine s_lt t_cmp ?_
       refine sp (.bool (decide (y24.kind = 0))) ?_
       refine s_nil <| x_dynS (fun _ h => by obtain ⟨_, _, e⟩ := hf21; subst e; kernel_rfl) ?_
       refine xs_then <| k_cond (decide (y24.kind = 0)) (fun c26 => ?_) (fun c26 => ?_)
       ·
        have p27 := of_decide_eq_true c26
        refine k_st <| k_block ?_
        refine k_draw ?_
        refine sp (pB b 0) ?_
        refine sp (pB b 0) ?_
        refine sp (pB b 0) ?_
        refine sp (pB b 0) ?_
        refine s_lt (t_load 0 lx) ?_
        refine sp (pB b 0) ?_
        refine sp (pB b 0) ?_
        refine sp (pB b 0) ?_
        refine s_lt (t_load 0 lx) ?_
        refine s_lt (t_len VlT_ok Tryz.underlying28 (.own 1)) ?_
        refine s_lt (t_sub (X.length : Int) 1 (by (try simp only [lnm]); omega)) ?_
        refine s_lt (t_pre VlT_ok Tryz.underlying28 (.own 1) ((X.length : Int) - 1) (X.length - 1) (by omega) (by (try simp only [lnm]); omega) (by omega)) ?_
        refine sp (pB b 0) ?_
        refine sp (pB b 0) ?_
        refine s_mem (fun _ h => Holds.pre (i := 1) h VlT_ok (X.length - 1) rfl (by (try simp only [lnm]); omega)) ?_
        refine s_fact (fun H h => ((Acc.own (T := VlT) (L := (X.take (X.length - 1))) 1 rfl) H h).form) (fun hf28 => ?_)
        refine s_store (u := (pre lx (X.length - 1))) (m := 1) 0 #[(pre lx (X.length - 1)), pB r15 0] ?_ (hm := by (obtain ⟨_, _, e⟩ := hf28; rw [e]; rfl)) (h1 := by (obtain ⟨_, _, e⟩ := hf28; rw [e]; rfl)) (ha' := by (obtain ⟨_, _, e⟩ := hf28; rw [e]; rfl))
        refine s_nil <| x_dynS (fun _ h => by obtain ⟨_, _, e⟩ := hf21; subst e; kernel_rfl) ?_
        refine xs_block ?_
        exact xs_round ((pre lx (X.length - 1)), X.take (X.length - 1)) (by show (X.take (X.length - 1)).length < X.length; rw [List.length_take]; omega) (by show shr _ = shr (X.take (X.length - 1)) ∧ (X.take (X.length - 1)).length ≤ L.length; rw [← shr_step (n := X.length - 1) (by omega) hy25 (by omega), show X.length - 1 + 1 = X.length by omega, List.take_length]; exact ⟨hi20.1, by rw [List.length_take]; omega⟩) (sub_of rfl ⟨⟨rfl, rfl⟩, trivial⟩) (fun _ h => h.re [0, 0, 0, 0, 0] [])
       ·
        have p29 := of_decide_eq_false c26
        refine k_exit ?_
        refine xs_exit ?_
        refine xs_exit ?_
        refine xs_here ?_
        refine xs_then <| k_sr <| sp (iw 0) ?_
        refine s_nt <| k_ret <| xs_ret <| xs_mem (fun _ h => rt_shut (h.re [0, 0, 0] [])) ?_
        have hk := okKey_good c3 c8
        have hS : shr X = X := by have h1 := shr_stop (n := X.length - 1) hy25 (by omega); rw [show X.length - 1 + 1 = X.length by omega, List.take_length] at h1; exact h1
        have hT : tset ⟨L, S⟩ k v = ⟨X, S⟩ := by rw [tset_in (T := ⟨L, S⟩) hk c11 (by omega) (by show _ ≤ (L.length : Int); omega)]; show (⟨shr (L.set _ v), S⟩ : Tb) = _; rw [hi20.1, hS]
        refine xs_fin [iw 0] (rtA b X S :: F) (SI.tmp 6 SI.nil) (fun _ h => h.re [0] [1, 1]) ⟨congrArg (Value.int .i64) (tsetE_ok hk c11).symm, ?_⟩
        rw [hT]
      ·
       have p30 := of_decide_eq_false c22
       refine s_skip ?_
       refine s_skip ?_
       refine s_skip ?_
       refine s_skip ?_
       refine s_skip ?_
       refine s_skip ?_
       refine s_skip ?_
       refine s_skip ?_
       refine s_skip ?_
       refine s_skip ?_
       refine s_skip ?_
       refine s_skip ?_
       refine s_skip ?_
       refine s_skip ?_
       refine sp (.bool false) ?_
       refine s_nil <| x_dynS (fun _ h => by obtain ⟨_, _, e⟩ := hf21; subst e; kernel_rfl) ?_
       refine xs_then <| k_false ?_
       refine k_exit ?_
       refine xs_exit ?_
       refine xs_exit ?_
       refine xs_here ?_
       refine xs_then <| k_sr <| sp (iw 0) ?_
       refine s_nt <| k_ret <| xs_ret <| xs_mem (fun _ h => rt_shut (h.re [0, 0, 0] [])) ?_
       have hk := okKey_good c3 c8
       have hS : shr X = X := by obtain rfl : X = [] := List.eq_nil_of_length_eq_zero (by omega); rfl
       have hT : tset ⟨L, S⟩ k v = ⟨X, S⟩ := by rw [tset_in (T := ⟨L, S⟩) hk c11 (by omega) (by show _ ≤ (L.length : Int); omega)]; show (⟨shr (L.set _ v), S⟩ : Tb) = _; rw [hi20.1, hS]
       refine xs_fin [iw 0] (rtA b X S :: F) (SI.tmp 6 SI.nil) (fun _ h => h.re [0] [1, 1]) ⟨congrArg (Value.int .i64) (tsetE_ok hk c11).symm, ?_⟩
       rw [hT]
     ·
      have p31 := of_decide_eq_false c16
      refine k_st <| k_seq <| k_sr <| sp (iw (whole k)) ?_
      refine sp (pB b 0) ?_
      refine sp (pB b 0) ?_
      refine sp (pB b 0) ?_
      refine s_lt (t_load 0 lv14) ?_
      refine s_lt (t_len VlT_ok Tryz.underlying28 (.own 1)) ?_
      refine s_lt (t_add (L.length : Int) 1 (by (try simp only [lnm]); omega)) ?_
      refine s_lt t_cmp ?_
      refine sp (.bool (decide ((whole k) ≠ ((L.length : Int) + 1)))) ?_
      refine s_fork 86 (decide ((whole k) ≠ ((L.length : Int) + 1))) (fun c32 => ?_) (fun c32 => ?_)
      ·
       have p33 := of_decide_eq_true c32
       refine s_skip ?_
       refine s_skip ?_
       refine s_skip ?_
       refine sp (.bool true) ?_
       refine s_nt <| k_true ?_
       refine k_seq <| k_draw ?_
       refine sp (pB b 0) ?_
       refine sp (pB b 0) ?_
       refine sp (pB b 1) ?_
       refine s_lt (t_load 0 (pB r15 0)) ?_
       refine s_lt (t_loadA 4 (vc k)) ?_
       refine s_lt (t_loadA 3 (vc v)) ?_
       refine s_call [2] (rmset_s (S := S) (by (try simp only [lnm]); omega) k v) ?_
       rintro _ _ ⟨rfl, rfl⟩
       refine sp (iw (osetE k v)) ?_
       refine s_nil <| x_dynS (fun _ h => by kernel_rfl) ?_
       refine xs_then <| k_ret <| xs_ret <| xs_mem (fun _ h => rt_shut (h.re [1, 1, 0] [])) ?_
       have hk := okKey_good c3 c8
       refine xs_fin [iw (osetE k v)] (rtA b L (osetL S k v) :: F) (SI.tmp 6 SI.nil) (fun _ h => h.re [0] [1, 1]) ⟨congrArg (Value.int .i64) ((tsetE_oset k v)).symm, ?_⟩
       rw [tset_out (T := ⟨L, S⟩) hk c11 (by show ¬ (_ ∧ _ ≤ (L.length : Int)); omega) (by show ¬ (_ = (L.length : Int) + 1 ∧ _); rintro ⟨e1, e2⟩; first | omega | (have hq := p33; simp_all))]
      ·
       have p34 := Decidable.not_not.1 (of_decide_eq_false c32)
       refine sp (pB g2 0) ?_
       refine s_lt (t_load 3 (iw v.kind)) ?_
       refine s_lt t_cmp ?_
       refine sp (.bool (decide (v.kind = 0))) ?_
       refine s_nt <| k_cond (decide (v.kind = 0)) (fun c35 => ?_) (fun c35 => ?_)
       ·
        have p36 := of_decide_eq_true c35
        refine k_seq <| k_draw ?_
        refine sp (pB b 0) ?_
        refine sp (pB b 0) ?_
        refine sp (pB b 1) ?_
        refine s_lt (t_load 0 (pB r15 0)) ?_
        refine s_lt (t_loadA 4 (vc k)) ?_
        refine s_lt (t_loadA 3 (vc v)) ?_
        refine s_call [2] (rmset_s (S := S) (by (try simp only [lnm]); omega) k v) ?_
        rintro _ _ ⟨rfl, rfl⟩
        refine sp (iw (osetE k v)) ?_
        refine s_nil <| x_dynS (fun _ h => by kernel_rfl) ?_
        refine xs_then <| k_ret <| xs_ret <| xs_mem (fun _ h => rt_shut (h.re [1, 1, 0] [])) ?_
        have hk := okKey_good c3 c8
        refine xs_fin [iw (osetE k v)] (rtA b L (osetL S k v) :: F) (SI.tmp 6 SI.nil) (fun _ h => h.re [0] [1, 1]) ⟨congrArg (Value.int .i64) ((tsetE_oset k v)).symm, ?_⟩
        rw [tset_out (T := ⟨L, S⟩) hk c11 (by show ¬ (_ ∧ _ ≤ (L.length : Int)); omega) (by show ¬ (_ = (L.length : Int) + 1 ∧ _); rintro ⟨e1, e2⟩; first | omega | (have hq := p36; simp_all))]
       ·
        have p37 := of_decide_eq_false c35
        refine k_st <| k_seq <| k_block ?_
        have hmu0 := mu_le S L.length v
        refine k_loop (ι := Value × List Vl × Vl × Nat) (fun (lx, X, x, f) => grow S (S.length + 2) L v = grow S f X x ∧ mu S X.length x ≤ f ∧ L.length ≤ X.length ∧ X.length + mu S X.length x ≤ L.length + S.length + 1) (fun (lx, X, x, f) => [(0, pB b 0), (5, pB g2 0), (7, iw (whole k))]) (fun (lx, X, x, f) => blkA b #[lx, pB r15 0] 229 :: own VlT lx X :: rmA r15 S :: blkA g2 (vc x) 71 :: blkA g1 (vc k) 71 :: F) (fun (lx, X, x, f) => mu S X.length x) (lv14, L, v, S.length + 2) ⟨rfl, by omega, by omega, by omega⟩ (sub_of rfl ⟨⟨rfl, rfl⟩, ⟨⟨rfl, rfl⟩, ⟨⟨rfl, rfl⟩, trivial⟩⟩⟩) (fun _ h => h.re [0, 0, 0, 0, 0] []) ?_
        rintro ⟨lx, X, x, f⟩ hi38
        replace hi38 : grow S (S.length + 2) L v = grow S f X x ∧ mu S X.length x ≤ f ∧ L.length ≤ X.length ∧ X.length + mu S X.length x ≤ L.length + S.length + 1 := hi38
        show SK _ _ _ _ _ [(0, .pointer (some ⟨b, 0, none⟩)), (5, .pointer (some ⟨g2, 0, none⟩)), (7, iw (whole k))] _ (blkA b #[lx, .pointer (some ⟨r15, 0, none⟩)] 229 :: own VlT lx X :: rmA r15 S :: blkA g2 (vc x) 71 :: blkA g1 (vc k) 71 :: F)
        refine k_seq <| k_sr <| sp (pB g2 0) ?_
        refine s_lt (t_load 3 (iw x.kind)) ?_
        refine s_lt t_cmp ?_
        refine s_nt <| k_cond (decide (x.kind ≠ 0)) (fun c39 => ?_) (fun c39 => ?_)
        ·
         have p40 := of_decide_eq_true c39
         have hx0 : x.kind ≠ 0 := of_decide_eq_true c39
         obtain ⟨f1, hf1, hg1⟩ := grow_step S X hx0 hi38.2.1
         have hg2 : grow S (S.length + 2) L v = grow S (f - 1) (X ++ [x]) (oget S (ofI ((X.length : Int) + 2))) := by rw [hi38.1, hg1, hf1]; rfl
         refine k_st <| k_block ?_
         refine k_seq <| k_draw ?_
         refine sp (pB b 0) ?_
         refine sp (pB b 0) ?_
         refine sp (pB b 0) ?_
         refine sp (pB b 0) ?_
         refine s_lt (t_load 0 lx) ?_
         refine s_lt (t_loadA 3 (vc x)) ?_
         refine s_buildSlice (e := 71) [(0, .agg (vc x))] (vc x) (fun g41 => ?_) (hb := by kernel_rfl)
         refine s_append (L := X) 2 VlT_ok Tryz.underlying28 (.lit 0 VlT_ok [x]) (by show _ * 48 ≤ _; (try simp only [lnm]); omega) (by (try simp only [lnm]); omega) (fun v42 => ?_)
         obtain ⟨L2, hL2⟩ : ∃ y, y = X ++ [x] := ⟨_, rfl⟩
         rw [← hL2]
         have ll2 : L2.length = X.length + 1 := by rw [hL2]; simp
         refine sp (pB b 0) ?_
         refine sp (pB b 0) ?_
         refine s_fact (fun H h => ((Acc.own (T := VlT) (L := L2) 2 rfl) H h).form) (fun hf43 => ?_)
         refine s_store (u := v42) (m := 1) 1 #[v42, pB r15 0] ?_ (hm := by (obtain ⟨_, _, e⟩ := hf43; rw [e]; rfl)) (h1 := by (obtain ⟨_, _, e⟩ := hf43; rw [e]; rfl)) (ha' := by (obtain ⟨_, _, e⟩ := hf43; rw [e]; rfl))
         refine s_nil <| x_dynS (fun _ h => by kernel_rfl) ?_
         refine xs_then <| k_held [blkA g41 (vc x) 71, blkA b #[v42, pB r15 0] 229, own VlT v42 L2, blkA g1 (vc k) 71] ?_
         refine hp_ 0 [0, 0, 0, 2] (pB b 0) ?_
         refine hp_ 1 [0, 0, 0, 2] (pB b 0) ?_
         refine hp_ 2 [0, 0, 0, 2] (pB b 1) ?_
         refine h_l 3 rfl [0, 0, 0, 2] (fun _ => (t_load 1 (pB r15 0))) ?_
         refine hp_ 4 [0, 0, 0, 2] (pB b 0) ?_
         refine hp_ 5 [0, 0, 0, 2] (pB b 0) ?_
         refine hp_ 6 [0, 0, 0, 2] (pB b 0) ?_
         refine h_l 7 rfl [0, 0, 0, 2] (fun _ => (t_load 1 v42)) ?_
         refine h_l 8 rfl [0, 0, 0, 2] (fun _ => (t_len VlT_ok Tryz.underlying28 (.own 2))) ?_
         refine h_l 9 rfl [0, 0, 0, 2] (fun _ => (Lt.to (v' := iw ((X.length : Int) + 2)) (t_add (L2.length : Int) 1 (by omega)) (congrArg (Value.int .i64) (by omega)))) ?_
         refine h_stepS 10 ?_
         refine s_vcall (fun _ h => rkey_s ((X.length : Int) + 2)) ?_
         rintro _ rfl
         refine s_nil (xs_held [0, 0, 0, 2] ?_)
         refine h_stepS 11 ?_
         refine s_call [3] (rmget_s (S := S) (by (try simp only [lnm]); omega) (ofI ((X.length : Int) + 2))) ?_
         rintro _ _ ⟨rfl, rfl⟩
         refine s_nil (xs_held [1, 1, 1, 2] ?_)
         refine h_stepS 12 ?_
         refine s_store 4 (vc (oget S (ofI ((X.length : Int) + 2)))) ?_
         refine s_nil (xs_held [1, 1, 1, 2] ?_)
         refine h_doneS ?_
         refine xs_block ?_
         exact xs_round (v42, L2, (oget S (ofI ((X.length : Int) + 2))), f - 1) (by show mu S _ _ < mu S _ _; rw [ll2]; exact mu_lt hinv0 hx0) (by show grow S (S.length + 2) L v = _ ∧ _; exact ⟨by rw [hg2, hL2], by rw [ll2]; have := mu_lt hinv0 (n := X.length) hx0; omega, by omega, by rw [ll2]; have := mu_lt hinv0 (n := X.length) hx0; omega⟩) (sub_of rfl ⟨⟨rfl, rfl⟩, ⟨⟨rfl, rfl⟩, ⟨⟨rfl, rfl⟩, trivial⟩⟩⟩) (fun _ h => h.re [2, 2, 0, 1, 1] [5])
        ·
         have p44 := Decidable.not_not.1 (of_decide_eq_false c39)
         have hx0 : x.kind = 0 := Decidable.not_not.1 (of_decide_eq_false c39)
         have hgr : grow S (S.length + 2) L v = X := by rw [hi38.1]; exact grow_stop S X hx0
         refine k_exit ?_
         refine xs_exit ?_
         refine xs_exit ?_
         refine xs_here ?_
         refine xs_then <| k_sr <| sp (pB b 0) ?_
         refine sp (iw (whole k)) ?_
         refine s_mem (fun _ h => rt_shut (h.re [0, 0, 0] [])) ?_
         refine s_call [0] (rtpurge_s (L := X) (S := S) (n := L.length) (by omega) (by omega) (by omega) (by omega)) ?_
         rintro _ _ ⟨rfl, rfl⟩
         refine s_nr ?_
         refine sp (iw 0) ?_
         refine s_nt <| k_ret ?_
         have hk := okKey_good c3 c8
         have hT : tset ⟨L, S⟩ k v = ⟨X, if staleB S L.length X.length then purge S X.length else S⟩ := by rw [tset_add (T := ⟨L, S⟩) hk c11 (by show _ = (L.length : Int) + 1; omega) (of_decide_eq_false c35), tadd_eq hgr]
         refine xs_fin [iw 0] (rtA b X (if staleB S L.length X.length then purge S X.length else S) :: F) (SI.tmp 6 SI.nil) (fun _ h => h.re [0] [1, 1]) ⟨congrArg (Value.int .i64) (tsetE_ok hk c11).symm, ?_⟩
         rw [hT]
    ·
     have p45 := of_decide_eq_false c12
     refine s_skip ?_
     refine s_skip ?_
     refine s_skip ?_
     refine s_skip ?_
     refine s_skip ?_
     refine s_skip ?_
     refine s_skip ?_
     refine sp (.bool false) ?_
     refine s_nt <| k_false ?_
     refine k_st <| k_seq <| k_sr <| sp (iw (whole k)) ?_
     refine sp (pB b 0) ?_
     refine sp (pB b 0) ?_
     refine sp (pB b 0) ?_
     refine s_mem2 (fun H h => rt_open (h.re [2] [])) (fun lv46 r47 hw => ?_)
     refine s_lt (t_load 0 lv46) ?_
     refine s_lt (t_len VlT_ok Tryz.underlying28 (.own 1)) ?_
     refine s_lt (t_add (L.length : Int) 1 (by (try simp only [lnm]); omega)) ?_
     refine s_lt t_cmp ?_
     refine sp (.bool (decide ((whole k) ≠ ((L.length : Int) + 1)))) ?_
     refine s_fork 86 (decide ((whole k) ≠ ((L.length : Int) + 1))) (fun c48 => ?_) (fun c48 => ?_)
     ·
      have p49 := of_decide_eq_true c48
      refine s_skip ?_
      refine s_skip ?_
      refine s_skip ?_
      refine sp (.bool true) ?_
      refine s_nt <| k_true ?_
      refine k_seq <| k_draw ?_
      refine sp (pB b 0) ?_
      refine sp (pB b 0) ?_
      refine sp (pB b 1) ?_
      refine s_lt (t_load 0 (pB r47 0)) ?_
      refine s_lt (t_loadA 4 (vc k)) ?_
      refine s_lt (t_loadA 3 (vc v)) ?_
      refine s_call [2] (rmset_s (S := S) (by (try simp only [lnm]); omega) k v) ?_
      rintro _ _ ⟨rfl, rfl⟩
      refine sp (iw (osetE k v)) ?_
      refine s_nil <| x_dynS (fun _ h => by kernel_rfl) ?_
      refine xs_then <| k_ret <| xs_ret <| xs_mem (fun _ h => rt_shut (h.re [1, 1, 0] [])) ?_
      have hk := okKey_good c3 c8
      refine xs_fin [iw (osetE k v)] (rtA b L (osetL S k v) :: F) (SI.tmp 6 SI.nil) (fun _ h => h.re [0] [1, 1]) ⟨congrArg (Value.int .i64) ((tsetE_oset k v)).symm, ?_⟩
      rw [tset_out (T := ⟨L, S⟩) hk c11 (by show ¬ (_ ∧ _ ≤ (L.length : Int)); omega) (by show ¬ (_ = (L.length : Int) + 1 ∧ _); rintro ⟨e1, e2⟩; first | omega | (have hq := p49; simp_all))]
     ·
      have p50 := Decidable.not_not.1 (of_decide_eq_false c48)
      refine sp (pB g2 0) ?_
      refine s_lt (t_load 3 (iw v.kind)) ?_
      refine s_lt t_cmp ?_
      refine sp (.bool (decide (v.kind = 0))) ?_
      refine s_nt <| k_cond (decide (v.kind = 0)) (fun c51 => ?_) (fun c51 => ?_)
      ·
       have p52 := of_decide_eq_true c51
       refine k_seq <| k_draw ?_
       refine sp (pB b 0) ?_
       refine sp (pB b 0) ?_
       refine sp (pB b 1) ?_
       refine s_lt (t_load 0 (pB r47 0)) ?_
       refine s_lt (t_loadA 4 (vc k)) ?_
       refine s_lt (t_loadA 3 (vc v)) ?_
       refine s_call [2] (rmset_s (S := S) (by (try simp only [lnm]); omega) k v) ?_
       rintro _ _ ⟨rfl, rfl⟩
       refine sp (iw (osetE k v)) ?_
       refine s_nil <| x_dynS (fun _ h => by kernel_rfl) ?_
       refine xs_then <| k_ret <| xs_ret <| xs_mem (fun _ h => rt_shut (h.re [1, 1, 0] [])) ?_
       have hk := okKey_good c3 c8
       refine xs_fin [iw (osetE k v)] (rtA b L (osetL S k v) :: F) (SI.tmp 6 SI.nil) (fun _ h => h.re [0] [1, 1]) ⟨congrArg (Value.int .i64) ((tsetE_oset k v)).symm, ?_⟩
       rw [tset_out (T := ⟨L, S⟩) hk c11 (by show ¬ (_ ∧ _ ≤ (L.length : Int)); omega) (by show ¬ (_ = (L.length : Int) + 1 ∧ _); rintro ⟨e1, e2⟩; first | omega | (have hq := p52; simp_all))]
      ·
       have p53 := of_decide_eq_false c51
       refine k_st <| k_seq <| k_block ?_
       have hmu0 := mu_le S L.length v
       refine k_loop (ι := Value × List Vl × Vl × Nat) (fun (lx, X, x, f) => grow S (S.length + 2) L v = grow S f X x ∧ mu S X.length x ≤ f ∧ L.length ≤ X.length ∧ X.length + mu S X.length x ≤ L.length + S.length + 1) (fun (lx, X, x, f) => [(0, pB b 0), (5, pB g2 0), (7, iw (whole k))]) (fun (lx, X, x, f) => blkA b #[lx, pB r47 0] 229 :: own VlT lx X :: rmA r47 S :: blkA g2 (vc x) 71 :: blkA g1 (vc k) 71 :: F) (fun (lx, X, x, f) => mu S X.length x) (lv46, L, v, S.length + 2) ⟨rfl, by omega, by omega, by omega⟩ (sub_of rfl ⟨⟨rfl, rfl⟩, ⟨⟨rfl, rfl⟩, ⟨⟨rfl, rfl⟩, trivial⟩⟩⟩) (fun _ h => h.re [0, 0, 0, 0, 0] []) ?_
       rintro ⟨lx, X, x, f⟩ hi54
       replace hi54 : grow S (S.length + 2) L v = grow S f X x ∧ mu S X.length x ≤ f ∧ L.length ≤ X.length ∧ X.length + mu S X.length x ≤ L.length + S.length + 1 := hi54
       show SK _ _ _ _ _ [(0, .pointer (some ⟨b, 0, none⟩)), (5, .pointer (some ⟨g2, 0, none⟩)), (7, iw (whole k))] _ (blkA b #[lx, .pointer (some ⟨r47, 0, none⟩)] 229 :: own VlT lx X :: rmA r47 S :: blkA g2 (vc x) 71 :: blkA g1 (vc k) 71 :: F)
       refine k_seq <| k_sr <| sp (pB g2 0) ?_
       refine s_lt (t_load 3 (iw x.kind)) ?_
       refine s_lt t_cmp ?_
       refine s_nt <| k_cond (decide (x.kind ≠ 0)) (fun c55 => ?_) (fun c55 => ?_)
       ·
        have p56 := of_decide_eq_true c55
        have hx0 : x.kind ≠ 0 := of_decide_eq_true c55
        obtain ⟨f1, hf1, hg1⟩ := grow_step S X hx0 hi54.2.1
        have hg2 : grow S (S.length + 2) L v = grow S (f - 1) (X ++ [x]) (oget S (ofI ((X.length : Int) + 2))) := by rw [hi54.1, hg1, hf1]; rfl
        refine k_st <| k_block ?_
        refine k_seq <| k_draw ?_
        refine sp (pB b 0) ?_
        refine sp (pB b 0) ?_
        refine sp (pB b 0) ?_
        refine sp (pB b 0) ?_
        refine s_lt (t_load 0 lx) ?_
        refine s_lt (t_loadA 3 (vc x)) ?_
        refine s_buildSlice (e := 71) [(0, .agg (vc x))] (vc x) (fun g57 => ?_) (hb := by kernel_rfl)
        refine s_append (L := X) 2 VlT_ok Tryz.underlying28 (.lit 0 VlT_ok [x]) (by show _ * 48 ≤ _; (try simp only [lnm]); omega) (by (try simp only [lnm]); omega) (fun v58 => ?_)
        obtain ⟨L2, hL2⟩ : ∃ y, y = X ++ [x] := ⟨_, rfl⟩
        rw [← hL2]
        have ll2 : L2.length = X.length + 1 := by rw [hL2]; simp
        refine sp (pB b 0) ?_
        refine sp (pB b 0) ?_
        refine s_fact (fun H h => ((Acc.own (T := VlT) (L := L2) 2 rfl) H h).form) (fun hf59 => ?_)
        refine s_store (u := v58) (m := 1) 1 #[v58, pB r47 0] ?_ (hm := by (obtain ⟨_, _, e⟩ := hf59; rw [e]; rfl)) (h1 := by (obtain ⟨_, _, e⟩ := hf59; rw [e]; rfl)) (ha' := by (obtain ⟨_, _, e⟩ := hf59; rw [e]; rfl))
        refine s_nil <| x_dynS (fun _ h => by kernel_rfl) ?_
        refine xs_then <| k_held [blkA g57 (vc x) 71, blkA b #[v58, pB r47 0] 229, own VlT v58 L2, blkA g1 (vc k) 71] ?_
        refine hp_ 0 [0, 0, 0, 2] (pB b 0) ?_
        refine hp_ 1 [0, 0, 0, 2] (pB b 0) ?_
        refine hp_ 2 [0, 0, 0, 2] (pB b 1) ?_
        refine h_l 3 rfl [0, 0, 0, 2] (fun _ => (t_load 1 (pB r47 0))) ?_
        refine hp_ 4 [0, 0, 0, 2] (pB b 0) ?_
        refine hp_ 5 [0, 0, 0, 2] (pB b 0) ?_
        refine hp_ 6 [0, 0, 0, 2] (pB b 0) ?_
        refine h_l 7 rfl [0, 0, 0, 2] (fun _ => (t_load 1 v58)) ?_
        refine h_l 8 rfl [0, 0, 0, 2] (fun _ => (t_len VlT_ok Tryz.underlying28 (.own 2))) ?_
        refine h_l 9 rfl [0, 0, 0, 2] (fun _ => (Lt.to (v' := iw ((X.length : Int) + 2)) (t_add (L2.length : Int) 1 (by omega)) (congrArg (Value.int .i64) (by omega)))) ?_
        refine h_stepS 10 ?_
        refine s_vcall (fun _ h => rkey_s ((X.length : Int) + 2)) ?_
        rintro _ rfl
        refine s_nil (xs_held [0, 0, 0, 2] ?_)
        refine h_stepS 11 ?_
        refine s_call [3] (rmget_s (S := S) (by (try simp only [lnm]); omega) (ofI ((X.length : Int) + 2))) ?_
        rintro _ _ ⟨rfl, rfl⟩
        refine s_nil (xs_held [1, 1, 1, 2] ?_)
        refine h_stepS 12 ?_
        refine s_store 4 (vc (oget S (ofI ((X.length : Int) + 2)))) ?_
        refine s_nil (xs_held [1, 1, 1, 2] ?_)
        refine h_doneS ?_
        refine xs_block ?_
        exact xs_round (v58, L2, (oget S (ofI ((X.length : Int) + 2))), f - 1) (by show mu S _ _ < mu S _ _; rw [ll2]; exact mu_lt hinv0 hx0) (by show grow S (S.length + 2) L v = _ ∧ _; exact ⟨by rw [hg2, hL2], by rw [ll2]; have := mu_lt hinv0 (n := X.length) hx0; omega, by omega, by rw [ll2]; have := mu_lt hinv0 (n := X.length) hx0; omega⟩) (sub_of rfl ⟨⟨rfl, rfl⟩, ⟨⟨rfl, rfl⟩, ⟨⟨rfl, rfl⟩, trivial⟩⟩⟩) (fun _ h => h.re [2, 2, 0, 1, 1] [5])
       ·
        have p60 := Decidable.not_not.1 (of_decide_eq_false c55)
        have hx0 : x.kind = 0 := Decidable.not_not.1 (of_decide_eq_false c55)
        have hgr : grow S (S.length + 2) L v = X := by rw [hi54.1]; exact grow_stop S X hx0
        refine k_exit ?_
        refine xs_exit ?_
        refine xs_exit ?_
        refine xs_here ?_
        refine xs_then <| k_sr <| sp (pB b 0) ?_
        refine sp (iw (whole k)) ?_
        refine s_mem (fun _ h => rt_shut (h.re [0, 0, 0] [])) ?_
        refine s_call [0] (rtpurge_s (L := X) (S := S) (n := L.length) (by omega) (by omega) (by omega) (by omega)) ?_
        rintro _ _ ⟨rfl, rfl⟩
        refine s_nr ?_
        refine sp (iw 0) ?_
        refine s_nt <| k_ret ?_
        have hk := okKey_good c3 c8
        have hT : tset ⟨L, S⟩ k v = ⟨X, if staleB S L.length X.length then purge S X.length else S⟩ := by rw [tset_add (T := ⟨L, S⟩) hk c11 (by show _ = (L.length : Int) + 1; omega) (of_decide_eq_false c51), tadd_eq hgr]
        refine xs_fin [iw 0] (rtA b X (if staleB S L.length X.length then purge S X.length else S) :: F) (SI.tmp 6 SI.nil) (fun _ h => h.re [0] [1, 1]) ⟨congrArg (Value.int .i64) (tsetE_ok hk c11).symm, ?_⟩
        rw [hT]
end Go.Proofs.YtmhpcebiamkciaaGreat
end
section
set_option linter.unusedSimpArgs false
set_option linter.unusedVariables false
namespace Go.Proofs.YtmhpcebiamkciaaGreat
structure Hob where
  kind : Int
  tag : Int
  name : ByteArray
  tab : Tb
  mt : Vl
  vals : List Vl
  deriving DecidableEq
structure Hst where
  objs : List (Option Hob)
  tch : List Bool
  deriving DecidableEq
def noTb : Tb := ⟨[], []⟩
def hp0 : Hst := ⟨[], []⟩
def refV (kind id : Int) : Vl := ⟨kind, 0, 0, ByteArray.empty, id⟩
def strV (s : ByteArray) : Vl := ⟨3, 0, 0, s, 0⟩
def Hst.get (st : Hst) (id : Int) : Option Hob := if 1 ≤ id then (st.objs[id.toNat - 1]?).bind (fun x => x) else none
def Hst.put (st : Hst) (id : Int) (o : Hob) : Hst := { st with objs := st.objs.set (id.toNat - 1) (some o) }
def Hst.touch (st : Hst) (id : Int) : Hst := { st with tch := st.tch.set (id.toNat - 1) true }
def Hst.count (st : Hst) : Nat := st.objs.countP Option.isSome
def isRef (k : Int) : Bool := decide (k = 4) || (decide (k = 5) || (decide (k = 7) || decide (k = 8)))
def hfind (st : Hst) (v : Vl) : Option Hob := (st.get v.ref).bind fun o => if o.kind = v.kind then some o else none
def htab (st : Hst) (v : Vl) : Option Tb := (hfind st v).bind fun o => if o.kind = 4 then some o.tab else none
def newO (kind tag : Int) (name : ByteArray) (vals : List Vl) : Hob := ⟨kind, tag, name, noTb, zVl, vals⟩
def hmakeV (st : Hst) (kind : Int) : Vl := if 65536 ≤ st.count then zVl else refV kind ((st.objs.length : Int) + 1)
def hmakeE (st : Hst) : Int := if 65536 ≤ st.count then 17 else 0
def hmake (st : Hst) (o : Hob) : Hst := if 65536 ≤ st.count then st else ⟨st.objs ++ [some o], st.tch ++ [true]⟩
def elemE (v : Vl) : Int := if v.kind = 3 ∧ 4096 < (v.str.size : Int) then 14 else if validB v = false then 2 else 0
def hgetV (st : Hst) (t k : Vl) : Vl := match htab st t with
  | some T => tget T k
  | none => zVl
def hgetE (st : Hst) (t : Vl) : Int := if (htab st t).isSome then 0 else 8
def hsetE (st : Hst) (t k v : Vl) : Int := match htab st t with
  | none => 8
  | some T => if okKey k = false then 13 else elemE v
def Hst.setTab (st : Hst) (id : Int) (T : Tb) : Hst := match st.get id with
  | some o => st.put id { o with tab := T }
  | none => st
def hset (st : Hst) (t k v : Vl) : Hst := match htab st t with
  | none => st
  | some T => if okKey k = false then st else if elemE v ≠ 0 then st else (st.setTab t.ref (tset T k v)).touch t.ref
def hmeta (st : Hst) (v : Vl) : Vl := match hfind st v with
  | some o => o.mt
  | none => zVl
def hmetaOk (st : Hst) (v m : Vl) : Bool := match hfind st v with
  | some o => (decide (o.kind = 4) || decide (o.kind = 8)) && (decide (m = zVl) || (htab st m).isSome)
  | none => false
def hsetMetaE (st : Hst) (v m : Vl) : Int := if hmetaOk st v m = true then 0 else 8
def Hst.setMt (st : Hst) (id : Int) (m : Vl) : Hst := match st.get id with
  | some o => st.put id { o with mt := m }
  | none => st
def hsetMeta (st : Hst) (v m : Vl) : Hst := if hmetaOk st v m = true then (st.setMt v.ref m).touch v.ref else st
structure ObInv (o : Hob) : Prop where
  kind : isRef o.kind = true
  tab : TInv o.tab
  mt : o.kind ≠ 4 → o.kind ≠ 8 → o.mt = zVl
structure HInv (st : Hst) : Prop where
  obs : ∀ o, some o ∈ st.objs → ObInv o
  tch : st.tch.length = st.objs.length
structure HSm (n : Nat) (st : Hst) : Prop where
  len : st.objs.length ≤ n
  obs : ∀ o, some o ∈ st.objs → o.tab.rest.length ≤ n ∧ o.tab.list.length ≤ n * (n + 1) ∧ o.vals.length ≤ n + 20
theorem HInv.nil : HInv hp0 := ⟨fun _ h => (by cases h), rfl⟩
theorem HSm.nil : HSm 0 hp0 := ⟨Nat.le_refl _, fun _ h => (by cases h)⟩
theorem HSm.mono {n m : Nat} {st : Hst} (h : HSm n st) (hnm : n ≤ m) : HSm m st := ⟨Nat.le_trans h.len hnm, fun o ho => by
  obtain ⟨a, b, c⟩ := h.obs o ho
  have : n * (n + 1) ≤ m * (m + 1) := Nat.mul_le_mul hnm (by omega)
  exact ⟨by omega, by omega, by omega⟩⟩
theorem get_mem {st : Hst} {id : Int} {o : Hob} (h : st.get id = some o) : some o ∈ st.objs ∧ 1 ≤ id ∧ id ≤ st.objs.length ∧ st.objs[id.toNat - 1]? = some (some o) := by
  unfold Hst.get at h
  split at h
  · rename_i h1
    cases hx : st.objs[id.toNat - 1]? with
    | none => rw [hx] at h; cases h
    | some x =>
      rw [hx] at h
      simp at h
      subst h
      have := (List.getElem?_eq_some_iff.1 hx).1
      exact ⟨List.mem_of_getElem? hx, h1, by omega, rfl⟩
  · cases h
theorem hfind_some {st : Hst} {v : Vl} {o : Hob} (h : hfind st v = some o) : st.get v.ref = some o ∧ o.kind = v.kind := by
  unfold hfind at h
  cases hg : st.get v.ref with
  | none => rw [hg] at h; cases h
  | some x =>
    rw [hg] at h
    simp only [Option.bind_some] at h
    split at h
    · injection h with e; subst e; exact ⟨rfl, by assumption⟩
    · cases h
theorem hfind_is {st : Hst} {v : Vl} {o : Hob} (h : st.get v.ref = some o) (hk : o.kind = v.kind) : hfind st v = some o := by unfold hfind; rw [h]; simp [hk]
theorem hfind_kind {st : Hst} {v : Vl} {o : Hob} (h : st.get v.ref = some o) (hk : o.kind ≠ v.kind) : hfind st v = none := by unfold hfind; rw [h]; simp [hk]
theorem hfind_none {st : Hst} {v : Vl} (h : st.get v.ref = none) : hfind st v = none := by unfold hfind; rw [h]; rfl
theorem htab_some {st : Hst} {v : Vl} {T : Tb} (h : htab st v = some T) : ∃ o, hfind st v = some o ∧ st.get v.ref = some o ∧ o.kind = 4 ∧ v.kind = 4 ∧ o.tab = T := by
  unfold htab at h
  cases hf : hfind st v with
  | none => rw [hf] at h; cases h
  | some o =>
    rw [hf] at h
    simp only [Option.bind_some] at h
    split at h
    · rename_i h4
      obtain ⟨a, b⟩ := hfind_some hf
      injection h with e
      exact ⟨o, rfl, a, h4, by omega, e⟩
    · cases h
theorem htab_is {st : Hst} {v : Vl} {o : Hob} (h : hfind st v = some o) (h4 : o.kind = 4) : htab st v = some o.tab := by unfold htab; rw [h]; simp [h4]
theorem htab_not {st : Hst} {v : Vl} {o : Hob} (h : hfind st v = some o) (h4 : o.kind ≠ 4) : htab st v = none := by unfold htab; rw [h]; simp [h4]
theorem htab_none {st : Hst} {v : Vl} (h : hfind st v = none) : htab st v = none := by unfold htab; rw [h]; rfl
theorem get_put {st : Hst} {id : Int} {o o' : Hob} (h : st.get id = some o) (id' : Int) : (st.put id o').get id' = if id' = id then some o' else st.get id' := by
  obtain ⟨_, h1, h2, h3⟩ := get_mem h
  unfold Hst.get Hst.put
  by_cases e : id' = id
  · subst e
    rw [if_pos h1, if_pos rfl, List.getElem?_set_self (by omega)]; rfl
  · rw [if_neg e]
    by_cases hp : 1 ≤ id'
    · rw [if_pos hp, if_pos hp, List.getElem?_set_ne (by omega)]
    · rw [if_neg hp, if_neg hp]
theorem mem_put {st : Hst} {id : Int} {o x : Hob} (h : some x ∈ (st.put id o).objs) : some x ∈ st.objs ∨ x = o := by
  rcases List.mem_or_eq_of_mem_set h with h | h
  · exact .inl h
  · exact .inr (Option.some.inj h)
theorem put_inv {st : Hst} (h : HInv st) {id : Int} {o : Hob} (ho : ObInv o) : HInv (st.put id o) := by
  refine ⟨fun x hx => ?_, ?_⟩
  · rcases mem_put hx with hx | rfl
    · exact h.obs x hx
    · exact ho
  · unfold Hst.put; simp only [List.length_set]; exact h.tch
theorem touch_inv {st : Hst} (h : HInv st) (id : Int) : HInv (st.touch id) := by
  refine ⟨h.obs, ?_⟩
  unfold Hst.touch; simp only [List.length_set]; exact h.tch
theorem hset_cases (st : Hst) (t k v : Vl) : (htab st t = none ∧ hset st t k v = st ∧ hsetE st t k v = 8) ∨ (∃ T, htab st t = some T ∧ okKey k = false ∧ hset st t k v = st ∧ hsetE st t k v = 13) ∨ (∃ T, htab st t = some T ∧ okKey k = true ∧ elemE v ≠ 0 ∧ hset st t k v = st ∧ hsetE st t k v = elemE v) ∨
    ∃ T o, htab st t = some T ∧ okKey k = true ∧ elemE v = 0 ∧ validB v = true ∧ st.get t.ref = some o ∧ o.kind = 4 ∧ t.kind = 4 ∧ o.tab = T ∧ hset st t k v = (st.put t.ref { o with tab := tset T k v }).touch t.ref ∧ hsetE st t k v = 0 := by
  unfold hset hsetE
  cases hT : htab st t with
  | none => exact .inl ⟨rfl, rfl, rfl⟩
  | some T =>
    simp only
    cases hk : okKey k with
    | false => exact .inr (.inl ⟨T, rfl, rfl, by simp, by simp⟩)
    | true =>
      by_cases he : elemE v = 0
      · obtain ⟨o, h1, h2, h3, h4, h5⟩ := htab_some hT
        refine .inr (.inr (.inr ⟨T, o, rfl, rfl, he, ?_, h2, h3, h4, h5, ?_, ?_⟩))
        · unfold elemE at he
          split at he
          · cases he
          · split at he
            · cases he
            · rename_i hv; simpa using hv
        · unfold Hst.setTab; rw [h2]; simp [he]
        · simp [he]
      · exact .inr (.inr (.inl ⟨T, rfl, rfl, he, by simp [he], by simp⟩))
theorem hset_inv {st : Hst} (h : HInv st) (t k v : Vl) : HInv (hset st t k v) := by
  rcases hset_cases st t k v with ⟨_, e, _⟩ | ⟨_, _, _, e, _⟩ | ⟨_, _, _, _, e, _⟩ | ⟨T, o, h1, h2, h3, hv, h4, h5, h6, h7, e, _⟩
  · rw [e]; exact h
  · rw [e]; exact h
  · rw [e]; exact h
  · rw [e]
    have ho := h.obs o (get_mem h4).1
    refine touch_inv (put_inv h (o := { o with tab := tset T k v }) ⟨ho.kind, ?_, ho.mt⟩) _
    rw [← h7]; exact tset_inv ho.tab k v
theorem hset_sm {n : Nat} {st : Hst} (hi : HInv st) (h : HSm n st) (t k v : Vl) : HSm (n + 1) (hset st t k v) := by
  rcases hset_cases st t k v with ⟨_, e, _⟩ | ⟨_, _, _, e, _⟩ | ⟨_, _, _, _, e, _⟩ | ⟨T, o, h1, h2, h3, hv, h4, h5, h6, h7, e, _⟩
  · rw [e]; exact h.mono (by omega)
  · rw [e]; exact h.mono (by omega)
  · rw [e]; exact h.mono (by omega)
  · rw [e]
    have hm := h.mono (Nat.le_succ n)
    have ho := h.obs o (get_mem h4).1
    have hl := tset_len (hi.obs o (get_mem h4).1).tab k v
    refine ⟨by show (st.objs.set _ _).length ≤ _; rw [List.length_set]; exact hm.len, fun x hx => ?_⟩
    rcases mem_put hx with hx | rfl
    · exact hm.obs x hx
    · have : (n + 1) * (n + 1 + 1) = n * (n + 1) + 2 * (n + 1) := by simp only [Nat.add_mul, Nat.mul_add]; omega
      rw [← h7]
      exact ⟨by show (tset o.tab k v).rest.length ≤ _; omega, by show (tset o.tab k v).list.length ≤ _; omega, by show o.vals.length ≤ _; omega⟩
theorem hmake_inv {st : Hst} (h : HInv st) {o : Hob} (ho : ObInv o) : HInv (hmake st o) := by
  unfold hmake
  split
  · exact h
  · refine ⟨fun x hx => ?_, by simp [h.tch]⟩
    rcases List.mem_append.1 hx with hx | hx
    · exact h.obs x hx
    · rw [List.mem_singleton] at hx; injection hx with hx; rw [hx]; exact ho
theorem hmake_sm {n : Nat} {st : Hst} (h : HSm n st) {o : Hob} (h1 : o.tab = noTb) (h2 : o.vals.length ≤ 20) : HSm (n + 1) (hmake st o) := by
  have hm := h.mono (Nat.le_succ n)
  unfold hmake
  split
  · exact hm
  · refine ⟨by simp; exact h.len, fun x hx => ?_⟩
    rcases List.mem_append.1 hx with hx | hx
    · exact hm.obs x hx
    · rw [List.mem_singleton] at hx; injection hx with hx; rw [hx, h1]
      exact ⟨Nat.zero_le _, Nat.zero_le _, by omega⟩
theorem newO_inv {kind : Int} (tag : Int) (name : ByteArray) (vals : List Vl) (hk : isRef kind = true) : ObInv (newO kind tag name vals) := ⟨hk, TInv.nil, fun _ _ => rfl⟩
theorem hsetMeta_cases (st : Hst) (v m : Vl) : (hsetMeta st v m = st ∧ hsetMetaE st v m = 8 ∧ hmetaOk st v m = false) ∨ ∃ o, st.get v.ref = some o ∧ o.kind = v.kind ∧ (o.kind = 4 ∨ o.kind = 8) ∧ hsetMeta st v m = (st.put v.ref { o with mt := m }).touch v.ref ∧ hsetMetaE st v m = 0 ∧ hmetaOk st v m = true := by
  unfold hsetMeta hsetMetaE
  cases hb : hmetaOk st v m with
  | false => exact .inl ⟨rfl, rfl, rfl⟩
  | true =>
    unfold hmetaOk at hb
    cases hf : hfind st v with
    | none => rw [hf] at hb; cases hb
    | some o =>
      rw [hf] at hb
      obtain ⟨h1, h2⟩ := hfind_some hf
      simp only [Bool.and_eq_true, Bool.or_eq_true, decide_eq_true_eq] at hb
      refine .inr ⟨o, h1, h2, hb.1, ?_, rfl, rfl⟩
      unfold Hst.setMt; rw [h1]; rfl
theorem hsetMeta_inv {st : Hst} (h : HInv st) (v m : Vl) : HInv (hsetMeta st v m) := by
  rcases hsetMeta_cases st v m with ⟨e, _⟩ | ⟨o, h1, _, h2, e, _⟩
  · rw [e]; exact h
  · rw [e]
    have ho := h.obs o (get_mem h1).1
    exact touch_inv (put_inv h (o := { o with mt := m }) ⟨ho.kind, ho.tab, fun a b => by rcases h2 with h | h <;> contradiction⟩) _
theorem hsetMeta_sm {n : Nat} {st : Hst} (h : HSm n st) (v m : Vl) : HSm (n + 1) (hsetMeta st v m) := by
  rcases hsetMeta_cases st v m with ⟨e, _⟩ | ⟨o, h1, _, h2, e, _⟩
  · rw [e]; exact h.mono (by omega)
  · rw [e]
    have hm := h.mono (Nat.le_succ n)
    refine ⟨by show (st.objs.set _ _).length ≤ _; rw [List.length_set]; exact hm.len, fun x hx => ?_⟩
    rcases mem_put hx with hx | rfl
    · exact hm.obs x hx
    · exact hm.obs o (get_mem h1).1
/-! ### Objects beside a map of their places -/
def ob0 : Hob := ⟨0, 0, ByteArray.empty, noTb, zVl, []⟩
def Hst.ob (st : Hst) (id : Int) : Hob := (st.get id).getD ob0
theorem ob_get {st : Hst} {id : Int} {o : Hob} (h : st.get id = some o) : st.ob id = o := by unfold Hst.ob; rw [h]; rfl
theorem get_end (st : Hst) : st.get ((st.objs.length : Int) + 1) = none := by
  unfold Hst.get
  rw [if_pos (by omega), show ((st.objs.length : Int) + 1).toNat - 1 = st.objs.length by omega, List.getElem?_eq_none (Nat.le_refl _)]; rfl
theorem get_snoc (st : Hst) (o : Hob) (tch : List Bool) (id : Int) : Hst.get ⟨st.objs ++ [some o], tch⟩ id = if id = (st.objs.length : Int) + 1 then some o else st.get id := by
  unfold Hst.get
  by_cases h : id = (st.objs.length : Int) + 1
  · subst h
    rw [if_pos rfl, if_pos (by omega)]
    show ((st.objs ++ [some o])[_]?).bind _ = _
    rw [show ((st.objs.length : Int) + 1).toNat - 1 = st.objs.length by omega, List.getElem?_append_right (Nat.le_refl _)]; simp
  · rw [if_neg h]
    by_cases hp : 1 ≤ id
    · rw [if_pos hp, if_pos hp]
      show ((st.objs ++ [some o])[_]?).bind _ = _
      by_cases hl : id.toNat - 1 < st.objs.length
      · rw [List.getElem?_append_left hl]
      · rw [List.getElem?_eq_none (by simp; omega), List.getElem?_eq_none (by omega)]
    · rw [if_neg hp, if_neg hp]
theorem count_snoc (st : Hst) (o : Hob) (tch : List Bool) : Hst.count ⟨st.objs ++ [some o], tch⟩ = st.count + 1 := by unfold Hst.count; simp
theorem countP_set {α : Type} {p : α → Bool} : ∀ (l : List α) {i : Nat} {x y : α}, l[i]? = some x → p x = p y → (l.set i y).countP p = l.countP p
  | [], _, _, _, h, _ => by cases h
  | a :: r, 0, x, y, h, e => by
    simp only [List.getElem?_cons_zero, Option.some.injEq] at h
    subst h; simp [List.countP_cons, e]
  | a :: r, i + 1, x, y, h, e => by
    simp only [List.getElem?_cons_succ] at h
    simp [List.countP_cons, countP_set r h e]
theorem count_put {st : Hst} {id : Int} {o o' : Hob} (h : st.get id = some o) : (st.put id o').count = st.count := by
  obtain ⟨_, h1, h2, h3⟩ := get_mem h
  exact countP_set _ h3 rfl
end Go.Proofs.YtmhpcebiamkciaaGreat
end
section
set_option linter.unusedSimpArgs false
set_option linter.unusedVariables false
namespace Go.Proofs.YtmhpcebiamkciaaGreat
open Go.S Go.J Go.Hp
open Go.Mem (aget aset adel apos aget_aset aget_adel)
structure HA (ps : List (Int × (Nat × Nat))) (st : Hst) : Prop where
  has : ∀ id, (aget ps id).isSome = (st.get id).isSome
  len : ps.length = st.count
def TA (tm : List (Int × Bool)) (st : Hst) : Prop := ∀ id o, st.get id = some o → (aget tm id).isSome = (st.tch[id.toNat - 1]?).getD false
abbrev ptrV (g : Nat) : Value := .pointer (some ⟨g, 0, none⟩)
def fndV (ps : List (Int × (Nat × Nat))) (st : Hst) (v : Vl) : Value := match hfind st v, aget ps v.ref with
  | some _, some q => ptrV q.1
  | _, _ => .pointer none
def tabV (q : Nat × Nat) (o : Hob) : Value := if o.kind = 4 then ptrV q.2 else .pointer none
def tbV (ps : List (Int × (Nat × Nat))) (st : Hst) (v : Vl) : Value := match hfind st v, aget ps v.ref with
  | some o, some q => tabV q o
  | _, _ => .pointer none
theorem get_cases {ps : List (Int × (Nat × Nat))} {st : Hst} (h : HA ps st) (id : Int) : (st.get id = none ∧ aget ps id = none) ∨ ∃ o q, st.get id = some o ∧ aget ps id = some q := by
  have := h.has id
  cases h1 : st.get id with
  | none => rw [h1] at this; exact .inl ⟨rfl, by cases h2 : aget ps id with | none => rfl | some q => rw [h2] at this; cases this⟩
  | some o => rw [h1] at this; exact .inr (by cases h2 : aget ps id with | none => rw [h2] at this; cases this | some q => exact ⟨o, q, rfl, rfl⟩)
theorem fnd_cases {ps : List (Int × (Nat × Nat))} {st : Hst} (h : HA ps st) (v : Vl) : (hfind st v = none ∧ htab st v = none ∧ fndV ps st v = .pointer none ∧ tbV ps st v = .pointer none) ∨ ∃ o q, hfind st v = some o ∧ st.get v.ref = some o ∧ o.kind = v.kind ∧ aget ps v.ref = some q ∧ fndV ps st v = ptrV q.1 ∧ tbV ps st v = tabV q o := by
  cases hf : hfind st v with
  | none => exact .inl ⟨rfl, htab_none hf, by unfold fndV; rw [hf], by unfold tbV; rw [hf]⟩
  | some o =>
    obtain ⟨h1, h2⟩ := hfind_some hf
    rcases get_cases h v.ref with ⟨h3, _⟩ | ⟨o', q, h3, h4⟩
    · rw [h1] at h3; cases h3
    · exact .inr ⟨o, q, rfl, h1, h2, h4, by unfold fndV; rw [hf, h4], by unfold tbV; rw [hf, h4]⟩
theorem tb_cases {ps : List (Int × (Nat × Nat))} {st : Hst} (h : HA ps st) (v : Vl) : (htab st v = none ∧ tbV ps st v = .pointer none) ∨ ∃ o q, htab st v = some o.tab ∧ st.get v.ref = some o ∧ o.kind = 4 ∧ v.kind = 4 ∧ aget ps v.ref = some q ∧ tbV ps st v = ptrV q.2 := by
  rcases fnd_cases h v with ⟨h1, h2, h3, h4⟩ | ⟨o, q, h1, h2, h3, h4, h5, h6⟩
  · exact .inl ⟨h2, h4⟩
  · by_cases hk : o.kind = 4
    · exact .inr ⟨o, q, htab_is h1 hk, h2, hk, by omega, h4, by rw [h6]; unfold tabV; rw [if_pos hk]⟩
    · exact .inl ⟨htab_not h1 hk, by rw [h6]; unfold tabV; rw [if_neg hk]⟩
theorem HA.nil : HA [] hp0 := ⟨fun id => by unfold Hst.get hp0; by_cases h : 1 ≤ id <;> simp [h, aget], rfl⟩
theorem TA.nil : TA [] hp0 := fun id o h => by
  have := (get_mem h).1
  cases this
theorem HA.put {ps : List (Int × (Nat × Nat))} {st : Hst} (h : HA ps st) {id : Int} {o o' : Hob} (hg : st.get id = some o) : HA ps (st.put id o') := by
  refine ⟨fun id' => ?_, by rw [h.len, count_put hg]⟩
  rw [h.has, get_put hg]
  by_cases e : id' = id
  · subst e; rw [hg, if_pos rfl]; rfl
  · rw [if_neg e]
theorem HA.touch {ps : List (Int × (Nat × Nat))} {st : Hst} (h : HA ps st) (id : Int) : HA ps (st.touch id) := ⟨h.has, h.len⟩
theorem TA.put {tm : List (Int × Bool)} {st : Hst} (h : TA tm st) {id : Int} {o o' : Hob} (hg : st.get id = some o) : TA tm (st.put id o') := fun id' x hx => by
  rw [get_put hg] at hx
  show _ = (st.tch[_]?).getD false
  by_cases e : id' = id
  · subst e; exact h id' o hg
  · rw [if_neg e] at hx; exact h id' x hx
theorem TA.touch {tm : List (Int × Bool)} {st : Hst} (h : TA tm st) (hi : HInv st) {id : Int} {o : Hob} (hg : st.get id = some o) : TA (aset tm id true) (st.touch id) := fun id' x hx => by
  obtain ⟨_, h1, h2, _⟩ := get_mem hg
  obtain ⟨_, h3, h4, _⟩ := get_mem (show st.get id' = some x from hx)
  have ht := hi.tch
  show _ = ((st.tch.set _ true)[_]?).getD false
  rw [aget_aset]
  by_cases e : id' = id
  · subst e; rw [if_pos rfl, List.getElem?_set_self (by omega)]; rfl
  · rw [if_neg e, List.getElem?_set_ne (by omega)]; exact h id' x hx
theorem HA.make {ps : List (Int × (Nat × Nat))} {st : Hst} (h : HA ps st) (o : Hob) (q : Nat × Nat) (hf : st.count < 65536) : HA (aset ps ((st.objs.length : Int) + 1) q) (hmake st o) := by
  unfold hmake
  rw [if_neg (by omega)]
  have hnone : aget ps ((st.objs.length : Int) + 1) = none := by
    have := h.has ((st.objs.length : Int) + 1)
    rw [get_end] at this
    cases hx : aget ps ((st.objs.length : Int) + 1) with
    | none => rfl
    | some q => rw [hx] at this; cases this
  refine ⟨fun id => ?_, ?_⟩
  · rw [aget_aset, get_snoc]
    by_cases e : id = (st.objs.length : Int) + 1
    · rw [if_pos e, if_pos e]; rfl
    · rw [if_neg e, if_neg e]; exact h.has id
  · rw [count_snoc, ← h.len]
    have : apos ps ((st.objs.length : Int) + 1) = none := by
      cases hp : apos ps ((st.objs.length : Int) + 1) with
      | none => rfl
      | some i => obtain ⟨_, y, _, h2⟩ := Go.Mem.apos_lt hp; rw [hnone] at h2; cases h2
    rw [Go.Mem.aset_new this]; simp
theorem TA.make {tm : List (Int × Bool)} {st : Hst} (h : TA tm st) (hi : HInv st) (o : Hob) (hf : st.count < 65536) : TA (aset tm ((st.objs.length : Int) + 1) true) (hmake st o) := fun id x hx => by
  unfold hmake at hx ⊢
  rw [if_neg (by omega)] at hx ⊢
  rw [get_snoc] at hx
  have ht := hi.tch
  show _ = ((st.tch ++ [true])[_]?).getD false
  rw [aget_aset]
  by_cases e : id = (st.objs.length : Int) + 1
  · rw [if_pos e, e, show ((st.objs.length : Int) + 1).toNat - 1 = st.objs.length by omega, List.getElem?_append_right (by omega)]; simp [ht]
  · rw [if_neg e] at hx ⊢
    obtain ⟨_, h1, h2, _⟩ := get_mem hx
    rw [List.getElem?_append_left (by omega)]; exact h id x hx
end Go.Proofs.YtmhpcebiamkciaaGreat
end
