/-
  The size of a heap. Each law says its conditions.
-/
import Derived.Test.YtmilekfknhglkaaG4
set_option linter.unusedSimpArgs false
set_option linter.unusedVariables false
set_option maxRecDepth 100000
set_option maxHeartbeats 2000000
namespace Go.Proofs.Ytmilekfknhglkaa
open Go.Hp Go.J Go.S
open Go.Mem (Ty KTy blk elemAt pre suf blk_pre blk_suf aget aset strK aggDesc)
open Go.Mem (adel apos aget_aset aget_adel)
theorem hsize_s {Z : Zone} {F : List Asr} {b : Nat} {st : Hst} {n : Nat} (hsm : HSm n st) (hn : n ≤ 300) : SF Try.prog 21 #[.pointer (some ⟨b, 0, none⟩)] Z (hpA b st :: F) fun r Bs => r = .int .i64 (hsize st) ∧ Bs = hpA b st :: F := by
 refine sf_enter Try.func21 22 [(0, pB b 0)] (fun w0 => ?_)
 refine k_memX (fun H h => hpA_open (h.re [0] [])) (fun ps1 _ => ?_)
 refine k_fact (fun H h => hp_facts (h.re [0] [])) (fun hf2 => ?_)
 obtain ⟨hi3, ha4⟩ := hf2
 refine k_mem3 (fun H h => hp_open (h.re [0] [])) (fun mb5 tb6 tm7 hw => ?_)
 obtain ⟨hi8, ha9, ht10⟩ := hw
 refine k_fact (fun H h => (h.mp (i := 1) rfl).nodup) (fun hnd0 => ?_)
 refine k_sr ?_
 refine sp (.int .i64 0) ?_
 refine s_nt ?_
 refine k_seq ?_
 refine k_sr ?_
 refine sp (pB b 0) ?_
 refine sp (.bool false) ?_
 refine s_nt ?_
 refine k_false ?_
 refine k_st ?_
 refine k_sr ?_
 refine sp (.int .i64 0) ?_
 refine s_nt ?_
 refine k_seq ?_
 refine k_sr ?_
 refine sp (pB b 0) ?_
 refine sp (pB b 0) ?_
 refine sp (pB b 0) ?_
 refine s_lt (t_load 0 (.map (some mb5))) ?_
 refine s_range 1 Try.underlying73 (fun r11 => ?_)
 refine s_nt ?_
 refine k_block ?_
 refine k_loop (ι := List (Int × (Nat × Nat))) (fun dn => dn.length ≤ ps1.length ∧ 0 ≤ (dn.map fun p => obSize (st.ob p.1)).sum ∧ (dn.map fun p => obSize (st.ob p.1)).sum ≤ 200000 * (dn.length : Int)) (fun dn => [(3, .int .i64 ((dn.map fun p => obSize (st.ob p.1)).sum)), (12, pB r11 0)]) (fun dn => blkA b #[.map (some mb5), .int .i64 (st.objs.length : Int), .map (some tb6)] 76 :: rgA iK oV mb5 r11 ps1 dn :: mpA iK bV tb6 tm7 :: allP ps1 st :: F) (fun dn => ps1.length - dn.length) [] ⟨Nat.zero_le _, by simp, by simp⟩ (sub_of rfl ⟨⟨rfl, rfl⟩, ⟨⟨rfl, rfl⟩, trivial⟩⟩) (fun _ h => h.re [0, 0, 0, 0] []) ?_
 rintro dn hi12
 show SK _ _ _ _ _ [(3, .int .i64 ((dn.map fun p => obSize (st.ob p.1)).sum)), (12, .pointer (some ⟨r11, 0, none⟩))] _ (blkA b #[.map (some mb5), .int .i64 (st.objs.length : Int), .map (some tb6)] 76 :: rgA iK oV mb5 r11 ps1 dn :: mpA iK bV tb6 tm7 :: allP ps1 st :: F)
 have hpl : ps1.length ≤ 300 := by have := ha9.len; have := count_le st; have := hsm.len; omega
 refine k_sr ?_
 refine s_next 1 (fun hd13 => ?_) (fun ky14 u15 hm16 hn17 hd18 => ?_)
 ·
  refine sp (.bool false) ?_
  refine s_nt ?_
  refine k_seq ?_
  refine k_false ?_
  refine k_exit ?_
  refine xs_mem (fun _ h => Holds.unrange 1 h) ?_
  refine xs_exit ?_
  refine xs_exit ?_
  refine xs_here ?_
  refine xs_then ?_
  refine k_sr ?_
  refine sp (.int .i64 ((dn.map fun p => obSize (st.ob p.1)).sum)) ?_
  refine sp (.int .i64 ((dn.map fun p => obSize (st.ob p.1)).sum)) ?_
  refine s_nt ?_
  refine k_ret ?_
  refine xs_mem (fun _ h => hp_shut (st := st) (n := (st.objs.length : Int)) ⟨⟨hi8, ha9, ht10⟩, rfl⟩ (h.re [0, 0, 0, 0] [])) ?_
  have hz : (dn.map fun p => obSize (st.ob p.1)).sum = hsize st := by rw [← size_keys ha9 hnd0]; exact sum_perm (hd13.map _)
  refine xs_mem (fun _ h => hpA_shut (h.re [0] [])) ?_
  refine xs_fin [.int .i64 ((dn.map fun p => obSize (st.ob p.1)).sum)] (hpA b st :: F) (SI.tmp 2 SI.nil) (fun _ h => h.re [0] []) ⟨?_, ?_⟩
  · rw [← hz]; rfl
  · rfl
 ·
  have hq21 := aget_mem hnd0 hm16
  obtain ⟨o19, ho20⟩ := halive_iff.1 ((mem_keys ha9).1 (List.mem_map.2 ⟨_, hm16, rfl⟩))
  have hob := obsize_bound hsm hn ho20
  refine sp (.bool true) ?_
  refine s_nt ?_
  refine k_seq ?_
  refine k_true ?_
  refine k_st ?_
  refine k_block ?_
  refine k_sr ?_
  refine s_lt (t_entry 1) ?_
  refine sp (pB u15.1 0) ?_
  refine sp (pB u15.1 0) ?_
  refine s_nt ?_
  refine k_reg ?_
  refine sp (.int .i64 ((dn.map fun p => obSize (st.ob p.1)).sum)) ?_
  refine sp (pB u15.1 0) ?_
  have hnd22 := hnd0
  obtain ⟨hz1, hz2, hz3⟩ := ob_bound hsm hn ho20
  refine s_mem (fun _ h => all_take hq21 ho20 (h.re [3] [])) ?_
  refine s_call [0] (obsize_s (q := u15) (o := o19) (by omega) (by omega) (by omega)) ?_
  rintro _ _ ⟨rfl, rfl⟩
  refine s_mem (fun _ h => all_back hnd22 hq21 ho20 h) ?_
  refine s_lt (t_add ((dn.map fun p => obSize (st.ob p.1)).sum) (obSize o19) (by (try simp only [lnm]); omega)) ?_
  refine sp (.int .i64 ((dn.map fun p => obSize (st.ob p.1)).sum + (obSize o19))) ?_
  refine s_nil ?_
  refine xs_block ?_
  have hsu : ((dn ++ [(ky14, u15)]).map fun p => obSize (st.ob p.1)).sum = (dn.map fun p => obSize (st.ob p.1)).sum + obSize o19 := by rw [List.map_append, List.sum_append, List.map_cons, List.map_nil]; show _ + (obSize (st.ob ky14) + 0) = _; rw [ob_get ho20, Int.add_zero]
  exact xs_round (dn ++ [(ky14, u15)]) (by show ps1.length - (dn ++ [(ky14, u15)]).length < ps1.length - dn.length; rw [List.length_append]; have := hd18; simp only [List.length_singleton]; omega) (by show (dn ++ [(ky14, u15)]).length ≤ ps1.length ∧ _; rw [hsu, List.length_append]; simp only [List.length_singleton]; have := hd18; omega) (sub_of rfl ⟨⟨rfl, congrArg (Value.int .i64) hsu.symm⟩, ⟨⟨rfl, rfl⟩, trivial⟩⟩) (fun _ h => h.re [1, 1, 1, 0] [])
end Go.Proofs.Ytmilekfknhglkaa
