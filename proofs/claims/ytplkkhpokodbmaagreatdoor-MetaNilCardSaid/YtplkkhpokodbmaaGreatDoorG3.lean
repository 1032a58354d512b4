/-
  Tables of the program. Each law says its conditions.
-/
import Derived.Test.YtplkkhpokodbmaaGreatDoorG2
section
set_option linter.unusedSimpArgs false
set_option linter.unusedVariables false
set_option maxRecDepth 100000
set_option maxHeartbeats 2000000
namespace Go.Proofs.YtplkkhpokodbmaaGreatDoor
open Go.Hp Go.J Go.S
open Go.Mem (Ty KTy blk elemAt pre suf blk_pre blk_suf aget aset strK aggDesc)
open Go.Mem (adel apos aget_aset aget_adel)
/-- A table in memory. -/
def tbA (b : Nat) (L : List Vl) (S : List Slt) : Asr := exA fun lv => exA fun r => stA True [blkA b #[lv, .pointer (some ⟨r, 0, none⟩)] 119, own VlT lv L, omA r S]
theorem tb_open {b : Nat} {L : List Vl} {S : List Slt} {Z : Zone} {F : List Asr} {H : Heap} (h : Holds Z (tbA b L S :: F) H) : ∃ (lv : Value) (r : Nat), True ∧ Holds Z (blkA b #[lv, .pointer (some ⟨r, 0, none⟩)] 119 :: own VlT lv L :: omA r S :: F) H := by
  obtain ⟨lv, h⟩ := h.open_ex
  obtain ⟨r, h⟩ := h.open_ex
  exact ⟨lv, r, h.open_st⟩
theorem tb_shut {b : Nat} {L : List Vl} {S : List Slt} {Z : Zone} {F : List Asr} {H : Heap} {lv : Value} {r : Nat} (h : Holds Z (blkA b #[lv, .pointer (some ⟨r, 0, none⟩)] 119 :: own VlT lv L :: omA r S :: F) H) : Holds Z (tbA b L S :: F) H :=
  Holds.shut_ex lv (Holds.shut_ex r (Holds.shut_st trivial h))
theorem tb_inv {b : Nat} {L : List Vl} {S : List Slt} {Z : Zone} {F : List Asr} {H : Heap} (h : Holds Z (tbA b L S :: F) H) : OInv S := by
  obtain ⟨_, _, _, h⟩ := tb_open h; exact om_inv (h.re [2] [])
theorem ofint_s {Z : Zone} (x : Int) : SF Tryz.prog 46 #[.int .i64 x] Z [] fun r Bs => r = (ofI x).v ∧ Bs = [] := by
 refine sf_enter Tryz.func46 13 [(0, .int .i64 x)] (fun w0 => ?_)
 refine k_sr ?_
 refine s_alloc (.agg #[.int .i64 0, .int .i64 0, .int .i64 0, .string ByteArray.empty, .int .i64 0]) #[.int .i64 0, .int .i64 0, .int .i64 0, .string ByteArray.empty, .int .i64 0] (fun g1 => ?_)
 refine s_nt ?_
 refine k_seq ?_
 refine k_cut (ι := Unit) (fun _ => True) (fun _ => [(0, .int .i64 x), (2, pB g1 0), (8, .bool ((decide (x < (-2147483647))) || (decide ((2147483647 : Int) < x))))]) (fun _ => [blkA g1 #[.int .i64 0, .int .i64 0, .int .i64 0, .string ByteArray.empty, .int .i64 0] 26]) ?_ (fun _ _ => ?_)
 ·
  refine k_reg ?_
  refine sp (.int .i64 x) ?_
  refine s_lt t_cmp ?_
  refine sp (.bool (decide (x < (-2147483647)))) ?_
  refine s_fork 5 (decide (x < (-2147483647))) (fun c2 => ?_) (fun c2 => ?_)
  ·
   have p3 := of_decide_eq_true c2
   refine s_skip ?_
   refine s_skip ?_
   refine sp (.bool true) ?_
   refine s_nil ?_
   exact xs_cut () trivial (sub_of rfl ⟨⟨rfl, rfl⟩, ⟨⟨rfl, rfl⟩, ⟨⟨rfl, show Value.bool true = Value.bool ((decide (x < (-2147483647))) || (decide ((2147483647 : Int) < x))) by first | (simp only [c2, bls]; done) | simp [c2]⟩, trivial⟩⟩⟩) (fun _ h => h.re [0] [])
  ·
   have p4 := of_decide_eq_false c2
   refine sp (.int .i64 x) ?_
   refine s_lt t_cmp ?_
   refine sp (.bool (decide ((2147483647 : Int) < x))) ?_
   refine s_nil ?_
   exact xs_cut () trivial (sub_of rfl ⟨⟨rfl, rfl⟩, ⟨⟨rfl, rfl⟩, ⟨⟨rfl, show Value.bool (decide ((2147483647 : Int) < x)) = Value.bool ((decide (x < (-2147483647))) || (decide ((2147483647 : Int) < x))) by first | (simp only [c2, bls]; done) | simp [c2]⟩, trivial⟩⟩⟩) (fun _ h => h.re [0] [])
 ·
  refine k_cond ((decide (x < (-2147483647))) || (decide ((2147483647 : Int) < x))) (fun c5 => ?_) (fun c5 => ?_)
  ·
   have p6 := c5
   simp only [Bool.and_eq_true, Bool.or_eq_true, Bool.and_eq_false_iff, Bool.or_eq_false_iff, Bool.not_eq_true', Bool.not_eq_false', decide_eq_true_eq, decide_eq_false_iff_not] at p6
   refine k_sr ?_
   refine s_lt (t_kern (.agg #[.int .i64 0, .int .i64 0, .int .i64 0, .string ByteArray.empty, .int .i64 0])) ?_
   refine s_store 0 #[.int .i64 0, .int .i64 0, .int .i64 0, .string ByteArray.empty, .int .i64 0] ?_
   refine s_nt ?_
   refine k_ret ?_
   refine xs_ret ?_
   refine xs_fin [.agg #[.int .i64 0, .int .i64 0, .int .i64 0, .string ByteArray.empty, .int .i64 0]] [] (SI.agg 2 26 0 SI.nil) (fun _ h => h.re [] [0]) ⟨?_, rfl⟩
   show Value.agg _ = Vl.v (ofI x); unfold ofI; rw [if_pos (by omega)]; rfl
  ·
   obtain ⟨c7, c8⟩ := or_f c5
   have p9 := of_decide_eq_false c7
   have p10 := of_decide_eq_false c8
   refine k_st ?_
   refine k_sr ?_
   refine sp (.int .i64 x) ?_
   refine s_lt (t_kern (.agg #[.int .i64 x, .int .i64 1])) ?_
   refine s_lt (t_kern (.agg #[.int .i64 2, .int .i64 x, .int .i64 1, .string ByteArray.empty, .int .i64 0])) ?_
   refine s_store 0 #[.int .i64 2, .int .i64 x, .int .i64 1, .string ByteArray.empty, .int .i64 0] ?_
   refine s_nt ?_
   refine k_ret ?_
   refine xs_fin [.agg #[.int .i64 2, .int .i64 x, .int .i64 1, .string ByteArray.empty, .int .i64 0]] [] (SI.agg 2 26 0 SI.nil) (fun _ h => h.re [] [0]) ⟨?_, rfl⟩
   show Value.agg _ = Vl.v (ofI x); unfold ofI; rw [if_neg (by omega)]
theorem rofint_s {Z : Zone} (x : Int) : SF Tryz.prog 51 #[.int .i64 x] Z [] fun r Bs => r = (ofI x).v ∧ Bs = [] := by
 refine sf_enter Tryz.func51 13 [(0, .int .i64 x)] (fun w0 => ?_)
 refine k_sr ?_
 refine s_alloc (.agg #[.int .i64 0, .int .i64 0, .int .i64 0, .string ByteArray.empty, .int .i64 0]) #[.int .i64 0, .int .i64 0, .int .i64 0, .string ByteArray.empty, .int .i64 0] (fun g1 => ?_)
 refine s_nt ?_
 refine k_seq ?_
 refine k_cut (ι := Unit) (fun _ => True) (fun _ => [(0, .int .i64 x), (2, pB g1 0), (8, .bool ((decide (x < (-2147483647))) || (decide ((2147483647 : Int) < x))))]) (fun _ => [blkA g1 #[.int .i64 0, .int .i64 0, .int .i64 0, .string ByteArray.empty, .int .i64 0] 26]) ?_ (fun _ _ => ?_)
 ·
  refine k_reg ?_
  refine sp (.int .i64 x) ?_
  refine s_lt t_cmp ?_
  refine sp (.bool (decide (x < (-2147483647)))) ?_
  refine s_fork 5 (decide (x < (-2147483647))) (fun c2 => ?_) (fun c2 => ?_)
  ·
   have p3 := of_decide_eq_true c2
   refine s_skip ?_
   refine s_skip ?_
   refine sp (.bool true) ?_
   refine s_nil ?_
   exact xs_cut () trivial (sub_of rfl ⟨⟨rfl, rfl⟩, ⟨⟨rfl, rfl⟩, ⟨⟨rfl, show Value.bool true = Value.bool ((decide (x < (-2147483647))) || (decide ((2147483647 : Int) < x))) by first | (simp only [c2, bls]; done) | simp [c2]⟩, trivial⟩⟩⟩) (fun _ h => h.re [0] [])
  ·
   have p4 := of_decide_eq_false c2
   refine sp (.int .i64 x) ?_
   refine s_lt t_cmp ?_
   refine sp (.bool (decide ((2147483647 : Int) < x))) ?_
   refine s_nil ?_
   exact xs_cut () trivial (sub_of rfl ⟨⟨rfl, rfl⟩, ⟨⟨rfl, rfl⟩, ⟨⟨rfl, show Value.bool (decide ((2147483647 : Int) < x)) = Value.bool ((decide (x < (-2147483647))) || (decide ((2147483647 : Int) < x))) by first | (simp only [c2, bls]; done) | simp [c2]⟩, trivial⟩⟩⟩) (fun _ h => h.re [0] [])
 ·
  refine k_cond ((decide (x < (-2147483647))) || (decide ((2147483647 : Int) < x))) (fun c5 => ?_) (fun c5 => ?_)
  ·
   have p6 := c5
   simp only [Bool.and_eq_true, Bool.or_eq_true, Bool.and_eq_false_iff, Bool.or_eq_false_iff, Bool.not_eq_true', Bool.not_eq_false', decide_eq_true_eq, decide_eq_false_iff_not] at p6
   refine k_sr ?_
   refine s_lt (t_kern (.agg #[.int .i64 0, .int .i64 0, .int .i64 0, .string ByteArray.empty, .int .i64 0])) ?_
   refine s_store 0 #[.int .i64 0, .int .i64 0, .int .i64 0, .string ByteArray.empty, .int .i64 0] ?_
   refine s_nt ?_
   refine k_ret ?_
   refine xs_ret ?_
   refine xs_fin [.agg #[.int .i64 0, .int .i64 0, .int .i64 0, .string ByteArray.empty, .int .i64 0]] [] (SI.agg 2 26 0 SI.nil) (fun _ h => h.re [] [0]) ⟨?_, rfl⟩
   show Value.agg _ = Vl.v (ofI x); unfold ofI; rw [if_pos (by omega)]; rfl
  ·
   obtain ⟨c7, c8⟩ := or_f c5
   have p9 := of_decide_eq_false c7
   have p10 := of_decide_eq_false c8
   refine k_st ?_
   refine k_sr ?_
   refine sp (.int .i64 x) ?_
   refine s_lt (t_kern (.agg #[.int .i64 x, .int .i64 1])) ?_
   refine s_lt (t_kern (.agg #[.int .i64 2, .int .i64 x, .int .i64 1, .string ByteArray.empty, .int .i64 0])) ?_
   refine s_store 0 #[.int .i64 2, .int .i64 x, .int .i64 1, .string ByteArray.empty, .int .i64 0] ?_
   refine s_nt ?_
   refine k_ret ?_
   refine xs_fin [.agg #[.int .i64 2, .int .i64 x, .int .i64 1, .string ByteArray.empty, .int .i64 0]] [] (SI.agg 2 26 0 SI.nil) (fun _ h => h.re [] [0]) ⟨?_, rfl⟩
   show Value.agg _ = Vl.v (ofI x); unfold ofI; rw [if_neg (by omega)]
theorem integer_s {Z : Zone} (k : Vl) : SF Tryz.prog 102 #[k.v] Z [] fun r Bs => r = .tuple #[.int .i64 k.p, .bool (isIntB k)] ∧ Bs = [] := by
 refine sf_enter Tryz.func102 20 [(0, .agg #[.int .i64 k.kind, .int .i64 k.p, .int .i64 k.q, .string k.str, .int .i64 k.ref])] (fun w0 => ?_)
 refine k_sr ?_
 refine s_box #[.int .i64 k.kind, .int .i64 k.p, .int .i64 k.q, .string k.str, .int .i64 k.ref] (fun g1 => ?_)
 refine sp (.int .i64 0) ?_
 refine sp (.bool false) ?_
 refine s_nt ?_
 refine k_seq ?_
 refine k_held [blkA g1 #[.int .i64 k.kind, .int .i64 k.p, .int .i64 k.q, .string k.str, .int .i64 k.ref] 26] ?_
 refine hp_ 0 [0] (pB g1 1) ?_
 refine hp_ 1 [0] (pB g1 1) ?_
 refine h_l 2 rfl [0] (fun _ => (t_load 0 (.int .i64 k.p))) ?_
 refine hp_ 3 [0] (pB g1 0) ?_
 refine h_l 4 rfl [0] (fun _ => (t_load 0 (.int .i64 k.kind))) ?_
 refine h_l 5 rfl [0] (fun _ => t_cmp) ?_
 refine hp_ 6 [0] (.bool (decide (k.kind = 2))) ?_
 refine h_forkS 10 (decide (k.kind = 2)) (fun c2 => ?_) (fun c2 => ?_)
 ·
  have p3 := of_decide_eq_true c2
  refine hp_ 7 [0] (pB g1 1) ?_
  refine hp_ 8 [0] (pB g1 2) ?_
  refine h_l 9 rfl [0] (fun _ => (t_load 0 (.int .i64 k.q))) ?_
  refine h_l 10 rfl [0] (fun _ => t_cmp) ?_
  refine hp_ 11 [0] (.bool (decide (k.q = 1))) ?_
  refine hp_ 12 [0] (.bool (decide (k.q = 1))) ?_
  refine h_forkS 16 (decide (k.q = 1)) (fun c4 => ?_) (fun c4 => ?_)
  ·
   have p5 := of_decide_eq_true c4
   refine h_l 13 rfl [0] (fun _ => (t_loadA 0 #[.int .i64 k.kind, .int .i64 k.p, .int .i64 k.q, .string k.str, .int .i64 k.ref])) ?_
   refine h_stepS 14 ?_
   refine s_vcall (fun _ h => valid_s k) ?_
   rintro _ rfl
   refine s_nil (xs_held [0] ?_)
   refine hp_ 15 [0] (.bool (validB k)) ?_
   refine hp_ 16 [0] (.int .i64 k.p) ?_
   refine hp_ 17 [0] (.bool (validB k)) ?_
   refine h_doneS ?_
   refine xs_then ?_
   refine k_ret ?_
   refine xs_fin [.int .i64 k.p, .bool (validB k)] [] (SI.tmp 2 (SI.tmp 3 SI.nil)) (fun _ h => h.re [] [0]) ⟨?_, rfl⟩
   show Value.tuple #[.int .i64 k.p, .bool (validB k)] = Value.tuple #[.int .i64 k.p, .bool (isIntB k)]
   unfold isIntB; simp [c2, c4]
  ·
   have p6 := of_decide_eq_false c4
   refine h_sk 13 [0] ?_
   refine h_stepS 14 ?_
   refine s_skip ?_
   refine s_nil (xs_held [0] ?_)
   refine hp_ 15 [0] (.bool false) ?_
   refine hp_ 16 [0] (.int .i64 k.p) ?_
   refine hp_ 17 [0] (.bool false) ?_
   refine h_doneS ?_
   refine xs_then ?_
   refine k_ret ?_
   refine xs_fin [.int .i64 k.p, .bool false] [] (SI.tmp 2 (SI.tmp 3 SI.nil)) (fun _ h => h.re [] [0]) ⟨?_, rfl⟩
   show Value.tuple #[.int .i64 k.p, .bool false] = Value.tuple #[.int .i64 k.p, .bool (isIntB k)]
   unfold isIntB; simp [c2, c4]
 ·
  have p7 := of_decide_eq_false c2
  refine h_sk 7 [0] ?_
  refine h_sk 8 [0] ?_
  refine h_sk 9 [0] ?_
  refine h_sk 10 [0] ?_
  refine hp_ 11 [0] (.bool false) ?_
  refine hp_ 12 [0] (.bool false) ?_
  refine h_sk 13 [0] ?_
  refine h_stepS 14 ?_
  refine s_skip ?_
  refine s_nil (xs_held [0] ?_)
  refine hp_ 15 [0] (.bool false) ?_
  refine hp_ 16 [0] (.int .i64 k.p) ?_
  refine hp_ 17 [0] (.bool false) ?_
  refine h_doneS ?_
  refine xs_then ?_
  refine k_ret ?_
  refine xs_fin [.int .i64 k.p, .bool false] [] (SI.tmp 2 (SI.tmp 3 SI.nil)) (fun _ h => h.re [] [0]) ⟨?_, rfl⟩
  show Value.tuple #[.int .i64 k.p, .bool false] = Value.tuple #[.int .i64 k.p, .bool (isIntB k)]
  unfold isIntB; simp [c2]
theorem tbnew_s {Z : Zone} : SF Tryz.prog 71 #[] Z [] fun r Bs => ∃ b, r = .pointer (some ⟨b, 0, none⟩) ∧ Bs = [tbA b [] []] := by
 refine sf_enter Tryz.func71 4 [] (fun w0 => ?_)
 refine k_sr ?_
 refine sp (.pointer none) ?_
 refine s_nr ?_
 refine s_pcall (fun _ h => omnew_s) ?_
 rintro _ _ ⟨r1, rfl, rfl⟩
 refine s_lt (t_kern (.agg #[(.slice none 0 0), pB r1 0])) ?_
 refine s_box #[(.slice none 0 0), pB r1 0] (fun g2 => ?_)
 refine sp (pB g2 0) ?_
 refine s_nt ?_
 refine k_ret ?_
 refine xs_fin [pB g2 0] [tbA g2 [] []] (SI.tmp 0 SI.nil) (fun _ h => tb_shut (b := g2) (lv := .slice none 0 0) (r := r1) ((Holds.nilS (T := VlT) h).re [1, 0, 0] [])) ⟨g2, rfl, rfl⟩
theorem tbget_s {Z : Zone} {F : List Asr} {b : Nat} {L : List Vl} {S : List Slt} (hl : L.length ≤ 1000000) (k : Vl) : SF Tryz.prog 96 #[.pointer (some ⟨b, 0, none⟩), k.v] Z (tbA b L S :: F) fun r Bs => r = (tget ⟨L, S⟩ k).v ∧ Bs = tbA b L S :: F := by
 refine sf_enter Tryz.func96 48 [(0, pB b 0), (1, .agg #[.int .i64 k.kind, .int .i64 k.p, .int .i64 k.q, .string k.str, .int .i64 k.ref])] (fun w0 => ?_)
 refine k_sr ?_
 refine s_box #[.int .i64 k.kind, .int .i64 k.p, .int .i64 k.q, .string k.str, .int .i64 k.ref] (fun g1 => ?_)
 refine s_alloc (.agg #[.int .i64 0, .int .i64 0, .int .i64 0, .string ByteArray.empty, .int .i64 0]) #[.int .i64 0, .int .i64 0, .int .i64 0, .string ByteArray.empty, .int .i64 0] (fun g2 => ?_)
 refine s_nt ?_
 refine k_seq ?_
 refine k_sr ?_
 refine sp (pB b 0) ?_
 refine sp (.bool false) ?_
 refine sp (.bool false) ?_
 refine s_lt (t_loadA 1 #[.int .i64 k.kind, .int .i64 k.p, .int .i64 k.q, .string k.str, .int .i64 k.ref]) ?_
 refine s_vcall (fun _ h => valid_s k) ?_
 rintro _ rfl
 refine sp (.bool (!(validB k))) ?_
 refine sp (.bool (!(validB k))) ?_
 refine s_nt ?_
 refine k_cond (!(validB k)) (fun c3 => ?_) (fun c3 => ?_)
 ·
  have c4 := not_t c3
  refine k_sr ?_
  refine s_lt (t_kern (.agg #[.int .i64 0, .int .i64 0, .int .i64 0, .string ByteArray.empty, .int .i64 0])) ?_
  refine s_store 0 #[.int .i64 0, .int .i64 0, .int .i64 0, .string ByteArray.empty, .int .i64 0] ?_
  refine s_nt ?_
  refine k_ret ?_
  refine xs_ret ?_
  refine xs_fin [.agg #[.int .i64 0, .int .i64 0, .int .i64 0, .string ByteArray.empty, .int .i64 0]] (tbA b L S :: F) (SI.agg 4 26 0 SI.nil) (fun _ h => h.re [2] [1, 1]) ⟨?_, rfl⟩
  rw [tget_bad c4]; rfl
 ·
  have c5 := not_f c3
  refine k_st ?_
  refine k_seq ?_
  refine k_sr ?_
  refine s_lt (t_loadA 1 #[.int .i64 k.kind, .int .i64 k.p, .int .i64 k.q, .string k.str, .int .i64 k.ref]) ?_
  refine s_vcall (fun _ h => integer_s k) ?_
  rintro u6 e7
  rcases int_cases k with ⟨hi8, hp9, hv10⟩ | ⟨hi11, hw12⟩
  ·
   rw [hi8, hp9] at e7; subst e7
   refine sp (.tuple #[.int .i64 (whole k), .bool true]) ?_
   refine sp (.int .i64 (whole k)) ?_
   refine sp (.bool true) ?_
   refine sp (.int .i64 (whole k)) ?_
   refine sp (.bool true) ?_
   refine s_nr ?_
   refine sp (.bool true) ?_
   refine sp (.bool true) ?_
   refine sp (.int .i64 (whole k)) ?_
   refine s_lt t_cmp ?_
   refine sp (.bool (decide ((1 : Int) ≤ (whole k)))) ?_
   refine sp (.bool (decide ((1 : Int) ≤ (whole k)))) ?_
   refine s_fork 25 (decide ((1 : Int) ≤ (whole k))) (fun c13 => ?_) (fun c13 => ?_)
   ·
    have p14 := of_decide_eq_true c13
    refine sp (.int .i64 (whole k)) ?_
    refine sp (pB b 0) ?_
    refine sp (pB b 0) ?_
    refine sp (pB b 0) ?_
    refine s_mem2 (fun H h => tb_open (h.re [2] [])) (fun lv15 r16 hw => ?_)
    refine s_lt (t_load 0 lv15) ?_
    refine s_lt (t_len VlT_ok Tryz.underlying33 (.own 1)) ?_
    refine s_lt t_cmp ?_
    refine sp (.bool (decide ((whole k) ≤ (L.length : Int)))) ?_
    refine s_nt ?_
    refine k_cond (decide ((whole k) ≤ (L.length : Int))) (fun c17 => ?_) (fun c17 => ?_)
    ·
     have p18 := of_decide_eq_true c17
     refine k_sr ?_
     refine sp (pB b 0) ?_
     refine sp (pB b 0) ?_
     refine sp (pB b 0) ?_
     refine s_lt (t_load 0 lv15) ?_
     refine sp (.int .i64 (whole k)) ?_
     refine s_lt (t_sub (whole k) 1 (by (try simp only [lnm]); omega)) ?_
     refine s_lt (t_index VlT_ok Tryz.underlying33 (.own 1) ((whole k) - 1) ((((whole k) - 1)).toNat) (by omega) (by (try simp only [lnm]); omega) (by omega)) ?_
     obtain ⟨y19, hy20⟩ : ∃ y, L[(((whole k) - 1)).toNat]? = some y := ⟨_, List.getElem?_eq_getElem (by (try simp only [lnm]); omega)⟩
     refine s_lt (t_loadE VlT_ok (.own 1) hy20) ?_
     refine s_store 3 #[.int .i64 y19.kind, .int .i64 y19.p, .int .i64 y19.q, .string y19.str, .int .i64 y19.ref] ?_
     refine s_nt ?_
     refine k_ret ?_
     refine xs_ret ?_
     refine xs_mem (fun _ h => tb_shut (h.re [0, 0, 0] [])) ?_
     refine xs_fin [.agg #[.int .i64 y19.kind, .int .i64 y19.p, .int .i64 y19.q, .string y19.str, .int .i64 y19.ref]] (tbA b L S :: F) (SI.agg 4 26 1 SI.nil) (fun _ h => h.re [0] [1, 1]) ⟨?_, rfl⟩
     rw [tget_in (T := ⟨L, S⟩) c5 (by omega) (by show _ ≤ (L.length : Int); omega) hy20]; rfl
    ·
     have p21 := of_decide_eq_false c17
     refine k_st ?_
     refine k_seq ?_
     refine k_draw ?_
     refine sp (pB b 0) ?_
     refine sp (pB b 0) ?_
     refine sp (pB b 1) ?_
     refine s_lt (t_load 0 (pB r16 0)) ?_
     refine s_lt (t_loadA 4 #[.int .i64 k.kind, .int .i64 k.p, .int .i64 k.q, .string k.str, .int .i64 k.ref]) ?_
     refine s_call [2] (omget_s (S := S) k) ?_
     rintro _ _ ⟨rfl, rfl⟩
     refine s_store 3 #[.int .i64 ((oget S k).kind), .int .i64 ((oget S k).p), .int .i64 ((oget S k).q), .string ((oget S k).str), .int .i64 ((oget S k).ref)] ?_
     refine s_nil ?_
     refine x_dynS (fun _ h => by kernel_rfl) ?_
     refine xs_then ?_
     refine k_ret ?_
     refine xs_mem (fun _ h => tb_shut (h.re [1, 1, 0] [])) ?_
     refine xs_fin [.agg #[.int .i64 ((oget S k).kind), .int .i64 ((oget S k).p), .int .i64 ((oget S k).q), .string ((oget S k).str), .int .i64 ((oget S k).ref)]] (tbA b L S :: F) (SI.agg 4 26 1 SI.nil) (fun _ h => h.re [0] [1, 1]) ⟨?_, rfl⟩
     rw [tget_out (T := ⟨L, S⟩) c5 (by show ¬ (_ ∧ _ ≤ (L.length : Int)); omega)]; rfl
   ·
    have p22 := of_decide_eq_false c13
    refine s_skip ?_
    refine s_skip ?_
    refine s_skip ?_
    refine s_skip ?_
    refine s_skip ?_
    refine s_skip ?_
    refine s_skip ?_
    refine sp (.bool false) ?_
    refine s_nt ?_
    refine k_false ?_
    refine k_st ?_
    refine k_seq ?_
    refine k_draw ?_
    refine sp (pB b 0) ?_
    refine sp (pB b 0) ?_
    refine sp (pB b 1) ?_
    refine s_mem2 (fun H h => tb_open (h.re [2] [])) (fun lv23 r24 hw => ?_)
    refine s_lt (t_load 0 (pB r24 0)) ?_
    refine s_lt (t_loadA 4 #[.int .i64 k.kind, .int .i64 k.p, .int .i64 k.q, .string k.str, .int .i64 k.ref]) ?_
    refine s_call [2] (omget_s (S := S) k) ?_
    rintro _ _ ⟨rfl, rfl⟩
    refine s_store 3 #[.int .i64 ((oget S k).kind), .int .i64 ((oget S k).p), .int .i64 ((oget S k).q), .string ((oget S k).str), .int .i64 ((oget S k).ref)] ?_
    refine s_nil ?_
    refine x_dynS (fun _ h => by kernel_rfl) ?_
    refine xs_then ?_
    refine k_ret ?_
    refine xs_mem (fun _ h => tb_shut (h.re [1, 1, 0] [])) ?_
    refine xs_fin [.agg #[.int .i64 ((oget S k).kind), .int .i64 ((oget S k).p), .int .i64 ((oget S k).q), .string ((oget S k).str), .int .i64 ((oget S k).ref)]] (tbA b L S :: F) (SI.agg 4 26 1 SI.nil) (fun _ h => h.re [0] [1, 1]) ⟨?_, rfl⟩
    rw [tget_out (T := ⟨L, S⟩) c5 (by show ¬ (_ ∧ _ ≤ (L.length : Int)); omega)]; rfl
  ·
   rw [hi11] at e7; subst e7
   refine sp (.tuple #[.int .i64 k.p, .bool false]) ?_
   refine sp (.int .i64 k.p) ?_
   refine sp (.bool false) ?_
   refine sp (.int .i64 k.p) ?_
   refine sp (.bool false) ?_
   refine s_nr ?_
   refine sp (.bool false) ?_
   refine sp (.bool false) ?_
   refine s_skip ?_
   refine s_skip ?_
   refine sp (.bool false) ?_
   refine sp (.bool false) ?_
   refine s_skip ?_
   refine s_skip ?_
   refine s_skip ?_
   refine s_skip ?_
   refine s_skip ?_
   refine s_skip ?_
   refine s_skip ?_
   refine sp (.bool false) ?_
   refine s_nt ?_
   refine k_false ?_
   refine k_st ?_
   refine k_seq ?_
   refine k_draw ?_
   refine sp (pB b 0) ?_
   refine sp (pB b 0) ?_
   refine sp (pB b 1) ?_
   refine s_mem2 (fun H h => tb_open (h.re [2] [])) (fun lv25 r26 hw => ?_)
   refine s_lt (t_load 0 (pB r26 0)) ?_
   refine s_lt (t_loadA 4 #[.int .i64 k.kind, .int .i64 k.p, .int .i64 k.q, .string k.str, .int .i64 k.ref]) ?_
   refine s_call [2] (omget_s (S := S) k) ?_
   rintro _ _ ⟨rfl, rfl⟩
   refine s_store 3 #[.int .i64 ((oget S k).kind), .int .i64 ((oget S k).p), .int .i64 ((oget S k).q), .string ((oget S k).str), .int .i64 ((oget S k).ref)] ?_
   refine s_nil ?_
   refine x_dynS (fun _ h => by kernel_rfl) ?_
   refine xs_then ?_
   refine k_ret ?_
   refine xs_mem (fun _ h => tb_shut (h.re [1, 1, 0] [])) ?_
   refine xs_fin [.agg #[.int .i64 ((oget S k).kind), .int .i64 ((oget S k).p), .int .i64 ((oget S k).q), .string ((oget S k).str), .int .i64 ((oget S k).ref)]] (tbA b L S :: F) (SI.agg 4 26 1 SI.nil) (fun _ h => h.re [0] [1, 1]) ⟨?_, rfl⟩
   rw [tget_out (T := ⟨L, S⟩) c5 (by show ¬ (_ ∧ _ ≤ (L.length : Int)); omega)]; rfl
theorem tbshrink_s {Z : Zone} {F : List Asr} {b : Nat} {L : List Vl} {S : List Slt} (hl : L.length ≤ 1000000) : SF Tryz.prog 103 #[.pointer (some ⟨b, 0, none⟩)] Z (tbA b L S :: F) fun r Bs => r = .tuple #[] ∧ Bs = tbA b (shr L) S :: F := by
 refine sf_enter Tryz.func103 34 [(0, pB b 0)] (fun w0 => ?_)
 refine k_sr ?_
 refine sp (pB b 0) ?_
 refine sp (pB b 0) ?_
 refine sp (pB b 0) ?_
 refine s_mem2 (fun H h => tb_open (h.re [0] [])) (fun lv1 r2 hw => ?_)
 refine s_lt (t_load 0 lv1) ?_
 refine s_lt (t_len VlT_ok Tryz.underlying33 (.own 1)) ?_
 refine sp (.int .i64 (L.length : Int)) ?_
 refine s_nt ?_
 refine k_seq ?_
 refine k_block ?_
 refine k_mem (fun _ h => tb_shut (h.re [0, 0, 0] [])) ?_
 refine k_loop (ι := Nat) (fun n => n ≤ L.length ∧ shr L = shr (L.take n)) (fun n => [(0, pB b 0), (2, .int .i64 (n : Int))]) (fun n => tbA b L S :: F) (fun n => n) L.length ⟨Nat.le_refl _, by rw [List.take_length]⟩ (sub_of rfl ⟨⟨rfl, rfl⟩, ⟨⟨rfl, rfl⟩, trivial⟩⟩) (fun _ h => h.re [0] []) ?_
 rintro n hi3
 show SK _ _ _ _ _ [(0, .pointer (some ⟨b, 0, none⟩)), (2, .int .i64 (n : Int))] _ (tbA b L S :: F)
 refine k_seq ?_
 refine k_sr ?_
 refine sp (.int .i64 (n : Int)) ?_
 refine s_lt t_cmp ?_
 refine sp (.bool (decide ((0 : Int) < (n : Int)))) ?_
 refine s_fork 10 (decide ((0 : Int) < (n : Int))) (fun c4 => ?_) (fun c4 => ?_)
 ·
  have p5 := of_decide_eq_true c4
  refine sp (pB b 0) ?_
  refine sp (pB b 0) ?_
  refine sp (pB b 0) ?_
  refine s_mem2 (fun H h => tb_open (h.re [0] [])) (fun lv6 r7 hw => ?_)
  refine s_lt (t_load 0 lv6) ?_
  refine sp (.int .i64 (n : Int)) ?_
  refine s_lt (t_sub (n : Int) 1 (by (try simp only [lnm]); omega)) ?_
  refine s_lt (t_index VlT_ok Tryz.underlying33 (.own 1) ((n : Int) - 1) (n - 1) (by omega) (by (try simp only [lnm]); omega) (by omega)) ?_
  refine sp (.pointer (some (elemAt VlT.size lv6 (n - 1)))) ?_
  obtain ⟨y8, hy9⟩ : ∃ y, L[(n - 1)]? = some y := ⟨_, List.getElem?_eq_getElem (by (try simp only [lnm]); omega)⟩
  refine s_lt (t_loadF 0 VlT_ok (.own 1) hy9) ?_
  refine s_lt t_cmp ?_
  refine sp (.bool (decide (y8.kind = 0))) ?_
  refine s_nt ?_
  refine k_cond (decide (y8.kind = 0)) (fun c10 => ?_) (fun c10 => ?_)
  ·
   have p11 := of_decide_eq_true c10
   refine k_st ?_
   refine k_block ?_
   refine k_reg ?_
   refine sp (.int .i64 (n : Int)) ?_
   refine s_lt (t_sub (n : Int) 1 (by (try simp only [lnm]); omega)) ?_
   refine sp (.int .i64 ((n : Int) - 1)) ?_
   refine s_nil ?_
   refine xs_block ?_
   refine xs_mem (fun _ h => tb_shut (h.re [0, 0, 0] [])) ?_
   exact xs_round (n - 1) (by omega) ⟨by omega, by rw [← shr_step (n := n - 1) (by omega) hy9 (by omega), show n - 1 + 1 = n by omega]; exact hi3.2⟩ (sub_of rfl ⟨⟨rfl, rfl⟩, ⟨⟨rfl, congrArg (Value.int .i64) (by omega)⟩, trivial⟩⟩) (fun _ h => h.re [0] [])
  ·
   have p12 := of_decide_eq_false c10
   refine k_exit ?_
   refine xs_exit ?_
   refine xs_exit ?_
   refine xs_here ?_
   refine xs_then ?_
   refine k_reg ?_
   refine sp (pB b 0) ?_
   refine sp (pB b 0) ?_
   refine sp (pB b 0) ?_
   refine sp (pB b 0) ?_
   refine s_lt (t_load 0 lv6) ?_
   refine sp (.int .i64 (n : Int)) ?_
   refine sp (.int .i64 (n : Int)) ?_
   refine s_lt (t_pre3 VlT_ok Tryz.underlying33 (.own 1) (n : Int) n (by omega) (by (try simp only [lnm]); omega) (by omega)) ?_
   refine sp (pB b 0) ?_
   refine sp (pB b 0) ?_
   refine s_mem (fun _ h => Holds.pre3 (i := 1) h VlT_ok n rfl (by (try simp only [lnm]); omega)) ?_
   refine s_fact (fun H h => ((Acc.own (T := VlT) (L := (L.take n)) 1 rfl) H h).form) (fun hf13 => ?_)
   refine s_store (u := (pre3 lv6 n)) (m := 1) 0 #[(pre3 lv6 n), pB r7 0] ?_ (hm := by (obtain ⟨_, _, e⟩ := hf13; rw [e]; rfl)) (h1 := by (obtain ⟨_, _, e⟩ := hf13; rw [e]; rfl)) (ha' := by (obtain ⟨_, _, e⟩ := hf13; rw [e]; rfl))
   refine s_nil ?_
   refine xs_mem (fun _ h => tb_shut (h.re [0, 0, 0] [])) ?_
   have hS : shr L = L.take n := by rw [hi3.2, show n = n - 1 + 1 by omega]; exact shr_stop hy9 (by omega)
   refine xs_finN [] (tbA b (L.take n) S :: F) SI.nil (fun _ h => h.re [0] []) ⟨rfl, ?_⟩
   rw [hS]
 ·
  have p14 := of_decide_eq_false c4
  refine s_skip ?_
  refine s_skip ?_
  refine s_skip ?_
  refine s_skip ?_
  refine s_skip ?_
  refine s_skip ?_
  refine s_skip ?_
  refine s_skip ?_
  refine s_skip ?_
  refine s_skip ?_
  refine sp (.bool false) ?_
  refine s_nt ?_
  refine k_false ?_
  refine k_exit ?_
  refine xs_exit ?_
  refine xs_exit ?_
  refine xs_here ?_
  refine xs_then ?_
  refine k_reg ?_
  refine sp (pB b 0) ?_
  refine sp (pB b 0) ?_
  refine sp (pB b 0) ?_
  refine sp (pB b 0) ?_
  refine s_mem2 (fun H h => tb_open (h.re [0] [])) (fun lv15 r16 hw => ?_)
  refine s_lt (t_load 0 lv15) ?_
  refine sp (.int .i64 (n : Int)) ?_
  refine sp (.int .i64 (n : Int)) ?_
  refine s_lt (t_pre3 VlT_ok Tryz.underlying33 (.own 1) (n : Int) n (by omega) (by (try simp only [lnm]); omega) (by omega)) ?_
  refine sp (pB b 0) ?_
  refine sp (pB b 0) ?_
  refine s_mem (fun _ h => Holds.pre3 (i := 1) h VlT_ok n rfl (by (try simp only [lnm]); omega)) ?_
  refine s_fact (fun H h => ((Acc.own (T := VlT) (L := (L.take n)) 1 rfl) H h).form) (fun hf17 => ?_)
  refine s_store (u := (pre3 lv15 n)) (m := 1) 0 #[(pre3 lv15 n), pB r16 0] ?_ (hm := by (obtain ⟨_, _, e⟩ := hf17; rw [e]; rfl)) (h1 := by (obtain ⟨_, _, e⟩ := hf17; rw [e]; rfl)) (ha' := by (obtain ⟨_, _, e⟩ := hf17; rw [e]; rfl))
  refine s_nil ?_
  refine xs_mem (fun _ h => tb_shut (h.re [0, 0, 0] [])) ?_
  have hS : shr L = L.take n := by obtain rfl : n = 0 := (by omega); rw [hi3.2]; rfl
  refine xs_finN [] (tbA b (L.take n) S :: F) SI.nil (fun _ h => h.re [0] []) ⟨rfl, ?_⟩
  rw [hS]
theorem stale_step (S : List Slt) {n m : Nat} (h : n ≤ m) : (staleB S n m || decide ((onext S (ofI ((m : Int) + 1))).2.2.2 = 0)) = staleB S n (m + 1) := by
  rw [staleB_snoc S h, hasK_iff]
  cases hasK S (ofI ((m : Int) + 1)) <;> simp
theorem tadd_eq {L L' : List Vl} {S : List Slt} {v : Vl} (h : grow S (S.length + 2) L v = L') : tadd ⟨L, S⟩ v = ⟨L', if staleB S L.length L'.length then purge S L'.length else S⟩ := by
  unfold tadd; simp only [h]
theorem purgeS_len (S : List Slt) (m i : Nat) : (purgeS S m i).length ≤ S.length := by
  unfold purgeS
  refine Nat.le_trans (List.length_filter_le _ _) ?_
  rw [List.length_take]; have := cnt_le S; unfold cnt at this; omega
theorem okeys_length (S : List Slt) : (okeys S).length = (live S).length := by unfold okeys; simp
theorem mu_le (S : List Slt) (n : Nat) (v : Vl) : mu S n v ≤ S.length + 1 := by
  unfold mu; have := more_le S (n + 1); split <;> omega
theorem tbadd_s {Z : Zone} {F : List Asr} {b : Nat} {L : List Vl} {S : List Slt} (hl : L.length ≤ 100000) (hs : S.length ≤ 100000) (v : Vl) : SF Tryz.prog 104 #[.pointer (some ⟨b, 0, none⟩), v.v] Z (tbA b L S :: F) fun r Bs => r = .tuple #[] ∧ Bs = tbA b (tadd ⟨L, S⟩ v).list (tadd ⟨L, S⟩ v).rest :: F := by
 refine sf_enter Tryz.func104 107 [(0, pB b 0), (1, .agg #[.int .i64 v.kind, .int .i64 v.p, .int .i64 v.q, .string v.str, .int .i64 v.ref])] (fun w0 => ?_)
 refine k_fact (fun H h => tb_inv (h.re [0] [])) (fun hinv0 => ?_)
 have hol := okeys_len S
 refine k_sr ?_
 refine s_box #[.int .i64 v.kind, .int .i64 v.p, .int .i64 v.q, .string v.str, .int .i64 v.ref] (fun g1 => ?_)
 refine s_nr ?_
 refine sp (.bool false) ?_
 refine s_nt ?_
 refine k_seq ?_
 refine k_block ?_
 refine k_mem2 (fun H h => tb_open (h.re [1] [])) (fun lv2 r3 hw => ?_)
 have hmu0 := mu_le S L.length v
 refine k_loop (ι := Value × List Vl × Vl × Nat) (fun (lx, X, x, f) => grow S (S.length + 2) L v = grow S f X x ∧ mu S X.length x ≤ f ∧ L.length ≤ X.length ∧ X.length + mu S X.length x ≤ L.length + S.length + 1) (fun (lx, X, x, f) => [(0, pB b 0), (3, pB g1 0), (4, .bool (staleB S L.length X.length))]) (fun (lx, X, x, f) => blkA b #[lx, pB r3 0] 119 :: own VlT lx X :: omA r3 S :: blkA g1 #[.int .i64 x.kind, .int .i64 x.p, .int .i64 x.q, .string x.str, .int .i64 x.ref] 26 :: F) (fun (lx, X, x, f) => mu S X.length x) (lv2, L, v, S.length + 2) ⟨rfl, by omega, by omega, by omega⟩ (sub_of rfl ⟨⟨rfl, rfl⟩, ⟨⟨rfl, rfl⟩, ⟨⟨rfl, congrArg Value.bool (staleB_self S L.length).symm⟩, trivial⟩⟩⟩) (fun _ h => h.re [0, 0, 0, 0] []) ?_
 rintro ⟨lx, X, x, f⟩ hi4
 replace hi4 : grow S (S.length + 2) L v = grow S f X x ∧ mu S X.length x ≤ f ∧ L.length ≤ X.length ∧ X.length + mu S X.length x ≤ L.length + S.length + 1 := hi4
 show SK _ _ _ _ _ [(0, .pointer (some ⟨b, 0, none⟩)), (3, .pointer (some ⟨g1, 0, none⟩)), (4, .bool (staleB S L.length X.length))] _ (blkA b #[lx, .pointer (some ⟨r3, 0, none⟩)] 119 :: own VlT lx X :: omA r3 S :: blkA g1 #[.int .i64 x.kind, .int .i64 x.p, .int .i64 x.q, .string x.str, .int .i64 x.ref] 26 :: F)
 refine k_seq ?_
 refine k_sr ?_
 refine sp (pB g1 0) ?_
 refine s_lt (t_load 3 (.int .i64 x.kind)) ?_
 refine s_lt t_cmp ?_
 refine s_nt ?_
 refine k_cond (decide (x.kind ≠ 0)) (fun c5 => ?_) (fun c5 => ?_)
 ·
  have p6 := of_decide_eq_true c5
  have hx0 : x.kind ≠ 0 := of_decide_eq_true c5
  obtain ⟨f1, hf1, hg1⟩ := grow_step S X hx0 hi4.2.1
  have hg2 : grow S (S.length + 2) L v = grow S (f - 1) (X ++ [x]) (oget S (ofI ((X.length : Int) + 2))) := by rw [hi4.1, hg1, hf1]; rfl
  refine k_st ?_
  refine k_block ?_
  refine k_seq ?_
  refine k_draw ?_
  refine sp (pB b 0) ?_
  refine sp (pB b 0) ?_
  refine sp (pB b 0) ?_
  refine sp (pB b 0) ?_
  refine s_lt (t_load 0 lx) ?_
  refine s_lt (t_loadA 3 #[.int .i64 x.kind, .int .i64 x.p, .int .i64 x.q, .string x.str, .int .i64 x.ref]) ?_
  refine s_buildSlice (e := 26) [(0, .agg #[.int .i64 x.kind, .int .i64 x.p, .int .i64 x.q, .string x.str, .int .i64 x.ref])] #[.int .i64 x.kind, .int .i64 x.p, .int .i64 x.q, .string x.str, .int .i64 x.ref] (fun g7 => ?_) (hb := by kernel_rfl)
  refine s_append (L := X) 2 VlT_ok Tryz.underlying33 (.lit 0 VlT_ok [x]) (by show _ * 48 ≤ _; (try simp only [lnm]); omega) (by (try simp only [lnm]); omega) (fun v8 => ?_)
  obtain ⟨L2, hL2⟩ : ∃ y, y = X ++ [x] := ⟨_, rfl⟩
  rw [← hL2]
  have ll2 : L2.length = X.length + 1 := by rw [hL2]; simp
  refine sp (pB b 0) ?_
  refine sp (pB b 0) ?_
  refine s_fact (fun H h => ((Acc.own (T := VlT) (L := L2) 2 rfl) H h).form) (fun hf9 => ?_)
  refine s_store (u := v8) (m := 1) 1 #[v8, pB r3 0] ?_ (hm := by (obtain ⟨_, _, e⟩ := hf9; rw [e]; rfl)) (h1 := by (obtain ⟨_, _, e⟩ := hf9; rw [e]; rfl)) (ha' := by (obtain ⟨_, _, e⟩ := hf9; rw [e]; rfl))
  refine s_nil ?_
  refine x_dynS (fun _ h => by kernel_rfl) ?_
  refine xs_then ?_
  refine k_cut (ι := Unit) (fun _ => True) (fun _ => [(0, pB b 0), (3, pB g1 0), (4, .bool (staleB S L.length X.length)), (8, .int .i64 ((onext S (ofI ((X.length : Int) + 1))).2.2.2))]) (fun _ => blkA g7 #[.int .i64 x.kind, .int .i64 x.p, .int .i64 x.q, .string x.str, .int .i64 x.ref] 26 :: blkA b #[v8, pB r3 0] 119 :: own VlT v8 L2 :: omA r3 S :: blkA g1 #[.int .i64 x.kind, .int .i64 x.p, .int .i64 x.q, .string x.str, .int .i64 x.ref] 26 :: F) ?_ (fun _ _ => ?_)
  ·
   refine k_held [blkA g7 #[.int .i64 x.kind, .int .i64 x.p, .int .i64 x.q, .string x.str, .int .i64 x.ref] 26, blkA b #[v8, pB r3 0] 119, own VlT v8 L2, blkA g1 #[.int .i64 x.kind, .int .i64 x.p, .int .i64 x.q, .string x.str, .int .i64 x.ref] 26] ?_
   refine hp_ 0 [0, 0, 0, 1] (pB b 0) ?_
   refine hp_ 1 [0, 0, 0, 1] (pB b 0) ?_
   refine hp_ 2 [0, 0, 0, 1] (pB b 1) ?_
   refine h_l 3 rfl [0, 0, 0, 1] (fun _ => (t_load 1 (pB r3 0))) ?_
   refine hp_ 4 [0, 0, 0, 1] (pB b 0) ?_
   refine hp_ 5 [0, 0, 0, 1] (pB b 0) ?_
   refine hp_ 6 [0, 0, 0, 1] (pB b 0) ?_
   refine h_l 7 rfl [0, 0, 0, 1] (fun _ => (t_load 1 v8)) ?_
   refine h_l 8 rfl [0, 0, 0, 1] (fun _ => (t_len VlT_ok Tryz.underlying33 (.own 2))) ?_
   refine h_stepS3 9 16 17 ?_ ?_ ?_
   ·
    refine s_vcall (fun _ h => ofint_s (L2.length : Int)) ?_
    rintro u11 e10
    obtain rfl : u11 = (ofI ((X.length : Int) + 1)).v := by rw [e10, show (L2.length : Int) = (X.length : Int) + 1 by omega]
    refine s_nil (xs_held [0, 0, 0, 1] ?_)
    refine h_stepS3 10 16 17 ?_ ?_ ?_
    ·
     refine s_call [3] (omnext_s (S := S) (by (try simp only [lnm]); omega) (ofI ((X.length : Int) + 1))) ?_
     rintro _ _ ⟨rfl, rfl⟩
     refine s_nil (xs_held [1, 1, 1, 1] ?_)
     refine hp_ 11 [1, 1, 1, 1] (.tuple #[.agg #[.int .i64 (((onext S (ofI ((X.length : Int) + 1))).1).kind), .int .i64 (((onext S (ofI ((X.length : Int) + 1))).1).p), .int .i64 (((onext S (ofI ((X.length : Int) + 1))).1).q), .string (((onext S (ofI ((X.length : Int) + 1))).1).str), .int .i64 (((onext S (ofI ((X.length : Int) + 1))).1).ref)], .agg #[.int .i64 (((onext S (ofI ((X.length : Int) + 1))).2.1).kind), .int .i64 (((onext S (ofI ((X.length : Int) + 1))).2.1).p), .int .i64 (((onext S (ofI ((X.length : Int) + 1))).2.1).q), .string (((onext S (ofI ((X.length : Int) + 1))).2.1).str), .int .i64 (((onext S (ofI ((X.length : Int) + 1))).2.1).ref)], .bool ((onext S (ofI ((X.length : Int) + 1))).2.2.1), .int .i64 ((onext S (ofI ((X.length : Int) + 1))).2.2.2)]) ?_
     refine hp_ 12 [1, 1, 1, 1] (.agg #[.int .i64 (((onext S (ofI ((X.length : Int) + 1))).1).kind), .int .i64 (((onext S (ofI ((X.length : Int) + 1))).1).p), .int .i64 (((onext S (ofI ((X.length : Int) + 1))).1).q), .string (((onext S (ofI ((X.length : Int) + 1))).1).str), .int .i64 (((onext S (ofI ((X.length : Int) + 1))).1).ref)]) ?_
     refine hp_ 13 [1, 1, 1, 1] (.agg #[.int .i64 (((onext S (ofI ((X.length : Int) + 1))).2.1).kind), .int .i64 (((onext S (ofI ((X.length : Int) + 1))).2.1).p), .int .i64 (((onext S (ofI ((X.length : Int) + 1))).2.1).q), .string (((onext S (ofI ((X.length : Int) + 1))).2.1).str), .int .i64 (((onext S (ofI ((X.length : Int) + 1))).2.1).ref)]) ?_
     refine hp_ 14 [1, 1, 1, 1] (.bool ((onext S (ofI ((X.length : Int) + 1))).2.2.1)) ?_
     refine hp_ 15 [1, 1, 1, 1] (.int .i64 ((onext S (ofI ((X.length : Int) + 1))).2.2.2)) ?_
     refine h_stepS2 16 17 ?_ ?_
     ·
      refine s_alloc (.agg #[.int .i64 0, .int .i64 0, .int .i64 0, .string ByteArray.empty, .int .i64 0]) #[.int .i64 0, .int .i64 0, .int .i64 0, .string ByteArray.empty, .int .i64 0] (fun g12 => ?_)
      refine s_nil (xs_held [2, 2, 2, 2] ?_)
      refine h_stepS 17 ?_
      refine s_alloc (.agg #[.int .i64 0, .int .i64 0, .int .i64 0, .string ByteArray.empty, .int .i64 0]) #[.int .i64 0, .int .i64 0, .int .i64 0, .string ByteArray.empty, .int .i64 0] (fun g13 => ?_)
      refine s_nil (xs_held [3, 3, 3, 3] ?_)
      refine h_stepS 18 ?_
      refine s_store 1 #[.int .i64 (((onext S (ofI ((X.length : Int) + 1))).1).kind), .int .i64 (((onext S (ofI ((X.length : Int) + 1))).1).p), .int .i64 (((onext S (ofI ((X.length : Int) + 1))).1).q), .string (((onext S (ofI ((X.length : Int) + 1))).1).str), .int .i64 (((onext S (ofI ((X.length : Int) + 1))).1).ref)] ?_
      refine s_nil (xs_held [3, 3, 3, 3] ?_)
      refine h_stepS 19 ?_
      refine s_store 0 #[.int .i64 (((onext S (ofI ((X.length : Int) + 1))).2.1).kind), .int .i64 (((onext S (ofI ((X.length : Int) + 1))).2.1).p), .int .i64 (((onext S (ofI ((X.length : Int) + 1))).2.1).q), .string (((onext S (ofI ((X.length : Int) + 1))).2.1).str), .int .i64 (((onext S (ofI ((X.length : Int) + 1))).2.1).ref)] ?_
      refine s_nil (xs_held [3, 3, 3, 3] ?_)
      refine hp_ 20 [3, 3, 3, 3] (.bool ((onext S (ofI ((X.length : Int) + 1))).2.2.1)) ?_
      refine hp_ 21 [3, 3, 3, 3] (.int .i64 ((onext S (ofI ((X.length : Int) + 1))).2.2.2)) ?_
      refine h_doneS ?_
      exact xcut () (fun _ h => h.re [3, 3, 3, 2, 2] [5, 5])
     ·
      refine s_alloc (.agg #[.int .i64 0, .int .i64 0, .int .i64 0, .string ByteArray.empty, .int .i64 0]) #[.int .i64 0, .int .i64 0, .int .i64 0, .string ByteArray.empty, .int .i64 0] (fun g14 => ?_)
      refine s_nil (xs_held [2, 2, 2, 2] ?_)
      refine h_stepS 16 ?_
      refine s_alloc (.agg #[.int .i64 0, .int .i64 0, .int .i64 0, .string ByteArray.empty, .int .i64 0]) #[.int .i64 0, .int .i64 0, .int .i64 0, .string ByteArray.empty, .int .i64 0] (fun g15 => ?_)
      refine s_nil (xs_held [3, 3, 3, 3] ?_)
      refine h_stepS 18 ?_
      refine s_store 0 #[.int .i64 (((onext S (ofI ((X.length : Int) + 1))).1).kind), .int .i64 (((onext S (ofI ((X.length : Int) + 1))).1).p), .int .i64 (((onext S (ofI ((X.length : Int) + 1))).1).q), .string (((onext S (ofI ((X.length : Int) + 1))).1).str), .int .i64 (((onext S (ofI ((X.length : Int) + 1))).1).ref)] ?_
      refine s_nil (xs_held [3, 3, 3, 3] ?_)
      refine h_stepS 19 ?_
      refine s_store 1 #[.int .i64 (((onext S (ofI ((X.length : Int) + 1))).2.1).kind), .int .i64 (((onext S (ofI ((X.length : Int) + 1))).2.1).p), .int .i64 (((onext S (ofI ((X.length : Int) + 1))).2.1).q), .string (((onext S (ofI ((X.length : Int) + 1))).2.1).str), .int .i64 (((onext S (ofI ((X.length : Int) + 1))).2.1).ref)] ?_
      refine s_nil (xs_held [3, 3, 3, 3] ?_)
      refine hp_ 20 [3, 3, 3, 3] (.bool ((onext S (ofI ((X.length : Int) + 1))).2.2.1)) ?_
      refine hp_ 21 [3, 3, 3, 3] (.int .i64 ((onext S (ofI ((X.length : Int) + 1))).2.2.2)) ?_
      refine h_doneS ?_
      exact xcut () (fun _ h => h.re [3, 3, 3, 2, 2] [5, 5])
    ·
     refine s_alloc (.agg #[.int .i64 0, .int .i64 0, .int .i64 0, .string ByteArray.empty, .int .i64 0]) #[.int .i64 0, .int .i64 0, .int .i64 0, .string ByteArray.empty, .int .i64 0] (fun g16 => ?_)
     refine s_nil (xs_held [1, 1, 1, 2] ?_)
     refine h_stepS2 10 17 ?_ ?_
     ·
      refine s_call [4] (omnext_s (S := S) (by (try simp only [lnm]); omega) (ofI ((X.length : Int) + 1))) ?_
      rintro _ _ ⟨rfl, rfl⟩
      refine s_nil (xs_held [2, 2, 2, 2] ?_)
      refine hp_ 11 [2, 2, 2, 2] (.tuple #[.agg #[.int .i64 (((onext S (ofI ((X.length : Int) + 1))).1).kind), .int .i64 (((onext S (ofI ((X.length : Int) + 1))).1).p), .int .i64 (((onext S (ofI ((X.length : Int) + 1))).1).q), .string (((onext S (ofI ((X.length : Int) + 1))).1).str), .int .i64 (((onext S (ofI ((X.length : Int) + 1))).1).ref)], .agg #[.int .i64 (((onext S (ofI ((X.length : Int) + 1))).2.1).kind), .int .i64 (((onext S (ofI ((X.length : Int) + 1))).2.1).p), .int .i64 (((onext S (ofI ((X.length : Int) + 1))).2.1).q), .string (((onext S (ofI ((X.length : Int) + 1))).2.1).str), .int .i64 (((onext S (ofI ((X.length : Int) + 1))).2.1).ref)], .bool ((onext S (ofI ((X.length : Int) + 1))).2.2.1), .int .i64 ((onext S (ofI ((X.length : Int) + 1))).2.2.2)]) ?_
      refine hp_ 12 [2, 2, 2, 2] (.agg #[.int .i64 (((onext S (ofI ((X.length : Int) + 1))).1).kind), .int .i64 (((onext S (ofI ((X.length : Int) + 1))).1).p), .int .i64 (((onext S (ofI ((X.length : Int) + 1))).1).q), .string (((onext S (ofI ((X.length : Int) + 1))).1).str), .int .i64 (((onext S (ofI ((X.length : Int) + 1))).1).ref)]) ?_
      refine hp_ 13 [2, 2, 2, 2] (.agg #[.int .i64 (((onext S (ofI ((X.length : Int) + 1))).2.1).kind), .int .i64 (((onext S (ofI ((X.length : Int) + 1))).2.1).p), .int .i64 (((onext S (ofI ((X.length : Int) + 1))).2.1).q), .string (((onext S (ofI ((X.length : Int) + 1))).2.1).str), .int .i64 (((onext S (ofI ((X.length : Int) + 1))).2.1).ref)]) ?_
      refine hp_ 14 [2, 2, 2, 2] (.bool ((onext S (ofI ((X.length : Int) + 1))).2.2.1)) ?_
      refine hp_ 15 [2, 2, 2, 2] (.int .i64 ((onext S (ofI ((X.length : Int) + 1))).2.2.2)) ?_
      refine h_stepS 17 ?_
      refine s_alloc (.agg #[.int .i64 0, .int .i64 0, .int .i64 0, .string ByteArray.empty, .int .i64 0]) #[.int .i64 0, .int .i64 0, .int .i64 0, .string ByteArray.empty, .int .i64 0] (fun g17 => ?_)
      refine s_nil (xs_held [3, 3, 3, 3] ?_)
      refine h_stepS 18 ?_
      refine s_store 2 #[.int .i64 (((onext S (ofI ((X.length : Int) + 1))).1).kind), .int .i64 (((onext S (ofI ((X.length : Int) + 1))).1).p), .int .i64 (((onext S (ofI ((X.length : Int) + 1))).1).q), .string (((onext S (ofI ((X.length : Int) + 1))).1).str), .int .i64 (((onext S (ofI ((X.length : Int) + 1))).1).ref)] ?_
      refine s_nil (xs_held [3, 3, 3, 3] ?_)
      refine h_stepS 19 ?_
      refine s_store 0 #[.int .i64 (((onext S (ofI ((X.length : Int) + 1))).2.1).kind), .int .i64 (((onext S (ofI ((X.length : Int) + 1))).2.1).p), .int .i64 (((onext S (ofI ((X.length : Int) + 1))).2.1).q), .string (((onext S (ofI ((X.length : Int) + 1))).2.1).str), .int .i64 (((onext S (ofI ((X.length : Int) + 1))).2.1).ref)] ?_
      refine s_nil (xs_held [3, 3, 3, 3] ?_)
      refine hp_ 20 [3, 3, 3, 3] (.bool ((onext S (ofI ((X.length : Int) + 1))).2.2.1)) ?_
      refine hp_ 21 [3, 3, 3, 3] (.int .i64 ((onext S (ofI ((X.length : Int) + 1))).2.2.2)) ?_
      refine h_doneS ?_
      exact xcut () (fun _ h => h.re [3, 3, 3, 1, 2] [5, 5])
     ·
      refine s_alloc (.agg #[.int .i64 0, .int .i64 0, .int .i64 0, .string ByteArray.empty, .int .i64 0]) #[.int .i64 0, .int .i64 0, .int .i64 0, .string ByteArray.empty, .int .i64 0] (fun g18 => ?_)
      refine s_nil (xs_held [2, 2, 2, 3] ?_)
      refine h_stepS 10 ?_
      refine s_call [5] (omnext_s (S := S) (by (try simp only [lnm]); omega) (ofI ((X.length : Int) + 1))) ?_
      rintro _ _ ⟨rfl, rfl⟩
      refine s_nil (xs_held [3, 3, 3, 3] ?_)
      refine hp_ 11 [3, 3, 3, 3] (.tuple #[.agg #[.int .i64 (((onext S (ofI ((X.length : Int) + 1))).1).kind), .int .i64 (((onext S (ofI ((X.length : Int) + 1))).1).p), .int .i64 (((onext S (ofI ((X.length : Int) + 1))).1).q), .string (((onext S (ofI ((X.length : Int) + 1))).1).str), .int .i64 (((onext S (ofI ((X.length : Int) + 1))).1).ref)], .agg #[.int .i64 (((onext S (ofI ((X.length : Int) + 1))).2.1).kind), .int .i64 (((onext S (ofI ((X.length : Int) + 1))).2.1).p), .int .i64 (((onext S (ofI ((X.length : Int) + 1))).2.1).q), .string (((onext S (ofI ((X.length : Int) + 1))).2.1).str), .int .i64 (((onext S (ofI ((X.length : Int) + 1))).2.1).ref)], .bool ((onext S (ofI ((X.length : Int) + 1))).2.2.1), .int .i64 ((onext S (ofI ((X.length : Int) + 1))).2.2.2)]) ?_
      refine hp_ 12 [3, 3, 3, 3] (.agg #[.int .i64 (((onext S (ofI ((X.length : Int) + 1))).1).kind), .int .i64 (((onext S (ofI ((X.length : Int) + 1))).1).p), .int .i64 (((onext S (ofI ((X.length : Int) + 1))).1).q), .string (((onext S (ofI ((X.length : Int) + 1))).1).str), .int .i64 (((onext S (ofI ((X.length : Int) + 1))).1).ref)]) ?_
      refine hp_ 13 [3, 3, 3, 3] (.agg #[.int .i64 (((onext S (ofI ((X.length : Int) + 1))).2.1).kind), .int .i64 (((onext S (ofI ((X.length : Int) + 1))).2.1).p), .int .i64 (((onext S (ofI ((X.length : Int) + 1))).2.1).q), .string (((onext S (ofI ((X.length : Int) + 1))).2.1).str), .int .i64 (((onext S (ofI ((X.length : Int) + 1))).2.1).ref)]) ?_
      refine hp_ 14 [3, 3, 3, 3] (.bool ((onext S (ofI ((X.length : Int) + 1))).2.2.1)) ?_
      refine hp_ 15 [3, 3, 3, 3] (.int .i64 ((onext S (ofI ((X.length : Int) + 1))).2.2.2)) ?_
      refine h_stepS 18 ?_
      refine s_store 2 #[.int .i64 (((onext S (ofI ((X.length : Int) + 1))).1).kind), .int .i64 (((onext S (ofI ((X.length : Int) + 1))).1).p), .int .i64 (((onext S (ofI ((X.length : Int) + 1))).1).q), .string (((onext S (ofI ((X.length : Int) + 1))).1).str), .int .i64 (((onext S (ofI ((X.length : Int) + 1))).1).ref)] ?_
      refine s_nil (xs_held [3, 3, 3, 3] ?_)
      refine h_stepS 19 ?_
      refine s_store 1 #[.int .i64 (((onext S (ofI ((X.length : Int) + 1))).2.1).kind), .int .i64 (((onext S (ofI ((X.length : Int) + 1))).2.1).p), .int .i64 (((onext S (ofI ((X.length : Int) + 1))).2.1).q), .string (((onext S (ofI ((X.length : Int) + 1))).2.1).str), .int .i64 (((onext S (ofI ((X.length : Int) + 1))).2.1).ref)] ?_
      refine s_nil (xs_held [3, 3, 3, 3] ?_)
      refine hp_ 20 [3, 3, 3, 3] (.bool ((onext S (ofI ((X.length : Int) + 1))).2.2.1)) ?_
      refine hp_ 21 [3, 3, 3, 3] (.int .i64 ((onext S (ofI ((X.length : Int) + 1))).2.2.2)) ?_
      refine h_doneS ?_
      exact xcut () (fun _ h => h.re [3, 3, 3, 0, 2] [5, 5])
    ·
     refine s_alloc (.agg #[.int .i64 0, .int .i64 0, .int .i64 0, .string ByteArray.empty, .int .i64 0]) #[.int .i64 0, .int .i64 0, .int .i64 0, .string ByteArray.empty, .int .i64 0] (fun g19 => ?_)
     refine s_nil (xs_held [1, 1, 1, 2] ?_)
     refine h_stepS2 10 16 ?_ ?_
     ·
      refine s_call [4] (omnext_s (S := S) (by (try simp only [lnm]); omega) (ofI ((X.length : Int) + 1))) ?_
      rintro _ _ ⟨rfl, rfl⟩
      refine s_nil (xs_held [2, 2, 2, 2] ?_)
      refine hp_ 11 [2, 2, 2, 2] (.tuple #[.agg #[.int .i64 (((onext S (ofI ((X.length : Int) + 1))).1).kind), .int .i64 (((onext S (ofI ((X.length : Int) + 1))).1).p), .int .i64 (((onext S (ofI ((X.length : Int) + 1))).1).q), .string (((onext S (ofI ((X.length : Int) + 1))).1).str), .int .i64 (((onext S (ofI ((X.length : Int) + 1))).1).ref)], .agg #[.int .i64 (((onext S (ofI ((X.length : Int) + 1))).2.1).kind), .int .i64 (((onext S (ofI ((X.length : Int) + 1))).2.1).p), .int .i64 (((onext S (ofI ((X.length : Int) + 1))).2.1).q), .string (((onext S (ofI ((X.length : Int) + 1))).2.1).str), .int .i64 (((onext S (ofI ((X.length : Int) + 1))).2.1).ref)], .bool ((onext S (ofI ((X.length : Int) + 1))).2.2.1), .int .i64 ((onext S (ofI ((X.length : Int) + 1))).2.2.2)]) ?_
      refine hp_ 12 [2, 2, 2, 2] (.agg #[.int .i64 (((onext S (ofI ((X.length : Int) + 1))).1).kind), .int .i64 (((onext S (ofI ((X.length : Int) + 1))).1).p), .int .i64 (((onext S (ofI ((X.length : Int) + 1))).1).q), .string (((onext S (ofI ((X.length : Int) + 1))).1).str), .int .i64 (((onext S (ofI ((X.length : Int) + 1))).1).ref)]) ?_
      refine hp_ 13 [2, 2, 2, 2] (.agg #[.int .i64 (((onext S (ofI ((X.length : Int) + 1))).2.1).kind), .int .i64 (((onext S (ofI ((X.length : Int) + 1))).2.1).p), .int .i64 (((onext S (ofI ((X.length : Int) + 1))).2.1).q), .string (((onext S (ofI ((X.length : Int) + 1))).2.1).str), .int .i64 (((onext S (ofI ((X.length : Int) + 1))).2.1).ref)]) ?_
      refine hp_ 14 [2, 2, 2, 2] (.bool ((onext S (ofI ((X.length : Int) + 1))).2.2.1)) ?_
      refine hp_ 15 [2, 2, 2, 2] (.int .i64 ((onext S (ofI ((X.length : Int) + 1))).2.2.2)) ?_
      refine h_stepS 16 ?_
      refine s_alloc (.agg #[.int .i64 0, .int .i64 0, .int .i64 0, .string ByteArray.empty, .int .i64 0]) #[.int .i64 0, .int .i64 0, .int .i64 0, .string ByteArray.empty, .int .i64 0] (fun g20 => ?_)
      refine s_nil (xs_held [3, 3, 3, 3] ?_)
      refine h_stepS 18 ?_
      refine s_store 0 #[.int .i64 (((onext S (ofI ((X.length : Int) + 1))).1).kind), .int .i64 (((onext S (ofI ((X.length : Int) + 1))).1).p), .int .i64 (((onext S (ofI ((X.length : Int) + 1))).1).q), .string (((onext S (ofI ((X.length : Int) + 1))).1).str), .int .i64 (((onext S (ofI ((X.length : Int) + 1))).1).ref)] ?_
      refine s_nil (xs_held [3, 3, 3, 3] ?_)
      refine h_stepS 19 ?_
      refine s_store 2 #[.int .i64 (((onext S (ofI ((X.length : Int) + 1))).2.1).kind), .int .i64 (((onext S (ofI ((X.length : Int) + 1))).2.1).p), .int .i64 (((onext S (ofI ((X.length : Int) + 1))).2.1).q), .string (((onext S (ofI ((X.length : Int) + 1))).2.1).str), .int .i64 (((onext S (ofI ((X.length : Int) + 1))).2.1).ref)] ?_
      refine s_nil (xs_held [3, 3, 3, 3] ?_)
      refine hp_ 20 [3, 3, 3, 3] (.bool ((onext S (ofI ((X.length : Int) + 1))).2.2.1)) ?_
      refine hp_ 21 [3, 3, 3, 3] (.int .i64 ((onext S (ofI ((X.length : Int) + 1))).2.2.2)) ?_
      refine h_doneS ?_
      exact xcut () (fun _ h => h.re [3, 3, 3, 1, 2] [5, 5])
     ·
      refine s_alloc (.agg #[.int .i64 0, .int .i64 0, .int .i64 0, .string ByteArray.empty, .int .i64 0]) #[.int .i64 0, .int .i64 0, .int .i64 0, .string ByteArray.empty, .int .i64 0] (fun g21 => ?_)
      refine s_nil (xs_held [2, 2, 2, 3] ?_)
      refine h_stepS 10 ?_
      refine s_call [5] (omnext_s (S := S) (by (try simp only [lnm]); omega) (ofI ((X.length : Int) + 1))) ?_
      rintro _ _ ⟨rfl, rfl⟩
      refine s_nil (xs_held [3, 3, 3, 3] ?_)
      refine hp_ 11 [3, 3, 3, 3] (.tuple #[.agg #[.int .i64 (((onext S (ofI ((X.length : Int) + 1))).1).kind), .int .i64 (((onext S (ofI ((X.length : Int) + 1))).1).p), .int .i64 (((onext S (ofI ((X.length : Int) + 1))).1).q), .string (((onext S (ofI ((X.length : Int) + 1))).1).str), .int .i64 (((onext S (ofI ((X.length : Int) + 1))).1).ref)], .agg #[.int .i64 (((onext S (ofI ((X.length : Int) + 1))).2.1).kind), .int .i64 (((onext S (ofI ((X.length : Int) + 1))).2.1).p), .int .i64 (((onext S (ofI ((X.length : Int) + 1))).2.1).q), .string (((onext S (ofI ((X.length : Int) + 1))).2.1).str), .int .i64 (((onext S (ofI ((X.length : Int) + 1))).2.1).ref)], .bool ((onext S (ofI ((X.length : Int) + 1))).2.2.1), .int .i64 ((onext S (ofI ((X.length : Int) + 1))).2.2.2)]) ?_
      refine hp_ 12 [3, 3, 3, 3] (.agg #[.int .i64 (((onext S (ofI ((X.length : Int) + 1))).1).kind), .int .i64 (((onext S (ofI ((X.length : Int) + 1))).1).p), .int .i64 (((onext S (ofI ((X.length : Int) + 1))).1).q), .string (((onext S (ofI ((X.length : Int) + 1))).1).str), .int .i64 (((onext S (ofI ((X.length : Int) + 1))).1).ref)]) ?_
      refine hp_ 13 [3, 3, 3, 3] (.agg #[.int .i64 (((onext S (ofI ((X.length : Int) + 1))).2.1).kind), .int .i64 (((onext S (ofI ((X.length : Int) + 1))).2.1).p), .int .i64 (((onext S (ofI ((X.length : Int) + 1))).2.1).q), .string (((onext S (ofI ((X.length : Int) + 1))).2.1).str), .int .i64 (((onext S (ofI ((X.length : Int) + 1))).2.1).ref)]) ?_
      refine hp_ 14 [3, 3, 3, 3] (.bool ((onext S (ofI ((X.length : Int) + 1))).2.2.1)) ?_
      refine hp_ 15 [3, 3, 3, 3] (.int .i64 ((onext S (ofI ((X.length : Int) + 1))).2.2.2)) ?_
      refine h_stepS 18 ?_
      refine s_store 1 #[.int .i64 (((onext S (ofI ((X.length : Int) + 1))).1).kind), .int .i64 (((onext S (ofI ((X.length : Int) + 1))).1).p), .int .i64 (((onext S (ofI ((X.length : Int) + 1))).1).q), .string (((onext S (ofI ((X.length : Int) + 1))).1).str), .int .i64 (((onext S (ofI ((X.length : Int) + 1))).1).ref)] ?_
      refine s_nil (xs_held [3, 3, 3, 3] ?_)
      refine h_stepS 19 ?_
      refine s_store 2 #[.int .i64 (((onext S (ofI ((X.length : Int) + 1))).2.1).kind), .int .i64 (((onext S (ofI ((X.length : Int) + 1))).2.1).p), .int .i64 (((onext S (ofI ((X.length : Int) + 1))).2.1).q), .string (((onext S (ofI ((X.length : Int) + 1))).2.1).str), .int .i64 (((onext S (ofI ((X.length : Int) + 1))).2.1).ref)] ?_
      refine s_nil (xs_held [3, 3, 3, 3] ?_)
      refine hp_ 20 [3, 3, 3, 3] (.bool ((onext S (ofI ((X.length : Int) + 1))).2.2.1)) ?_
      refine hp_ 21 [3, 3, 3, 3] (.int .i64 ((onext S (ofI ((X.length : Int) + 1))).2.2.2)) ?_
      refine h_doneS ?_
      exact xcut () (fun _ h => h.re [3, 3, 3, 0, 2] [5, 5])
   ·
    refine s_alloc (.agg #[.int .i64 0, .int .i64 0, .int .i64 0, .string ByteArray.empty, .int .i64 0]) #[.int .i64 0, .int .i64 0, .int .i64 0, .string ByteArray.empty, .int .i64 0] (fun g22 => ?_)
    refine s_nil (xs_held [1, 1, 1, 2] ?_)
    refine h_stepS2 9 17 ?_ ?_
    ·
     refine s_vcall (fun _ h => ofint_s (L2.length : Int)) ?_
     rintro u24 e23
     obtain rfl : u24 = (ofI ((X.length : Int) + 1)).v := by rw [e23, show (L2.length : Int) = (X.length : Int) + 1 by omega]
     refine s_nil (xs_held [1, 1, 1, 2] ?_)
     refine h_stepS2 10 17 ?_ ?_
     ·
      refine s_call [4] (omnext_s (S := S) (by (try simp only [lnm]); omega) (ofI ((X.length : Int) + 1))) ?_
      rintro _ _ ⟨rfl, rfl⟩
      refine s_nil (xs_held [2, 2, 2, 2] ?_)
      refine hp_ 11 [2, 2, 2, 2] (.tuple #[.agg #[.int .i64 (((onext S (ofI ((X.length : Int) + 1))).1).kind), .int .i64 (((onext S (ofI ((X.length : Int) + 1))).1).p), .int .i64 (((onext S (ofI ((X.length : Int) + 1))).1).q), .string (((onext S (ofI ((X.length : Int) + 1))).1).str), .int .i64 (((onext S (ofI ((X.length : Int) + 1))).1).ref)], .agg #[.int .i64 (((onext S (ofI ((X.length : Int) + 1))).2.1).kind), .int .i64 (((onext S (ofI ((X.length : Int) + 1))).2.1).p), .int .i64 (((onext S (ofI ((X.length : Int) + 1))).2.1).q), .string (((onext S (ofI ((X.length : Int) + 1))).2.1).str), .int .i64 (((onext S (ofI ((X.length : Int) + 1))).2.1).ref)], .bool ((onext S (ofI ((X.length : Int) + 1))).2.2.1), .int .i64 ((onext S (ofI ((X.length : Int) + 1))).2.2.2)]) ?_
      refine hp_ 12 [2, 2, 2, 2] (.agg #[.int .i64 (((onext S (ofI ((X.length : Int) + 1))).1).kind), .int .i64 (((onext S (ofI ((X.length : Int) + 1))).1).p), .int .i64 (((onext S (ofI ((X.length : Int) + 1))).1).q), .string (((onext S (ofI ((X.length : Int) + 1))).1).str), .int .i64 (((onext S (ofI ((X.length : Int) + 1))).1).ref)]) ?_
      refine hp_ 13 [2, 2, 2, 2] (.agg #[.int .i64 (((onext S (ofI ((X.length : Int) + 1))).2.1).kind), .int .i64 (((onext S (ofI ((X.length : Int) + 1))).2.1).p), .int .i64 (((onext S (ofI ((X.length : Int) + 1))).2.1).q), .string (((onext S (ofI ((X.length : Int) + 1))).2.1).str), .int .i64 (((onext S (ofI ((X.length : Int) + 1))).2.1).ref)]) ?_
      refine hp_ 14 [2, 2, 2, 2] (.bool ((onext S (ofI ((X.length : Int) + 1))).2.2.1)) ?_
      refine hp_ 15 [2, 2, 2, 2] (.int .i64 ((onext S (ofI ((X.length : Int) + 1))).2.2.2)) ?_
      refine h_stepS 17 ?_
      refine s_alloc (.agg #[.int .i64 0, .int .i64 0, .int .i64 0, .string ByteArray.empty, .int .i64 0]) #[.int .i64 0, .int .i64 0, .int .i64 0, .string ByteArray.empty, .int .i64 0] (fun g25 => ?_)
      refine s_nil (xs_held [3, 3, 3, 3] ?_)
      refine h_stepS 18 ?_
      refine s_store 2 #[.int .i64 (((onext S (ofI ((X.length : Int) + 1))).1).kind), .int .i64 (((onext S (ofI ((X.length : Int) + 1))).1).p), .int .i64 (((onext S (ofI ((X.length : Int) + 1))).1).q), .string (((onext S (ofI ((X.length : Int) + 1))).1).str), .int .i64 (((onext S (ofI ((X.length : Int) + 1))).1).ref)] ?_
      refine s_nil (xs_held [3, 3, 3, 3] ?_)
      refine h_stepS 19 ?_
      refine s_store 0 #[.int .i64 (((onext S (ofI ((X.length : Int) + 1))).2.1).kind), .int .i64 (((onext S (ofI ((X.length : Int) + 1))).2.1).p), .int .i64 (((onext S (ofI ((X.length : Int) + 1))).2.1).q), .string (((onext S (ofI ((X.length : Int) + 1))).2.1).str), .int .i64 (((onext S (ofI ((X.length : Int) + 1))).2.1).ref)] ?_
      refine s_nil (xs_held [3, 3, 3, 3] ?_)
      refine hp_ 20 [3, 3, 3, 3] (.bool ((onext S (ofI ((X.length : Int) + 1))).2.2.1)) ?_
      refine hp_ 21 [3, 3, 3, 3] (.int .i64 ((onext S (ofI ((X.length : Int) + 1))).2.2.2)) ?_
      refine h_doneS ?_
      exact xcut () (fun _ h => h.re [3, 3, 3, 1, 2] [5, 5])
     ·
      refine s_alloc (.agg #[.int .i64 0, .int .i64 0, .int .i64 0, .string ByteArray.empty, .int .i64 0]) #[.int .i64 0, .int .i64 0, .int .i64 0, .string ByteArray.empty, .int .i64 0] (fun g26 => ?_)
      refine s_nil (xs_held [2, 2, 2, 3] ?_)
      refine h_stepS 10 ?_
      refine s_call [5] (omnext_s (S := S) (by (try simp only [lnm]); omega) (ofI ((X.length : Int) + 1))) ?_
      rintro _ _ ⟨rfl, rfl⟩
      refine s_nil (xs_held [3, 3, 3, 3] ?_)
      refine hp_ 11 [3, 3, 3, 3] (.tuple #[.agg #[.int .i64 (((onext S (ofI ((X.length : Int) + 1))).1).kind), .int .i64 (((onext S (ofI ((X.length : Int) + 1))).1).p), .int .i64 (((onext S (ofI ((X.length : Int) + 1))).1).q), .string (((onext S (ofI ((X.length : Int) + 1))).1).str), .int .i64 (((onext S (ofI ((X.length : Int) + 1))).1).ref)], .agg #[.int .i64 (((onext S (ofI ((X.length : Int) + 1))).2.1).kind), .int .i64 (((onext S (ofI ((X.length : Int) + 1))).2.1).p), .int .i64 (((onext S (ofI ((X.length : Int) + 1))).2.1).q), .string (((onext S (ofI ((X.length : Int) + 1))).2.1).str), .int .i64 (((onext S (ofI ((X.length : Int) + 1))).2.1).ref)], .bool ((onext S (ofI ((X.length : Int) + 1))).2.2.1), .int .i64 ((onext S (ofI ((X.length : Int) + 1))).2.2.2)]) ?_
      refine hp_ 12 [3, 3, 3, 3] (.agg #[.int .i64 (((onext S (ofI ((X.length : Int) + 1))).1).kind), .int .i64 (((onext S (ofI ((X.length : Int) + 1))).1).p), .int .i64 (((onext S (ofI ((X.length : Int) + 1))).1).q), .string (((onext S (ofI ((X.length : Int) + 1))).1).str), .int .i64 (((onext S (ofI ((X.length : Int) + 1))).1).ref)]) ?_
      refine hp_ 13 [3, 3, 3, 3] (.agg #[.int .i64 (((onext S (ofI ((X.length : Int) + 1))).2.1).kind), .int .i64 (((onext S (ofI ((X.length : Int) + 1))).2.1).p), .int .i64 (((onext S (ofI ((X.length : Int) + 1))).2.1).q), .string (((onext S (ofI ((X.length : Int) + 1))).2.1).str), .int .i64 (((onext S (ofI ((X.length : Int) + 1))).2.1).ref)]) ?_
      refine hp_ 14 [3, 3, 3, 3] (.bool ((onext S (ofI ((X.length : Int) + 1))).2.2.1)) ?_
      refine hp_ 15 [3, 3, 3, 3] (.int .i64 ((onext S (ofI ((X.length : Int) + 1))).2.2.2)) ?_
      refine h_stepS 18 ?_
      refine s_store 2 #[.int .i64 (((onext S (ofI ((X.length : Int) + 1))).1).kind), .int .i64 (((onext S (ofI ((X.length : Int) + 1))).1).p), .int .i64 (((onext S (ofI ((X.length : Int) + 1))).1).q), .string (((onext S (ofI ((X.length : Int) + 1))).1).str), .int .i64 (((onext S (ofI ((X.length : Int) + 1))).1).ref)] ?_
      refine s_nil (xs_held [3, 3, 3, 3] ?_)
      refine h_stepS 19 ?_
      refine s_store 1 #[.int .i64 (((onext S (ofI ((X.length : Int) + 1))).2.1).kind), .int .i64 (((onext S (ofI ((X.length : Int) + 1))).2.1).p), .int .i64 (((onext S (ofI ((X.length : Int) + 1))).2.1).q), .string (((onext S (ofI ((X.length : Int) + 1))).2.1).str), .int .i64 (((onext S (ofI ((X.length : Int) + 1))).2.1).ref)] ?_
      refine s_nil (xs_held [3, 3, 3, 3] ?_)
      refine hp_ 20 [3, 3, 3, 3] (.bool ((onext S (ofI ((X.length : Int) + 1))).2.2.1)) ?_
      refine hp_ 21 [3, 3, 3, 3] (.int .i64 ((onext S (ofI ((X.length : Int) + 1))).2.2.2)) ?_
      refine h_doneS ?_
      exact xcut () (fun _ h => h.re [3, 3, 3, 0, 2] [5, 5])
    ·
     refine s_alloc (.agg #[.int .i64 0, .int .i64 0, .int .i64 0, .string ByteArray.empty, .int .i64 0]) #[.int .i64 0, .int .i64 0, .int .i64 0, .string ByteArray.empty, .int .i64 0] (fun g27 => ?_)
     refine s_nil (xs_held [2, 2, 2, 3] ?_)
     refine h_stepS 9 ?_
     refine s_vcall (fun _ h => ofint_s (L2.length : Int)) ?_
     rintro u29 e28
     obtain rfl : u29 = (ofI ((X.length : Int) + 1)).v := by rw [e28, show (L2.length : Int) = (X.length : Int) + 1 by omega]
     refine s_nil (xs_held [2, 2, 2, 3] ?_)
     refine h_stepS 10 ?_
     refine s_call [5] (omnext_s (S := S) (by (try simp only [lnm]); omega) (ofI ((X.length : Int) + 1))) ?_
     rintro _ _ ⟨rfl, rfl⟩
     refine s_nil (xs_held [3, 3, 3, 3] ?_)
     refine hp_ 11 [3, 3, 3, 3] (.tuple #[.agg #[.int .i64 (((onext S (ofI ((X.length : Int) + 1))).1).kind), .int .i64 (((onext S (ofI ((X.length : Int) + 1))).1).p), .int .i64 (((onext S (ofI ((X.length : Int) + 1))).1).q), .string (((onext S (ofI ((X.length : Int) + 1))).1).str), .int .i64 (((onext S (ofI ((X.length : Int) + 1))).1).ref)], .agg #[.int .i64 (((onext S (ofI ((X.length : Int) + 1))).2.1).kind), .int .i64 (((onext S (ofI ((X.length : Int) + 1))).2.1).p), .int .i64 (((onext S (ofI ((X.length : Int) + 1))).2.1).q), .string (((onext S (ofI ((X.length : Int) + 1))).2.1).str), .int .i64 (((onext S (ofI ((X.length : Int) + 1))).2.1).ref)], .bool ((onext S (ofI ((X.length : Int) + 1))).2.2.1), .int .i64 ((onext S (ofI ((X.length : Int) + 1))).2.2.2)]) ?_
     refine hp_ 12 [3, 3, 3, 3] (.agg #[.int .i64 (((onext S (ofI ((X.length : Int) + 1))).1).kind), .int .i64 (((onext S (ofI ((X.length : Int) + 1))).1).p), .int .i64 (((onext S (ofI ((X.length : Int) + 1))).1).q), .string (((onext S (ofI ((X.length : Int) + 1))).1).str), .int .i64 (((onext S (ofI ((X.length : Int) + 1))).1).ref)]) ?_
     refine hp_ 13 [3, 3, 3, 3] (.agg #[.int .i64 (((onext S (ofI ((X.length : Int) + 1))).2.1).kind), .int .i64 (((onext S (ofI ((X.length : Int) + 1))).2.1).p), .int .i64 (((onext S (ofI ((X.length : Int) + 1))).2.1).q), .string (((onext S (ofI ((X.length : Int) + 1))).2.1).str), .int .i64 (((onext S (ofI ((X.length : Int) + 1))).2.1).ref)]) ?_
     refine hp_ 14 [3, 3, 3, 3] (.bool ((onext S (ofI ((X.length : Int) + 1))).2.2.1)) ?_
     refine hp_ 15 [3, 3, 3, 3] (.int .i64 ((onext S (ofI ((X.length : Int) + 1))).2.2.2)) ?_
     refine h_stepS 18 ?_
     refine s_store 2 #[.int .i64 (((onext S (ofI ((X.length : Int) + 1))).1).kind), .int .i64 (((onext S (ofI ((X.length : Int) + 1))).1).p), .int .i64 (((onext S (ofI ((X.length : Int) + 1))).1).q), .string (((onext S (ofI ((X.length : Int) + 1))).1).str), .int .i64 (((onext S (ofI ((X.length : Int) + 1))).1).ref)] ?_
     refine s_nil (xs_held [3, 3, 3, 3] ?_)
     refine h_stepS 19 ?_
     refine s_store 1 #[.int .i64 (((onext S (ofI ((X.length : Int) + 1))).2.1).kind), .int .i64 (((onext S (ofI ((X.length : Int) + 1))).2.1).p), .int .i64 (((onext S (ofI ((X.length : Int) + 1))).2.1).q), .string (((onext S (ofI ((X.length : Int) + 1))).2.1).str), .int .i64 (((onext S (ofI ((X.length : Int) + 1))).2.1).ref)] ?_
     refine s_nil (xs_held [3, 3, 3, 3] ?_)
     refine hp_ 20 [3, 3, 3, 3] (.bool ((onext S (ofI ((X.length : Int) + 1))).2.2.1)) ?_
     refine hp_ 21 [3, 3, 3, 3] (.int .i64 ((onext S (ofI ((X.length : Int) + 1))).2.2.2)) ?_
     refine h_doneS ?_
     exact xcut () (fun _ h => h.re [3, 3, 3, 0, 2] [5, 5])
   ·
    refine s_alloc (.agg #[.int .i64 0, .int .i64 0, .int .i64 0, .string ByteArray.empty, .int .i64 0]) #[.int .i64 0, .int .i64 0, .int .i64 0, .string ByteArray.empty, .int .i64 0] (fun g30 => ?_)
    refine s_nil (xs_held [1, 1, 1, 2] ?_)
    refine h_stepS2 9 16 ?_ ?_
    ·
     refine s_vcall (fun _ h => ofint_s (L2.length : Int)) ?_
     rintro u32 e31
     obtain rfl : u32 = (ofI ((X.length : Int) + 1)).v := by rw [e31, show (L2.length : Int) = (X.length : Int) + 1 by omega]
     refine s_nil (xs_held [1, 1, 1, 2] ?_)
     refine h_stepS2 10 16 ?_ ?_
     ·
      refine s_call [4] (omnext_s (S := S) (by (try simp only [lnm]); omega) (ofI ((X.length : Int) + 1))) ?_
      rintro _ _ ⟨rfl, rfl⟩
      refine s_nil (xs_held [2, 2, 2, 2] ?_)
      refine hp_ 11 [2, 2, 2, 2] (.tuple #[.agg #[.int .i64 (((onext S (ofI ((X.length : Int) + 1))).1).kind), .int .i64 (((onext S (ofI ((X.length : Int) + 1))).1).p), .int .i64 (((onext S (ofI ((X.length : Int) + 1))).1).q), .string (((onext S (ofI ((X.length : Int) + 1))).1).str), .int .i64 (((onext S (ofI ((X.length : Int) + 1))).1).ref)], .agg #[.int .i64 (((onext S (ofI ((X.length : Int) + 1))).2.1).kind), .int .i64 (((onext S (ofI ((X.length : Int) + 1))).2.1).p), .int .i64 (((onext S (ofI ((X.length : Int) + 1))).2.1).q), .string (((onext S (ofI ((X.length : Int) + 1))).2.1).str), .int .i64 (((onext S (ofI ((X.length : Int) + 1))).2.1).ref)], .bool ((onext S (ofI ((X.length : Int) + 1))).2.2.1), .int .i64 ((onext S (ofI ((X.length : Int) + 1))).2.2.2)]) ?_
      refine hp_ 12 [2, 2, 2, 2] (.agg #[.int .i64 (((onext S (ofI ((X.length : Int) + 1))).1).kind), .int .i64 (((onext S (ofI ((X.length : Int) + 1))).1).p), .int .i64 (((onext S (ofI ((X.length : Int) + 1))).1).q), .string (((onext S (ofI ((X.length : Int) + 1))).1).str), .int .i64 (((onext S (ofI ((X.length : Int) + 1))).1).ref)]) ?_
      refine hp_ 13 [2, 2, 2, 2] (.agg #[.int .i64 (((onext S (ofI ((X.length : Int) + 1))).2.1).kind), .int .i64 (((onext S (ofI ((X.length : Int) + 1))).2.1).p), .int .i64 (((onext S (ofI ((X.length : Int) + 1))).2.1).q), .string (((onext S (ofI ((X.length : Int) + 1))).2.1).str), .int .i64 (((onext S (ofI ((X.length : Int) + 1))).2.1).ref)]) ?_
      refine hp_ 14 [2, 2, 2, 2] (.bool ((onext S (ofI ((X.length : Int) + 1))).2.2.1)) ?_
      refine hp_ 15 [2, 2, 2, 2] (.int .i64 ((onext S (ofI ((X.length : Int) + 1))).2.2.2)) ?_
      refine h_stepS 16 ?_
      refine s_alloc (.agg #[.int .i64 0, .int .i64 0, .int .i64 0, .string ByteArray.empty, .int .i64 0]) #[.int .i64 0, .int .i64 0, .int .i64 0, .string ByteArray.empty, .int .i64 0] (fun g33 => ?_)
      refine s_nil (xs_held [3, 3, 3, 3] ?_)
      refine h_stepS 18 ?_
      refine s_store 0 #[.int .i64 (((onext S (ofI ((X.length : Int) + 1))).1).kind), .int .i64 (((onext S (ofI ((X.length : Int) + 1))).1).p), .int .i64 (((onext S (ofI ((X.length : Int) + 1))).1).q), .string (((onext S (ofI ((X.length : Int) + 1))).1).str), .int .i64 (((onext S (ofI ((X.length : Int) + 1))).1).ref)] ?_
      refine s_nil (xs_held [3, 3, 3, 3] ?_)
      refine h_stepS 19 ?_
      refine s_store 2 #[.int .i64 (((onext S (ofI ((X.length : Int) + 1))).2.1).kind), .int .i64 (((onext S (ofI ((X.length : Int) + 1))).2.1).p), .int .i64 (((onext S (ofI ((X.length : Int) + 1))).2.1).q), .string (((onext S (ofI ((X.length : Int) + 1))).2.1).str), .int .i64 (((onext S (ofI ((X.length : Int) + 1))).2.1).ref)] ?_
      refine s_nil (xs_held [3, 3, 3, 3] ?_)
      refine hp_ 20 [3, 3, 3, 3] (.bool ((onext S (ofI ((X.length : Int) + 1))).2.2.1)) ?_
      refine hp_ 21 [3, 3, 3, 3] (.int .i64 ((onext S (ofI ((X.length : Int) + 1))).2.2.2)) ?_
      refine h_doneS ?_
      exact xcut () (fun _ h => h.re [3, 3, 3, 1, 2] [5, 5])
     ·
      refine s_alloc (.agg #[.int .i64 0, .int .i64 0, .int .i64 0, .string ByteArray.empty, .int .i64 0]) #[.int .i64 0, .int .i64 0, .int .i64 0, .string ByteArray.empty, .int .i64 0] (fun g34 => ?_)
      refine s_nil (xs_held [2, 2, 2, 3] ?_)
      refine h_stepS 10 ?_
      refine s_call [5] (omnext_s (S := S) (by (try simp only [lnm]); omega) (ofI ((X.length : Int) + 1))) ?_
      rintro _ _ ⟨rfl, rfl⟩
      refine s_nil (xs_held [3, 3, 3, 3] ?_)
      refine hp_ 11 [3, 3, 3, 3] (.tuple #[.agg #[.int .i64 (((onext S (ofI ((X.length : Int) + 1))).1).kind), .int .i64 (((onext S (ofI ((X.length : Int) + 1))).1).p), .int .i64 (((onext S (ofI ((X.length : Int) + 1))).1).q), .string (((onext S (ofI ((X.length : Int) + 1))).1).str), .int .i64 (((onext S (ofI ((X.length : Int) + 1))).1).ref)], .agg #[.int .i64 (((onext S (ofI ((X.length : Int) + 1))).2.1).kind), .int .i64 (((onext S (ofI ((X.length : Int) + 1))).2.1).p), .int .i64 (((onext S (ofI ((X.length : Int) + 1))).2.1).q), .string (((onext S (ofI ((X.length : Int) + 1))).2.1).str), .int .i64 (((onext S (ofI ((X.length : Int) + 1))).2.1).ref)], .bool ((onext S (ofI ((X.length : Int) + 1))).2.2.1), .int .i64 ((onext S (ofI ((X.length : Int) + 1))).2.2.2)]) ?_
      refine hp_ 12 [3, 3, 3, 3] (.agg #[.int .i64 (((onext S (ofI ((X.length : Int) + 1))).1).kind), .int .i64 (((onext S (ofI ((X.length : Int) + 1))).1).p), .int .i64 (((onext S (ofI ((X.length : Int) + 1))).1).q), .string (((onext S (ofI ((X.length : Int) + 1))).1).str), .int .i64 (((onext S (ofI ((X.length : Int) + 1))).1).ref)]) ?_
      refine hp_ 13 [3, 3, 3, 3] (.agg #[.int .i64 (((onext S (ofI ((X.length : Int) + 1))).2.1).kind), .int .i64 (((onext S (ofI ((X.length : Int) + 1))).2.1).p), .int .i64 (((onext S (ofI ((X.length : Int) + 1))).2.1).q), .string (((onext S (ofI ((X.length : Int) + 1))).2.1).str), .int .i64 (((onext S (ofI ((X.length : Int) + 1))).2.1).ref)]) ?_
      refine hp_ 14 [3, 3, 3, 3] (.bool ((onext S (ofI ((X.length : Int) + 1))).2.2.1)) ?_
      refine hp_ 15 [3, 3, 3, 3] (.int .i64 ((onext S (ofI ((X.length : Int) + 1))).2.2.2)) ?_
      refine h_stepS 18 ?_
      refine s_store 1 #[.int .i64 (((onext S (ofI ((X.length : Int) + 1))).1).kind), .int .i64 (((onext S (ofI ((X.length : Int) + 1))).1).p), .int .i64 (((onext S (ofI ((X.length : Int) + 1))).1).q), .string (((onext S (ofI ((X.length : Int) + 1))).1).str), .int .i64 (((onext S (ofI ((X.length : Int) + 1))).1).ref)] ?_
      refine s_nil (xs_held [3, 3, 3, 3] ?_)
      refine h_stepS 19 ?_
      refine s_store 2 #[.int .i64 (((onext S (ofI ((X.length : Int) + 1))).2.1).kind), .int .i64 (((onext S (ofI ((X.length : Int) + 1))).2.1).p), .int .i64 (((onext S (ofI ((X.length : Int) + 1))).2.1).q), .string (((onext S (ofI ((X.length : Int) + 1))).2.1).str), .int .i64 (((onext S (ofI ((X.length : Int) + 1))).2.1).ref)] ?_
      refine s_nil (xs_held [3, 3, 3, 3] ?_)
      refine hp_ 20 [3, 3, 3, 3] (.bool ((onext S (ofI ((X.length : Int) + 1))).2.2.1)) ?_
      refine hp_ 21 [3, 3, 3, 3] (.int .i64 ((onext S (ofI ((X.length : Int) + 1))).2.2.2)) ?_
      refine h_doneS ?_
      exact xcut () (fun _ h => h.re [3, 3, 3, 0, 2] [5, 5])
    ·
     refine s_alloc (.agg #[.int .i64 0, .int .i64 0, .int .i64 0, .string ByteArray.empty, .int .i64 0]) #[.int .i64 0, .int .i64 0, .int .i64 0, .string ByteArray.empty, .int .i64 0] (fun g35 => ?_)
     refine s_nil (xs_held [2, 2, 2, 3] ?_)
     refine h_stepS 9 ?_
     refine s_vcall (fun _ h => ofint_s (L2.length : Int)) ?_
     rintro u37 e36
     obtain rfl : u37 = (ofI ((X.length : Int) + 1)).v := by rw [e36, show (L2.length : Int) = (X.length : Int) + 1 by omega]
     refine s_nil (xs_held [2, 2, 2, 3] ?_)
     refine h_stepS 10 ?_
     refine s_call [5] (omnext_s (S := S) (by (try simp only [lnm]); omega) (ofI ((X.length : Int) + 1))) ?_
     rintro _ _ ⟨rfl, rfl⟩
     refine s_nil (xs_held [3, 3, 3, 3] ?_)
     refine hp_ 11 [3, 3, 3, 3] (.tuple #[.agg #[.int .i64 (((onext S (ofI ((X.length : Int) + 1))).1).kind), .int .i64 (((onext S (ofI ((X.length : Int) + 1))).1).p), .int .i64 (((onext S (ofI ((X.length : Int) + 1))).1).q), .string (((onext S (ofI ((X.length : Int) + 1))).1).str), .int .i64 (((onext S (ofI ((X.length : Int) + 1))).1).ref)], .agg #[.int .i64 (((onext S (ofI ((X.length : Int) + 1))).2.1).kind), .int .i64 (((onext S (ofI ((X.length : Int) + 1))).2.1).p), .int .i64 (((onext S (ofI ((X.length : Int) + 1))).2.1).q), .string (((onext S (ofI ((X.length : Int) + 1))).2.1).str), .int .i64 (((onext S (ofI ((X.length : Int) + 1))).2.1).ref)], .bool ((onext S (ofI ((X.length : Int) + 1))).2.2.1), .int .i64 ((onext S (ofI ((X.length : Int) + 1))).2.2.2)]) ?_
     refine hp_ 12 [3, 3, 3, 3] (.agg #[.int .i64 (((onext S (ofI ((X.length : Int) + 1))).1).kind), .int .i64 (((onext S (ofI ((X.length : Int) + 1))).1).p), .int .i64 (((onext S (ofI ((X.length : Int) + 1))).1).q), .string (((onext S (ofI ((X.length : Int) + 1))).1).str), .int .i64 (((onext S (ofI ((X.length : Int) + 1))).1).ref)]) ?_
     refine hp_ 13 [3, 3, 3, 3] (.agg #[.int .i64 (((onext S (ofI ((X.length : Int) + 1))).2.1).kind), .int .i64 (((onext S (ofI ((X.length : Int) + 1))).2.1).p), .int .i64 (((onext S (ofI ((X.length : Int) + 1))).2.1).q), .string (((onext S (ofI ((X.length : Int) + 1))).2.1).str), .int .i64 (((onext S (ofI ((X.length : Int) + 1))).2.1).ref)]) ?_
     refine hp_ 14 [3, 3, 3, 3] (.bool ((onext S (ofI ((X.length : Int) + 1))).2.2.1)) ?_
     refine hp_ 15 [3, 3, 3, 3] (.int .i64 ((onext S (ofI ((X.length : Int) + 1))).2.2.2)) ?_
     refine h_stepS 18 ?_
     refine s_store 1 #[.int .i64 (((onext S (ofI ((X.length : Int) + 1))).1).kind), .int .i64 (((onext S (ofI ((X.length : Int) + 1))).1).p), .int .i64 (((onext S (ofI ((X.length : Int) + 1))).1).q), .string (((onext S (ofI ((X.length : Int) + 1))).1).str), .int .i64 (((onext S (ofI ((X.length : Int) + 1))).1).ref)] ?_
     refine s_nil (xs_held [3, 3, 3, 3] ?_)
     refine h_stepS 19 ?_
     refine s_store 2 #[.int .i64 (((onext S (ofI ((X.length : Int) + 1))).2.1).kind), .int .i64 (((onext S (ofI ((X.length : Int) + 1))).2.1).p), .int .i64 (((onext S (ofI ((X.length : Int) + 1))).2.1).q), .string (((onext S (ofI ((X.length : Int) + 1))).2.1).str), .int .i64 (((onext S (ofI ((X.length : Int) + 1))).2.1).ref)] ?_
     refine s_nil (xs_held [3, 3, 3, 3] ?_)
     refine hp_ 20 [3, 3, 3, 3] (.bool ((onext S (ofI ((X.length : Int) + 1))).2.2.1)) ?_
     refine hp_ 21 [3, 3, 3, 3] (.int .i64 ((onext S (ofI ((X.length : Int) + 1))).2.2.2)) ?_
     refine h_doneS ?_
     exact xcut () (fun _ h => h.re [3, 3, 3, 0, 2] [5, 5])
  ·
   refine k_cut (ι := Unit) (fun _ => True) (fun _ => [(0, pB b 0), (3, pB g1 0), (4, .bool ((staleB S L.length X.length) || (decide ((onext S (ofI ((X.length : Int) + 1))).2.2.2 = 0))))]) (fun _ => blkA g7 #[.int .i64 x.kind, .int .i64 x.p, .int .i64 x.q, .string x.str, .int .i64 x.ref] 26 :: blkA b #[v8, pB r3 0] 119 :: own VlT v8 L2 :: omA r3 S :: blkA g1 #[.int .i64 x.kind, .int .i64 x.p, .int .i64 x.q, .string x.str, .int .i64 x.ref] 26 :: F) ?_ (fun _ _ => ?_)
   ·
    refine k_reg ?_
    refine sp (.bool (staleB S L.length X.length)) ?_
    refine sp (.bool (staleB S L.length X.length)) ?_
    refine s_fork 44 (staleB S L.length X.length) (fun c38 => ?_) (fun c38 => ?_)
    ·
     refine s_skip ?_
     refine s_skip ?_
     refine sp (.bool true) ?_
     refine sp (.bool true) ?_
     refine s_nil ?_
     exact xs_cut () trivial (sub_of rfl ⟨⟨rfl, rfl⟩, ⟨⟨rfl, rfl⟩, ⟨⟨rfl, show Value.bool true = Value.bool ((staleB S L.length X.length) || (decide ((onext S (ofI ((X.length : Int) + 1))).2.2.2 = 0))) by first | (simp only [c38, bls]; done) | simp [c38]⟩, trivial⟩⟩⟩) (fun _ h => h.re [0, 0, 0, 0, 0] [])
    ·
     refine sp (.int .i64 ((onext S (ofI ((X.length : Int) + 1))).2.2.2)) ?_
     refine s_lt t_cmp ?_
     refine sp (.bool (decide ((onext S (ofI ((X.length : Int) + 1))).2.2.2 = 0))) ?_
     refine sp (.bool (decide ((onext S (ofI ((X.length : Int) + 1))).2.2.2 = 0))) ?_
     refine s_nil ?_
     exact xs_cut () trivial (sub_of rfl ⟨⟨rfl, rfl⟩, ⟨⟨rfl, rfl⟩, ⟨⟨rfl, show Value.bool (decide ((onext S (ofI ((X.length : Int) + 1))).2.2.2 = 0)) = Value.bool ((staleB S L.length X.length) || (decide ((onext S (ofI ((X.length : Int) + 1))).2.2.2 = 0))) by first | (simp only [c38, bls]; done) | simp [c38]⟩, trivial⟩⟩⟩) (fun _ h => h.re [0, 0, 0, 0, 0] [])
   ·
    refine k_held [blkA g7 #[.int .i64 x.kind, .int .i64 x.p, .int .i64 x.q, .string x.str, .int .i64 x.ref] 26, blkA b #[v8, pB r3 0] 119, own VlT v8 L2] ?_
    refine hp_ 0 [0, 0, 0] (pB b 0) ?_
    refine hp_ 1 [0, 0, 0] (pB b 0) ?_
    refine hp_ 2 [0, 0, 0] (pB b 1) ?_
    refine h_l 3 rfl [0, 0, 0] (fun _ => (t_load 1 (pB r3 0))) ?_
    refine hp_ 4 [0, 0, 0] (pB b 0) ?_
    refine hp_ 5 [0, 0, 0] (pB b 0) ?_
    refine hp_ 6 [0, 0, 0] (pB b 0) ?_
    refine h_l 7 rfl [0, 0, 0] (fun _ => (t_load 1 v8)) ?_
    refine h_l 8 rfl [0, 0, 0] (fun _ => (t_len VlT_ok Tryz.underlying33 (.own 2))) ?_
    refine h_l 9 rfl [0, 0, 0] (fun _ => (Lt.to (v' := .int .i64 ((X.length : Int) + 2)) (t_add (L2.length : Int) 1 (by omega)) (congrArg (Value.int .i64) (by omega)))) ?_
    refine h_stepS 10 ?_
    refine s_vcall (fun _ h => ofint_s ((X.length : Int) + 2)) ?_
    rintro _ rfl
    refine s_nil (xs_held [0, 0, 0] ?_)
    refine h_stepS 11 ?_
    refine s_call [3] (omget_s (S := S) (ofI ((X.length : Int) + 2))) ?_
    rintro _ _ ⟨rfl, rfl⟩
    refine s_nil (xs_held [1, 1, 1] ?_)
    refine h_stepS 12 ?_
    refine s_store 4 #[.int .i64 ((oget S (ofI ((X.length : Int) + 2))).kind), .int .i64 ((oget S (ofI ((X.length : Int) + 2))).p), .int .i64 ((oget S (ofI ((X.length : Int) + 2))).q), .string ((oget S (ofI ((X.length : Int) + 2))).str), .int .i64 ((oget S (ofI ((X.length : Int) + 2))).ref)] ?_
    refine s_nil (xs_held [1, 1, 1] ?_)
    refine h_doneS ?_
    refine xs_block ?_
    have hst : ((staleB S L.length X.length) || (decide ((onext S (ofI ((X.length : Int) + 1))).2.2.2 = 0))) = staleB S L.length L2.length := by rw [ll2, ← stale_step S hi4.2.2.1]
    rw [hst]
    exact xs_round (v8, L2, (oget S (ofI ((X.length : Int) + 2))), f - 1) (by show mu S _ _ < mu S _ _; rw [ll2]; exact mu_lt hinv0 hx0) (by show grow S (S.length + 2) L v = _ ∧ _; exact ⟨by rw [hg2, hL2], by rw [ll2]; have := mu_lt hinv0 (n := X.length) hx0; omega, by omega, by rw [ll2]; have := mu_lt hinv0 (n := X.length) hx0; omega⟩) (sub_of rfl ⟨⟨rfl, rfl⟩, ⟨⟨rfl, rfl⟩, ⟨⟨rfl, rfl⟩, trivial⟩⟩⟩) (fun _ h => h.re [2, 2, 0, 1] [4])
 ·
  have p39 := Decidable.not_not.1 (of_decide_eq_false c5)
  have hx0 : x.kind = 0 := Decidable.not_not.1 (of_decide_eq_false c5)
  have hgr : grow S (S.length + 2) L v = X := by rw [hi4.1]; exact grow_stop S X hx0
  refine k_exit ?_
  refine xs_exit ?_
  refine xs_exit ?_
  refine xs_here ?_
  refine xs_then ?_
  refine k_seq ?_
  refine k_sr ?_
  refine sp (.bool (staleB S L.length X.length)) ?_
  refine sp (.bool (!(staleB S L.length X.length))) ?_
  refine s_nt ?_
  refine k_cond (!(staleB S L.length X.length)) (fun c40 => ?_) (fun c40 => ?_)
  ·
   have c41 := not_t c40
   refine k_ret ?_
   refine xs_ret ?_
   refine xs_mem (fun _ h => tb_shut (h.re [0, 0, 0] [])) ?_
   have hT : tadd ⟨L, S⟩ v = ⟨X, S⟩ := by rw [tadd_eq hgr, if_neg (by rw [c41]; decide)]
   refine xs_fin [] (tbA b X S :: F) SI.nil (fun _ h => h.re [0] [1]) ⟨rfl, ?_⟩
   rw [hT]
  ·
   have c42 := not_f c40
   refine k_st ?_
   refine k_sr ?_
   refine s_pcall (fun _ h => omnew_s) ?_
   rintro _ _ ⟨r43, rfl, rfl⟩
   refine sp (pB r43 0) ?_
   refine s_nt ?_
   refine k_seq ?_
   refine k_sr ?_
   refine sp (pB b 0) ?_
   refine sp (pB b 0) ?_
   refine sp (pB b 1) ?_
   refine s_lt (t_load 1 (pB r3 0)) ?_
   refine s_call [3] (omkeys_s (S := S) (by (try simp only [lnm]); omega)) ?_
   rintro v44 _ rfl
   refine s_fact (fun H h => ((Acc.own (T := VlT) (L := (okeys S)) 0 rfl) H h).form) (fun hf45 => ?_)
   refine s_lt (t_len VlT_ok Tryz.underlying33 (.own 0)) ?_
   refine sp (.int .i64 0) ?_
   refine s_nt ?_
   refine k_block ?_
   refine k_loop (ι := Nat) (fun i => i ≤ (okeys S).length) (fun i => [(0, pB b 0), (9, pB r43 0), (67, v44), (68, .int .i64 ((okeys S).length : Int)), (69, .int .i64 (i : Int))]) (fun i => own VlT v44 (okeys S) :: omA r3 S :: omA r43 (purgeS S X.length i) :: blkA b #[lx, pB r3 0] 119 :: own VlT lx X :: blkA g1 #[.int .i64 x.kind, .int .i64 x.p, .int .i64 x.q, .string x.str, .int .i64 x.ref] 26 :: F) (fun i => (okeys S).length - i) 0 (Nat.zero_le _) (sub_of rfl ⟨⟨rfl, rfl⟩, ⟨⟨rfl, rfl⟩, ⟨⟨rfl, rfl⟩, ⟨⟨rfl, rfl⟩, ⟨⟨rfl, rfl⟩, trivial⟩⟩⟩⟩⟩) (fun _ h => h.re [0, 0, 0, 0, 0, 0] []) ?_
   rintro i hi46
   show SK _ _ _ _ _ [(0, .pointer (some ⟨b, 0, none⟩)), (9, .pointer (some ⟨r43, 0, none⟩)), (67, v44), (68, .int .i64 ((okeys S).length : Int)), (69, .int .i64 (i : Int))] _ (own VlT v44 (okeys S) :: omA r3 S :: omA r43 (purgeS S X.length i) :: blkA b #[lx, .pointer (some ⟨r3, 0, none⟩)] 119 :: own VlT lx X :: blkA g1 #[.int .i64 x.kind, .int .i64 x.p, .int .i64 x.q, .string x.str, .int .i64 x.ref] 26 :: F)
   have hpl := purgeS_len S X.length i
   refine k_sr ?_
   refine s_lt t_cmp ?_
   refine s_nt ?_
   refine k_seq ?_
   refine k_cond (decide ((i : Int) < ((okeys S).length : Int))) (fun c47 => ?_) (fun c47 => ?_)
   ·
    have p48 := of_decide_eq_true c47
    refine k_st ?_
    refine k_seq ?_
    refine k_block ?_
    refine k_sr ?_
    refine s_lt (t_index VlT_ok Tryz.underlying33 (.own 0) (i : Int) i (by omega) (by (try simp only [lnm]); omega) (by omega)) ?_
    obtain ⟨y49, hy50⟩ : ∃ y, (okeys S)[i]? = some y := ⟨_, List.getElem?_eq_getElem (by (try simp only [lnm]); omega)⟩
    obtain ⟨s51, hs52, rfl⟩ := okeys_get hy50
    refine s_lt (t_loadE VlT_ok (.own 0) hy50) ?_
    refine s_alloc (.agg #[.int .i64 0, .int .i64 0, .int .i64 0, .string ByteArray.empty, .int .i64 0]) #[.int .i64 0, .int .i64 0, .int .i64 0, .string ByteArray.empty, .int .i64 0] (fun g53 => ?_)
    refine s_store 0 #[.int .i64 s51.key.kind, .int .i64 s51.key.p, .int .i64 s51.key.q, .string s51.key.str, .int .i64 s51.key.ref] ?_
    refine s_nr ?_
    refine s_lt (t_loadA 0 #[.int .i64 s51.key.kind, .int .i64 s51.key.p, .int .i64 s51.key.q, .string s51.key.str, .int .i64 s51.key.ref]) ?_
    refine s_vcall (fun _ h => integer_s s51.key) ?_
    rintro u54 e55
    rcases int_cases s51.key with ⟨hi56, hp57, hv58⟩ | ⟨hi59, hw60⟩
    ·
     rw [hi56, hp57] at e55; subst e55
     refine sp (.tuple #[.int .i64 (whole s51.key), .bool true]) ?_
     refine sp (.int .i64 (whole s51.key)) ?_
     refine sp (.bool true) ?_
     refine sp (.int .i64 (whole s51.key)) ?_
     refine sp (.bool true) ?_
     refine s_nt ?_
     refine k_cut (ι := Unit) (fun _ => True) (fun _ => [(0, pB b 0), (9, pB r43 0), (11, pB g53 0), (67, v44), (68, .int .i64 ((okeys S).length : Int)), (69, .int .i64 (i : Int)), (92, .bool ((decide ((whole s51.key) < 1)) || (decide ((X.length : Int) < (whole s51.key)))))]) (fun _ => blkA g53 #[.int .i64 s51.key.kind, .int .i64 s51.key.p, .int .i64 s51.key.q, .string s51.key.str, .int .i64 s51.key.ref] 26 :: own VlT v44 (okeys S) :: omA r3 S :: omA r43 (purgeS S X.length i) :: blkA b #[lx, pB r3 0] 119 :: own VlT lx X :: blkA g1 #[.int .i64 x.kind, .int .i64 x.p, .int .i64 x.q, .string x.str, .int .i64 x.ref] 26 :: F) ?_ (fun _ _ => ?_)
     ·
      refine k_reg ?_
      refine sp (.bool true) ?_
      refine sp (.bool false) ?_
      refine sp (.bool false) ?_
      refine sp (.int .i64 (whole s51.key)) ?_
      refine s_lt t_cmp ?_
      refine sp (.bool (decide ((whole s51.key) < 1))) ?_
      refine sp (.bool (decide ((whole s51.key) < 1))) ?_
      refine s_fork 84 (decide ((whole s51.key) < 1)) (fun c61 => ?_) (fun c61 => ?_)
      ·
       have p62 := of_decide_eq_true c61
       refine s_skip ?_
       refine s_skip ?_
       refine s_skip ?_
       refine s_skip ?_
       refine s_skip ?_
       refine s_skip ?_
       refine s_skip ?_
       refine sp (.bool true) ?_
       refine s_nil ?_
       exact xs_cut () trivial (sub_of rfl ⟨⟨rfl, rfl⟩, ⟨⟨rfl, rfl⟩, ⟨⟨rfl, rfl⟩, ⟨⟨rfl, rfl⟩, ⟨⟨rfl, rfl⟩, ⟨⟨rfl, rfl⟩, ⟨⟨rfl, show Value.bool true = Value.bool ((decide ((whole s51.key) < 1)) || (decide ((X.length : Int) < (whole s51.key)))) by first | (simp only [c61, bls]; done) | simp [c61]⟩, trivial⟩⟩⟩⟩⟩⟩⟩) (fun _ h => h.re [0, 0, 0, 0, 0, 0, 0] [])
      ·
       have p63 := of_decide_eq_false c61
       refine sp (.int .i64 (whole s51.key)) ?_
       refine sp (pB b 0) ?_
       refine sp (pB b 0) ?_
       refine sp (pB b 0) ?_
       refine s_lt (t_load 4 lx) ?_
       refine s_lt (t_len VlT_ok Tryz.underlying33 (.own 5)) ?_
       refine s_lt t_cmp ?_
       refine sp (.bool (decide ((X.length : Int) < (whole s51.key)))) ?_
       refine s_nil ?_
       exact xs_cut () trivial (sub_of rfl ⟨⟨rfl, rfl⟩, ⟨⟨rfl, rfl⟩, ⟨⟨rfl, rfl⟩, ⟨⟨rfl, rfl⟩, ⟨⟨rfl, rfl⟩, ⟨⟨rfl, rfl⟩, ⟨⟨rfl, show Value.bool (decide ((X.length : Int) < (whole s51.key))) = Value.bool ((decide ((whole s51.key) < 1)) || (decide ((X.length : Int) < (whole s51.key)))) by first | (simp only [c61, bls]; done) | simp [c61]⟩, trivial⟩⟩⟩⟩⟩⟩⟩) (fun _ h => h.re [0, 0, 0, 0, 0, 0, 0] [])
     ·
      refine k_cond ((decide ((whole s51.key) < 1)) || (decide ((X.length : Int) < (whole s51.key)))) (fun c64 => ?_) (fun c64 => ?_)
      ·
       have p65 := c64
       simp only [Bool.and_eq_true, Bool.or_eq_true, Bool.and_eq_false_iff, Bool.or_eq_false_iff, Bool.not_eq_true', Bool.not_eq_false', decide_eq_true_eq, decide_eq_false_iff_not] at p65
       refine k_held [blkA g53 #[.int .i64 s51.key.kind, .int .i64 s51.key.p, .int .i64 s51.key.q, .string s51.key.str, .int .i64 s51.key.ref] 26, own VlT v44 (okeys S), blkA b #[lx, pB r3 0] 119, own VlT lx X, blkA g1 #[.int .i64 x.kind, .int .i64 x.p, .int .i64 x.q, .string x.str, .int .i64 x.ref] 26] ?_
       refine hp_ 0 [0, 0, 2, 2, 2] (pB r43 0) ?_
       refine h_l 1 rfl [0, 0, 2, 2, 2] (fun _ => (t_loadA 0 #[.int .i64 s51.key.kind, .int .i64 s51.key.p, .int .i64 s51.key.q, .string s51.key.str, .int .i64 s51.key.ref])) ?_
       refine hp_ 2 [0, 0, 2, 2, 2] (pB b 0) ?_
       refine hp_ 3 [0, 0, 2, 2, 2] (pB b 0) ?_
       refine hp_ 4 [0, 0, 2, 2, 2] (pB b 1) ?_
       refine h_l 5 rfl [0, 0, 2, 2, 2] (fun _ => (t_load 2 (pB r3 0))) ?_
       refine h_l 6 rfl [0, 0, 2, 2, 2] (fun _ => (t_loadA 0 #[.int .i64 s51.key.kind, .int .i64 s51.key.p, .int .i64 s51.key.q, .string s51.key.str, .int .i64 s51.key.ref])) ?_
       refine h_stepS 7 ?_
       refine s_call [2] (omget_s (S := S) s51.key) ?_
       rintro _ _ ⟨rfl, rfl⟩
       refine s_nil (xs_held [1, 1, 2, 2, 2] ?_)
       refine h_stepS 8 ?_
       refine s_call [3] (omset_s (S := (purgeS S X.length i)) (by (try simp only [lnm]); omega) s51.key (oget S s51.key)) ?_
       rintro _ _ ⟨rfl, rfl⟩
       refine s_nil (xs_held [2, 2, 2, 2, 2] ?_)
       refine h_doneS ?_
       refine xs_block ?_
       refine xs_then ?_
       refine k_reg ?_
       refine s_lt (t_add (i : Int) 1 (by (try simp only [lnm]); omega)) ?_
       refine sp (.int .i64 ((i : Int) + 1)) ?_
       refine s_nil ?_
       have hps := purge_step hinv0 (m := X.length) hs52
       have hib : inB (whole s51.key) X.length = false := inB_false (by omega)
       have hpe := hps.1 hib
       rw [hpe]
       exact xs_round (i + 1) (by omega) (by omega) (sub_of rfl ⟨⟨rfl, rfl⟩, ⟨⟨rfl, rfl⟩, ⟨⟨rfl, rfl⟩, ⟨⟨rfl, rfl⟩, ⟨⟨rfl, rfl⟩, trivial⟩⟩⟩⟩⟩) (fun _ h => h.re [3, 1, 0, 1, 1, 1] [6])
      ·
       obtain ⟨c66, c67⟩ := or_f c64
       have p68 := of_decide_eq_false c66
       have p69 := of_decide_eq_false c67
       refine k_skip ?_
       refine xs_block ?_
       refine xs_then ?_
       refine k_reg ?_
       refine s_lt (t_add (i : Int) 1 (by (try simp only [lnm]); omega)) ?_
       refine sp (.int .i64 ((i : Int) + 1)) ?_
       refine s_nil ?_
       have hps := purge_step hinv0 (m := X.length) hs52
       have hib : inB (whole s51.key) X.length = true := inB_iff.2 (by omega)
       have hpe := hps.2 hib
       rw [hpe]
       exact xs_round (i + 1) (by omega) (by omega) (sub_of rfl ⟨⟨rfl, rfl⟩, ⟨⟨rfl, rfl⟩, ⟨⟨rfl, rfl⟩, ⟨⟨rfl, rfl⟩, ⟨⟨rfl, rfl⟩, trivial⟩⟩⟩⟩⟩) (fun _ h => h.re [1, 1, 1, 1, 1, 1] [6])
    ·
     rw [hi59] at e55; subst e55
     refine sp (.tuple #[.int .i64 s51.key.p, .bool false]) ?_
     refine sp (.int .i64 s51.key.p) ?_
     refine sp (.bool false) ?_
     refine sp (.int .i64 s51.key.p) ?_
     refine sp (.bool false) ?_
     refine s_nr ?_
     refine sp (.bool false) ?_
     refine sp (.bool true) ?_
     refine sp (.bool true) ?_
     refine s_skip ?_
     refine s_skip ?_
     refine sp (.bool true) ?_
     refine sp (.bool true) ?_
     refine s_skip ?_
     refine s_skip ?_
     refine s_skip ?_
     refine s_skip ?_
     refine s_skip ?_
     refine s_skip ?_
     refine s_skip ?_
     refine sp (.bool true) ?_
     refine s_nt ?_
     refine k_true ?_
     refine k_held [blkA g53 #[.int .i64 s51.key.kind, .int .i64 s51.key.p, .int .i64 s51.key.q, .string s51.key.str, .int .i64 s51.key.ref] 26, own VlT v44 (okeys S), blkA b #[lx, pB r3 0] 119, own VlT lx X, blkA g1 #[.int .i64 x.kind, .int .i64 x.p, .int .i64 x.q, .string x.str, .int .i64 x.ref] 26] ?_
     refine hp_ 0 [0, 0, 2, 2, 2] (pB r43 0) ?_
     refine h_l 1 rfl [0, 0, 2, 2, 2] (fun _ => (t_loadA 0 #[.int .i64 s51.key.kind, .int .i64 s51.key.p, .int .i64 s51.key.q, .string s51.key.str, .int .i64 s51.key.ref])) ?_
     refine hp_ 2 [0, 0, 2, 2, 2] (pB b 0) ?_
     refine hp_ 3 [0, 0, 2, 2, 2] (pB b 0) ?_
     refine hp_ 4 [0, 0, 2, 2, 2] (pB b 1) ?_
     refine h_l 5 rfl [0, 0, 2, 2, 2] (fun _ => (t_load 2 (pB r3 0))) ?_
     refine h_l 6 rfl [0, 0, 2, 2, 2] (fun _ => (t_loadA 0 #[.int .i64 s51.key.kind, .int .i64 s51.key.p, .int .i64 s51.key.q, .string s51.key.str, .int .i64 s51.key.ref])) ?_
     refine h_stepS 7 ?_
     refine s_call [2] (omget_s (S := S) s51.key) ?_
     rintro _ _ ⟨rfl, rfl⟩
     refine s_nil (xs_held [1, 1, 2, 2, 2] ?_)
     refine h_stepS 8 ?_
     refine s_call [3] (omset_s (S := (purgeS S X.length i)) (by (try simp only [lnm]); omega) s51.key (oget S s51.key)) ?_
     rintro _ _ ⟨rfl, rfl⟩
     refine s_nil (xs_held [2, 2, 2, 2, 2] ?_)
     refine h_doneS ?_
     refine xs_block ?_
     refine xs_then ?_
     refine k_reg ?_
     refine s_lt (t_add (i : Int) 1 (by (try simp only [lnm]); omega)) ?_
     refine sp (.int .i64 ((i : Int) + 1)) ?_
     refine s_nil ?_
     have hps := purge_step hinv0 (m := X.length) hs52
     have hib : inB (whole s51.key) X.length = false := inB_false (by omega)
     have hpe := hps.1 hib
     rw [hpe]
     exact xs_round (i + 1) (by omega) (by omega) (sub_of rfl ⟨⟨rfl, rfl⟩, ⟨⟨rfl, rfl⟩, ⟨⟨rfl, rfl⟩, ⟨⟨rfl, rfl⟩, ⟨⟨rfl, rfl⟩, trivial⟩⟩⟩⟩⟩) (fun _ h => h.re [3, 1, 0, 1, 1, 1] [6])
   ·
    have p70 := of_decide_eq_false c47
    refine k_exit ?_
    refine xs_exit ?_
    refine xs_exit ?_
    refine xs_here ?_
    refine xs_then ?_
    refine k_reg ?_
    refine sp (pB b 0) ?_
    refine sp (pB r43 0) ?_
    refine sp (pB b 0) ?_
    refine sp (pB b 1) ?_
    refine s_store 3 #[lx, pB r43 0] ?_
    refine s_nil ?_
    refine xs_mem (fun _ h => tb_shut (h.re [3, 3, 2] [])) ?_
    have hpe : purgeS S X.length i = purge S X.length := purge_end S X.length i (by rw [← okeys_length]; omega)
    have hT : tadd ⟨L, S⟩ v = ⟨X, purgeS S X.length i⟩ := by rw [tadd_eq hgr, if_pos c42, hpe]
    refine xs_finN [] (tbA b X (purgeS S X.length i) :: F) SI.nil (fun _ h => h.re [0] [1, 1, 1]) ⟨rfl, ?_⟩
    rw [hT]
theorem tsetE_bad {k v : Vl} (h : okKey k = false) : tsetE k v = 13 := by unfold tsetE; rw [if_pos h]
theorem tsetE_val {k v : Vl} (h : okKey k = true) (hv : validB v = false) : tsetE k v = 2 := by unfold tsetE; rw [if_neg (by rw [h]; decide), if_pos hv]
theorem tsetE_ok {k v : Vl} (h : okKey k = true) (hv : validB v = true) : tsetE k v = 0 := by unfold tsetE; rw [if_neg (by rw [h]; decide), if_neg (by rw [hv]; decide)]
theorem tsetE_oset (k v : Vl) : tsetE k v = osetE k v := rfl
theorem tbset_s {Z : Zone} {F : List Asr} {b : Nat} {L : List Vl} {S : List Slt} (hti : TInv ⟨L, S⟩) (hl : L.length ≤ 100000) (hs : S.length ≤ 100000) (k v : Vl) : SF Tryz.prog 77 #[.pointer (some ⟨b, 0, none⟩), k.v, v.v] Z (tbA b L S :: F) fun r Bs => r = .int .i64 (tsetE k v) ∧ Bs = tbA b (tset ⟨L, S⟩ k v).list (tset ⟨L, S⟩ k v).rest :: F := by
 refine sf_enter Tryz.func77 86 [(0, pB b 0), (1, .agg #[.int .i64 k.kind, .int .i64 k.p, .int .i64 k.q, .string k.str, .int .i64 k.ref]), (2, .agg #[.int .i64 v.kind, .int .i64 v.p, .int .i64 v.q, .string v.str, .int .i64 v.ref])] (fun w0 => ?_)
 refine k_sr ?_
 refine s_box #[.int .i64 k.kind, .int .i64 k.p, .int .i64 k.q, .string k.str, .int .i64 k.ref] (fun g1 => ?_)
 refine s_box #[.int .i64 v.kind, .int .i64 v.p, .int .i64 v.q, .string v.str, .int .i64 v.ref] (fun g2 => ?_)
 refine sp (.int .i64 0) ?_
 refine s_nt ?_
 refine k_seq ?_
 refine k_sr ?_
 refine sp (pB b 0) ?_
 refine sp (.bool false) ?_
 refine s_nt ?_
 refine k_false ?_
 refine k_st ?_
 refine k_seq ?_
 refine k_sr ?_
 refine sp (pB g1 0) ?_
 refine s_lt (t_load 1 (.int .i64 k.kind)) ?_
 refine s_lt t_cmp ?_
 refine sp (.bool (decide (k.kind = 0))) ?_
 refine s_fork 14 (decide (k.kind = 0)) (fun c3 => ?_) (fun c3 => ?_)
 ·
  have p4 := of_decide_eq_true c3
  refine s_skip ?_
  refine s_skip ?_
  refine s_skip ?_
  refine sp (.bool true) ?_
  refine s_nt ?_
  refine k_true ?_
  refine k_sr ?_
  refine sp (.int .i64 13) ?_
  refine s_nt ?_
  refine k_ret ?_
  refine xs_ret ?_
  have hk : okKey k = false := okKey_bad (by first | exact p4 | exact .inl p4 | exact .inr p4)
  refine xs_fin [.int .i64 13] (tbA b L S :: F) (SI.tmp 6 SI.nil) (fun _ h => h.re [2] [1, 1]) ⟨congrArg (Value.int .i64) (tsetE_bad hk).symm, ?_⟩
  rw [tset_bad (v := v) (.inl hk)]
 ·
  have p5 := of_decide_eq_false c3
  refine s_lt (t_loadA 1 #[.int .i64 k.kind, .int .i64 k.p, .int .i64 k.q, .string k.str, .int .i64 k.ref]) ?_
  refine s_vcall (fun _ h => valid_s k) ?_
  rintro _ rfl
  refine sp (.bool (!(validB k))) ?_
  refine sp (.bool (!(validB k))) ?_
  refine s_nt ?_
  refine k_cond (!(validB k)) (fun c6 => ?_) (fun c6 => ?_)
  ·
   have c7 := not_t c6
   refine k_sr ?_
   refine sp (.int .i64 13) ?_
   refine s_nt ?_
   refine k_ret ?_
   refine xs_ret ?_
   have hk : okKey k = false := okKey_bad (by first | exact c7 | exact .inl c7 | exact .inr c7)
   refine xs_fin [.int .i64 13] (tbA b L S :: F) (SI.tmp 6 SI.nil) (fun _ h => h.re [2] [1, 1]) ⟨congrArg (Value.int .i64) (tsetE_bad hk).symm, ?_⟩
   rw [tset_bad (v := v) (.inl hk)]
  ·
   have c8 := not_f c6
   refine k_st ?_
   refine k_seq ?_
   refine k_sr ?_
   refine s_lt (t_loadA 0 #[.int .i64 v.kind, .int .i64 v.p, .int .i64 v.q, .string v.str, .int .i64 v.ref]) ?_
   refine s_vcall (fun _ h => valid_s v) ?_
   rintro _ rfl
   refine sp (.bool (!(validB v))) ?_
   refine s_nt ?_
   refine k_cond (!(validB v)) (fun c9 => ?_) (fun c9 => ?_)
   ·
    have c10 := not_t c9
    refine k_sr ?_
    refine sp (.int .i64 2) ?_
    refine s_nt ?_
    refine k_ret ?_
    refine xs_ret ?_
    have hk := okKey_good c3 c8
    refine xs_fin [.int .i64 2] (tbA b L S :: F) (SI.tmp 6 SI.nil) (fun _ h => h.re [2] [1, 1]) ⟨congrArg (Value.int .i64) (tsetE_val hk c10).symm, ?_⟩
    rw [tset_bad (v := v) (.inr c10)]
   ·
    have c11 := not_f c9
    refine k_st ?_
    refine k_sr ?_
    refine s_lt (t_loadA 1 #[.int .i64 k.kind, .int .i64 k.p, .int .i64 k.q, .string k.str, .int .i64 k.ref]) ?_
    refine s_vcall (fun _ h => integer_s k) ?_
    rintro u12 e13
    rcases int_cases k with ⟨hi14, hp15, hv16⟩ | ⟨hi17, hw18⟩
    ·
     rw [hi14, hp15] at e13; subst e13
     refine sp (.tuple #[.int .i64 (whole k), .bool true]) ?_
     refine sp (.int .i64 (whole k)) ?_
     refine sp (.bool true) ?_
     refine sp (.int .i64 (whole k)) ?_
     refine sp (.bool true) ?_
     refine s_nt ?_
     refine k_seq ?_
     refine k_block ?_
     refine k_sr ?_
     refine sp (.bool true) ?_
     refine sp (.bool true) ?_
     refine sp (.int .i64 (whole k)) ?_
     refine s_lt t_cmp ?_
     refine sp (.bool (decide ((1 : Int) ≤ (whole k)))) ?_
     refine sp (.bool (decide ((1 : Int) ≤ (whole k)))) ?_
     refine s_fork 40 (decide ((1 : Int) ≤ (whole k))) (fun c19 => ?_) (fun c19 => ?_)
     ·
      have p20 := of_decide_eq_true c19
      refine sp (.int .i64 (whole k)) ?_
      refine sp (pB b 0) ?_
      refine sp (pB b 0) ?_
      refine sp (pB b 0) ?_
      refine s_mem2 (fun H h => tb_open (h.re [2] [])) (fun lv21 r22 hw => ?_)
      refine s_lt (t_load 0 lv21) ?_
      refine s_lt (t_len VlT_ok Tryz.underlying33 (.own 1)) ?_
      refine s_lt t_cmp ?_
      refine sp (.bool (decide ((whole k) ≤ (L.length : Int)))) ?_
      refine sp (.bool (decide ((whole k) ≤ (L.length : Int)))) ?_
      refine s_nt ?_
      refine k_cond (decide ((whole k) ≤ (L.length : Int))) (fun c23 => ?_) (fun c23 => ?_)
      ·
       have p24 := of_decide_eq_true c23
       refine k_seq ?_
       refine k_draw ?_
       refine sp (pB b 0) ?_
       refine sp (pB b 0) ?_
       refine sp (pB b 0) ?_
       refine s_lt (t_load 0 lv21) ?_
       refine sp (.int .i64 (whole k)) ?_
       refine s_lt (t_sub (whole k) 1 (by (try simp only [lnm]); omega)) ?_
       refine s_lt (t_loadA 3 #[.int .i64 v.kind, .int .i64 v.p, .int .i64 v.q, .string v.str, .int .i64 v.ref]) ?_
       refine s_lt (t_index VlT_ok Tryz.underlying33 (.own 1) ((whole k) - 1) ((((whole k) - 1)).toNat) (by omega) (by (try simp only [lnm]); omega) (by omega)) ?_
       obtain ⟨y25, hy26⟩ : ∃ y, L[(((whole k) - 1)).toNat]? = some y := ⟨_, List.getElem?_eq_getElem (by (try simp only [lnm]); omega)⟩
       refine s_storeE 1 0 v VlT_ok hy26 ?_
       refine s_nil ?_
       refine x_dynS (fun _ h => by kernel_rfl) ?_
       refine xs_then ?_
       refine k_sr ?_
       refine sp (.int .i64 (whole k)) ?_
       refine sp (pB b 0) ?_
       refine sp (pB b 0) ?_
       refine sp (pB b 0) ?_
       refine s_lt (t_load 0 lv21) ?_
       refine s_lt (t_len VlT_ok Tryz.underlying33 (.own 1)) ?_
       refine s_lt t_cmp ?_
       refine s_nt ?_
       refine k_cond (decide ((whole k) = ((L.set ((((whole k) - 1)).toNat) v).length : Int))) (fun c27 => ?_) (fun c27 => ?_)
       ·
        have p28 := of_decide_eq_true c27
        refine k_reg ?_
        refine sp (pB b 0) ?_
        refine s_mem (fun _ h => tb_shut (h.re [0, 0, 0] [])) ?_
        refine s_call [0] (tbshrink_s (L := (L.set ((((whole k) - 1)).toNat) v)) (S := S) (by (try simp only [lnm]); omega)) ?_
        rintro _ _ ⟨rfl, rfl⟩
        refine s_nil ?_
        refine xs_block ?_
        refine xs_then ?_
        refine k_sr ?_
        refine sp (.int .i64 0) ?_
        refine s_nt ?_
        refine k_ret ?_
        have hk := okKey_good c3 c8
        have hsl : (L.set (whole k - 1).toNat v).length = L.length := List.length_set
        have hT : tset ⟨L, S⟩ k v = ⟨(shr (L.set ((((whole k) - 1)).toNat) v)), S⟩ := by rw [tset_in (T := ⟨L, S⟩) hk c11 (by omega) (by show _ ≤ (L.length : Int); omega)]
        refine xs_fin [.int .i64 0] (tbA b (shr (L.set ((((whole k) - 1)).toNat) v)) S :: F) (SI.tmp 6 SI.nil) (fun _ h => h.re [0] [1, 1]) ⟨congrArg (Value.int .i64) (tsetE_ok hk c11).symm, ?_⟩
        rw [hT]
       ·
        have p29 := of_decide_eq_false c27
        refine k_skip ?_
        refine xs_block ?_
        refine xs_then ?_
        refine k_sr ?_
        refine sp (.int .i64 0) ?_
        refine s_nt ?_
        refine k_ret ?_
        have hk := okKey_good c3 c8
        refine xs_mem (fun _ h => tb_shut (h.re [0, 0, 0] [])) ?_
        have hsl : (L.set (whole k - 1).toNat v).length = L.length := List.length_set
        have hT : tset ⟨L, S⟩ k v = ⟨(L.set ((((whole k) - 1)).toNat) v), S⟩ := by rw [tset_in (T := ⟨L, S⟩) hk c11 (by omega) (by show _ ≤ (L.length : Int); omega)]; show (⟨shr (L.set _ v), S⟩ : Tb) = _; rw [shr_set hti.last (by show _ ≠ L.length; omega)]
        refine xs_fin [.int .i64 0] (tbA b (L.set ((((whole k) - 1)).toNat) v) S :: F) (SI.tmp 6 SI.nil) (fun _ h => h.re [0] [1, 1]) ⟨congrArg (Value.int .i64) (tsetE_ok hk c11).symm, ?_⟩
        rw [hT]
      ·
       have p30 := of_decide_eq_false c23
       refine k_sr ?_
       refine sp (.bool true) ?_
       refine sp (.bool true) ?_
       refine sp (.int .i64 (whole k)) ?_
       refine sp (pB b 0) ?_
       refine sp (pB b 0) ?_
       refine sp (pB b 0) ?_
       refine s_lt (t_load 0 lv21) ?_
       refine s_lt (t_len VlT_ok Tryz.underlying33 (.own 1)) ?_
       refine s_lt (t_add (L.length : Int) 1 (by (try simp only [lnm]); omega)) ?_
       refine s_lt t_cmp ?_
       refine sp (.bool (decide ((whole k) = ((L.length : Int) + 1)))) ?_
       refine sp (.bool (decide ((whole k) = ((L.length : Int) + 1)))) ?_
       refine s_fork 78 (decide ((whole k) = ((L.length : Int) + 1))) (fun c31 => ?_) (fun c31 => ?_)
       ·
        have p32 := of_decide_eq_true c31
        refine sp (pB g2 0) ?_
        refine s_lt (t_load 3 (.int .i64 v.kind)) ?_
        refine s_lt t_cmp ?_
        refine sp (.bool (decide (v.kind ≠ 0))) ?_
        refine sp (.bool (decide (v.kind ≠ 0))) ?_
        refine s_nt ?_
        refine k_cond (decide (v.kind ≠ 0)) (fun c33 => ?_) (fun c33 => ?_)
        ·
         have p34 := of_decide_eq_true c33
         refine k_reg ?_
         refine sp (pB b 0) ?_
         refine s_lt (t_loadA 3 #[.int .i64 v.kind, .int .i64 v.p, .int .i64 v.q, .string v.str, .int .i64 v.ref]) ?_
         refine s_mem (fun _ h => tb_shut (h.re [0, 0, 0] [])) ?_
         refine s_call [0] (tbadd_s (L := L) (S := S) (by (try simp only [lnm]); omega) (by (try simp only [lnm]); omega) v) ?_
         rintro _ _ ⟨rfl, rfl⟩
         refine s_nil ?_
         refine xs_block ?_
         refine xs_then ?_
         refine k_sr ?_
         refine sp (.int .i64 0) ?_
         refine s_nt ?_
         refine k_ret ?_
         have hk := okKey_good c3 c8
         refine xs_fin [.int .i64 0] (tbA b ((tadd ⟨L, S⟩ v).list) ((tadd ⟨L, S⟩ v).rest) :: F) (SI.tmp 6 SI.nil) (fun _ h => h.re [0] [1, 1]) ⟨congrArg (Value.int .i64) (tsetE_ok hk c11).symm, ?_⟩
         rw [tset_add (T := ⟨L, S⟩) hk c11 (by show _ = (L.length : Int) + 1; omega) (of_decide_eq_true c33)]
        ·
         have p35 := Decidable.not_not.1 (of_decide_eq_false c33)
         refine k_seq ?_
         refine k_draw ?_
         refine sp (pB b 0) ?_
         refine sp (pB b 0) ?_
         refine sp (pB b 1) ?_
         refine s_lt (t_load 0 (pB r22 0)) ?_
         refine s_lt (t_loadA 4 #[.int .i64 k.kind, .int .i64 k.p, .int .i64 k.q, .string k.str, .int .i64 k.ref]) ?_
         refine s_lt (t_loadA 3 #[.int .i64 v.kind, .int .i64 v.p, .int .i64 v.q, .string v.str, .int .i64 v.ref]) ?_
         refine s_call [2] (omset_s (S := S) (by (try simp only [lnm]); omega) k v) ?_
         rintro _ _ ⟨rfl, rfl⟩
         refine sp (.int .i64 (osetE k v)) ?_
         refine s_nil ?_
         refine x_dynS (fun _ h => by kernel_rfl) ?_
         refine xs_then ?_
         refine k_ret ?_
         refine xs_retBlock ?_
         refine xs_ret ?_
         have hk := okKey_good c3 c8
         refine xs_mem (fun _ h => tb_shut (h.re [1, 1, 0] [])) ?_
         refine xs_fin [.int .i64 (osetE k v)] (tbA b L (osetL S k v) :: F) (SI.tmp 6 SI.nil) (fun _ h => h.re [0] [1, 1]) ⟨congrArg (Value.int .i64) ((tsetE_oset k v)).symm, ?_⟩
         rw [tset_out (T := ⟨L, S⟩) hk c11 (by show ¬ (_ ∧ _ ≤ (L.length : Int)); omega) (by show ¬ (_ = (L.length : Int) + 1 ∧ _); rintro ⟨e1, e2⟩; first | omega | (have hq := p35; simp_all))]
       ·
        have p36 := of_decide_eq_false c31
        refine s_skip ?_
        refine s_skip ?_
        refine s_skip ?_
        refine sp (.bool false) ?_
        refine sp (.bool false) ?_
        refine s_nt ?_
        refine k_false ?_
        refine k_seq ?_
        refine k_draw ?_
        refine sp (pB b 0) ?_
        refine sp (pB b 0) ?_
        refine sp (pB b 1) ?_
        refine s_lt (t_load 0 (pB r22 0)) ?_
        refine s_lt (t_loadA 4 #[.int .i64 k.kind, .int .i64 k.p, .int .i64 k.q, .string k.str, .int .i64 k.ref]) ?_
        refine s_lt (t_loadA 3 #[.int .i64 v.kind, .int .i64 v.p, .int .i64 v.q, .string v.str, .int .i64 v.ref]) ?_
        refine s_call [2] (omset_s (S := S) (by (try simp only [lnm]); omega) k v) ?_
        rintro _ _ ⟨rfl, rfl⟩
        refine sp (.int .i64 (osetE k v)) ?_
        refine s_nil ?_
        refine x_dynS (fun _ h => by kernel_rfl) ?_
        refine xs_then ?_
        refine k_ret ?_
        refine xs_retBlock ?_
        refine xs_ret ?_
        have hk := okKey_good c3 c8
        refine xs_mem (fun _ h => tb_shut (h.re [1, 1, 0] [])) ?_
        refine xs_fin [.int .i64 (osetE k v)] (tbA b L (osetL S k v) :: F) (SI.tmp 6 SI.nil) (fun _ h => h.re [0] [1, 1]) ⟨congrArg (Value.int .i64) ((tsetE_oset k v)).symm, ?_⟩
        rw [tset_out (T := ⟨L, S⟩) hk c11 (by show ¬ (_ ∧ _ ≤ (L.length : Int)); omega) (by show ¬ (_ = (L.length : Int) + 1 ∧ _); rintro ⟨e1, e2⟩; first | omega | (have hq := p36; simp_all))]
     ·
      have p37 := of_decide_eq_false c19
      refine s_skip ?_
      refine s_skip ?_
      refine s_skip ?_
      refine s_skip ?_
      refine s_skip ?_
      refine s_skip ?_
      refine s_skip ?_
      refine sp (.bool false) ?_
      refine sp (.bool false) ?_
      refine s_nt ?_
      refine k_false ?_
      refine k_sr ?_
      refine sp (.bool true) ?_
      refine sp (.bool true) ?_
      refine sp (.int .i64 (whole k)) ?_
      refine sp (pB b 0) ?_
      refine sp (pB b 0) ?_
      refine sp (pB b 0) ?_
      refine s_mem2 (fun H h => tb_open (h.re [2] [])) (fun lv38 r39 hw => ?_)
      refine s_lt (t_load 0 lv38) ?_
      refine s_lt (t_len VlT_ok Tryz.underlying33 (.own 1)) ?_
      refine s_lt (t_add (L.length : Int) 1 (by (try simp only [lnm]); omega)) ?_
      refine s_lt t_cmp ?_
      refine sp (.bool (decide ((whole k) = ((L.length : Int) + 1)))) ?_
      refine sp (.bool (decide ((whole k) = ((L.length : Int) + 1)))) ?_
      refine s_fork 78 (decide ((whole k) = ((L.length : Int) + 1))) (fun c40 => ?_) (fun c40 => ?_)
      ·
       have p41 := of_decide_eq_true c40
       refine sp (pB g2 0) ?_
       refine s_lt (t_load 3 (.int .i64 v.kind)) ?_
       refine s_lt t_cmp ?_
       refine sp (.bool (decide (v.kind ≠ 0))) ?_
       refine sp (.bool (decide (v.kind ≠ 0))) ?_
       refine s_nt ?_
       refine k_cond (decide (v.kind ≠ 0)) (fun c42 => ?_) (fun c42 => ?_)
       ·
        have p43 := of_decide_eq_true c42
        refine k_reg ?_
        refine sp (pB b 0) ?_
        refine s_lt (t_loadA 3 #[.int .i64 v.kind, .int .i64 v.p, .int .i64 v.q, .string v.str, .int .i64 v.ref]) ?_
        refine s_mem (fun _ h => tb_shut (h.re [0, 0, 0] [])) ?_
        refine s_call [0] (tbadd_s (L := L) (S := S) (by (try simp only [lnm]); omega) (by (try simp only [lnm]); omega) v) ?_
        rintro _ _ ⟨rfl, rfl⟩
        refine s_nil ?_
        refine xs_block ?_
        refine xs_then ?_
        refine k_sr ?_
        refine sp (.int .i64 0) ?_
        refine s_nt ?_
        refine k_ret ?_
        have hk := okKey_good c3 c8
        refine xs_fin [.int .i64 0] (tbA b ((tadd ⟨L, S⟩ v).list) ((tadd ⟨L, S⟩ v).rest) :: F) (SI.tmp 6 SI.nil) (fun _ h => h.re [0] [1, 1]) ⟨congrArg (Value.int .i64) (tsetE_ok hk c11).symm, ?_⟩
        rw [tset_add (T := ⟨L, S⟩) hk c11 (by show _ = (L.length : Int) + 1; omega) (of_decide_eq_true c42)]
       ·
        have p44 := Decidable.not_not.1 (of_decide_eq_false c42)
        refine k_seq ?_
        refine k_draw ?_
        refine sp (pB b 0) ?_
        refine sp (pB b 0) ?_
        refine sp (pB b 1) ?_
        refine s_lt (t_load 0 (pB r39 0)) ?_
        refine s_lt (t_loadA 4 #[.int .i64 k.kind, .int .i64 k.p, .int .i64 k.q, .string k.str, .int .i64 k.ref]) ?_
        refine s_lt (t_loadA 3 #[.int .i64 v.kind, .int .i64 v.p, .int .i64 v.q, .string v.str, .int .i64 v.ref]) ?_
        refine s_call [2] (omset_s (S := S) (by (try simp only [lnm]); omega) k v) ?_
        rintro _ _ ⟨rfl, rfl⟩
        refine sp (.int .i64 (osetE k v)) ?_
        refine s_nil ?_
        refine x_dynS (fun _ h => by kernel_rfl) ?_
        refine xs_then ?_
        refine k_ret ?_
        refine xs_retBlock ?_
        refine xs_ret ?_
        have hk := okKey_good c3 c8
        refine xs_mem (fun _ h => tb_shut (h.re [1, 1, 0] [])) ?_
        refine xs_fin [.int .i64 (osetE k v)] (tbA b L (osetL S k v) :: F) (SI.tmp 6 SI.nil) (fun _ h => h.re [0] [1, 1]) ⟨congrArg (Value.int .i64) ((tsetE_oset k v)).symm, ?_⟩
        rw [tset_out (T := ⟨L, S⟩) hk c11 (by show ¬ (_ ∧ _ ≤ (L.length : Int)); omega) (by show ¬ (_ = (L.length : Int) + 1 ∧ _); rintro ⟨e1, e2⟩; first | omega | (have hq := p44; simp_all))]
      ·
       have p45 := of_decide_eq_false c40
       refine s_skip ?_
       refine s_skip ?_
       refine s_skip ?_
       refine sp (.bool false) ?_
       refine sp (.bool false) ?_
       refine s_nt ?_
       refine k_false ?_
       refine k_seq ?_
       refine k_draw ?_
       refine sp (pB b 0) ?_
       refine sp (pB b 0) ?_
       refine sp (pB b 1) ?_
       refine s_lt (t_load 0 (pB r39 0)) ?_
       refine s_lt (t_loadA 4 #[.int .i64 k.kind, .int .i64 k.p, .int .i64 k.q, .string k.str, .int .i64 k.ref]) ?_
       refine s_lt (t_loadA 3 #[.int .i64 v.kind, .int .i64 v.p, .int .i64 v.q, .string v.str, .int .i64 v.ref]) ?_
       refine s_call [2] (omset_s (S := S) (by (try simp only [lnm]); omega) k v) ?_
       rintro _ _ ⟨rfl, rfl⟩
       refine sp (.int .i64 (osetE k v)) ?_
       refine s_nil ?_
       refine x_dynS (fun _ h => by kernel_rfl) ?_
       refine xs_then ?_
       refine k_ret ?_
       refine xs_retBlock ?_
       refine xs_ret ?_
       have hk := okKey_good c3 c8
       refine xs_mem (fun _ h => tb_shut (h.re [1, 1, 0] [])) ?_
       refine xs_fin [.int .i64 (osetE k v)] (tbA b L (osetL S k v) :: F) (SI.tmp 6 SI.nil) (fun _ h => h.re [0] [1, 1]) ⟨congrArg (Value.int .i64) ((tsetE_oset k v)).symm, ?_⟩
       rw [tset_out (T := ⟨L, S⟩) hk c11 (by show ¬ (_ ∧ _ ≤ (L.length : Int)); omega) (by show ¬ (_ = (L.length : Int) + 1 ∧ _); rintro ⟨e1, e2⟩; first | omega | (have hq := p45; simp_all))]
    ·
     rw [hi17] at e13; subst e13
     refine sp (.tuple #[.int .i64 k.p, .bool false]) ?_
     refine sp (.int .i64 k.p) ?_
     refine sp (.bool false) ?_
     refine sp (.int .i64 k.p) ?_
     refine sp (.bool false) ?_
     refine s_nt ?_
     refine k_seq ?_
     refine k_block ?_
     refine k_sr ?_
     refine sp (.bool false) ?_
     refine sp (.bool false) ?_
     refine s_skip ?_
     refine s_skip ?_
     refine sp (.bool false) ?_
     refine sp (.bool false) ?_
     refine s_skip ?_
     refine s_skip ?_
     refine s_skip ?_
     refine s_skip ?_
     refine s_skip ?_
     refine s_skip ?_
     refine s_skip ?_
     refine sp (.bool false) ?_
     refine sp (.bool false) ?_
     refine s_nt ?_
     refine k_false ?_
     refine k_sr ?_
     refine sp (.bool false) ?_
     refine sp (.bool false) ?_
     refine s_skip ?_
     refine s_skip ?_
     refine s_skip ?_
     refine s_skip ?_
     refine s_skip ?_
     refine s_skip ?_
     refine s_skip ?_
     refine s_skip ?_
     refine sp (.bool false) ?_
     refine sp (.bool false) ?_
     refine s_skip ?_
     refine s_skip ?_
     refine s_skip ?_
     refine sp (.bool false) ?_
     refine sp (.bool false) ?_
     refine s_nt ?_
     refine k_false ?_
     refine k_seq ?_
     refine k_draw ?_
     refine sp (pB b 0) ?_
     refine sp (pB b 0) ?_
     refine sp (pB b 1) ?_
     refine s_mem2 (fun H h => tb_open (h.re [2] [])) (fun lv46 r47 hw => ?_)
     refine s_lt (t_load 0 (pB r47 0)) ?_
     refine s_lt (t_loadA 4 #[.int .i64 k.kind, .int .i64 k.p, .int .i64 k.q, .string k.str, .int .i64 k.ref]) ?_
     refine s_lt (t_loadA 3 #[.int .i64 v.kind, .int .i64 v.p, .int .i64 v.q, .string v.str, .int .i64 v.ref]) ?_
     refine s_call [2] (omset_s (S := S) (by (try simp only [lnm]); omega) k v) ?_
     rintro _ _ ⟨rfl, rfl⟩
     refine sp (.int .i64 (osetE k v)) ?_
     refine s_nil ?_
     refine x_dynS (fun _ h => by kernel_rfl) ?_
     refine xs_then ?_
     refine k_ret ?_
     refine xs_retBlock ?_
     refine xs_ret ?_
     have hk := okKey_good c3 c8
     refine xs_mem (fun _ h => tb_shut (h.re [1, 1, 0] [])) ?_
     refine xs_fin [.int .i64 (osetE k v)] (tbA b L (osetL S k v) :: F) (SI.tmp 6 SI.nil) (fun _ h => h.re [0] [1, 1]) ⟨congrArg (Value.int .i64) ((tsetE_oset k v)).symm, ?_⟩
     rw [tset_out (T := ⟨L, S⟩) hk c11 (by show ¬ (_ ∧ _ ≤ (L.length : Int)); omega) (by show ¬ (_ = (L.length : Int) + 1 ∧ _); rintro ⟨e1, e2⟩; first | omega | (have hq := c11; simp_all))]
end Go.Proofs.YtplkkhpokodbmaaGreatDoor
end
section
set_option linter.unusedSimpArgs false
set_option linter.unusedVariables false
set_option maxRecDepth 100000
set_option maxHeartbeats 2000000
namespace Go.Proofs.YtplkkhpokodbmaaGreatDoor
open Go.Hp Go.J Go.S
open Go.Mem (Ty KTy blk elemAt pre suf blk_pre blk_suf aget aset strK aggDesc)
open Go.Mem (adel apos aget_aset aget_adel)
end Go.Proofs.YtplkkhpokodbmaaGreatDoor
end
section
set_option linter.unusedSimpArgs false
set_option linter.unusedVariables false
namespace Go.Proofs.YtplkkhpokodbmaaGreatDoor
structure Hob where
  kind : Int
  tag : Int
  name : ByteArray
  tab : Tb
  mt : Vl
  vals : List Vl
  deriving DecidableEq
structure Hst where
  objs : List (Option Hob)
  tch : List Bool
  deriving DecidableEq
def noTb : Tb := ⟨[], []⟩
def hp0 : Hst := ⟨[], []⟩
def refV (kind id : Int) : Vl := ⟨kind, 0, 0, ByteArray.empty, id⟩
def strV (s : ByteArray) : Vl := ⟨3, 0, 0, s, 0⟩
def Hst.get (st : Hst) (id : Int) : Option Hob := if 1 ≤ id then (st.objs[id.toNat - 1]?).bind (fun x => x) else none
def Hst.put (st : Hst) (id : Int) (o : Hob) : Hst := { st with objs := st.objs.set (id.toNat - 1) (some o) }
def Hst.touch (st : Hst) (id : Int) : Hst := { st with tch := st.tch.set (id.toNat - 1) true }
def Hst.count (st : Hst) : Nat := st.objs.countP Option.isSome
def isRef (k : Int) : Bool := decide (k = 4) || (decide (k = 5) || (decide (k = 7) || decide (k = 8)))
def hfind (st : Hst) (v : Vl) : Option Hob := (st.get v.ref).bind fun o => if o.kind = v.kind then some o else none
/-- The value denotes a table. -/
def htab (st : Hst) (v : Vl) : Option Tb := (hfind st v).bind fun o => if o.kind = 4 then some o.tab else none
def newO (kind tag : Int) (name : ByteArray) (vals : List Vl) : Hob := ⟨kind, tag, name, noTb, zVl, vals⟩
def hmakeV (st : Hst) (kind : Int) : Vl := if 65536 ≤ st.count then zVl else refV kind ((st.objs.length : Int) + 1)
def hmakeE (st : Hst) : Int := if 65536 ≤ st.count then 17 else 0
def hmake (st : Hst) (o : Hob) : Hst := if 65536 ≤ st.count then st else ⟨st.objs ++ [some o], st.tch ++ [true]⟩
def elemE (v : Vl) : Int := if v.kind = 3 ∧ 4096 < (v.str.size : Int) then 14 else if validB v = false then 2 else 0
def hgetV (st : Hst) (t k : Vl) : Vl := match htab st t with
  | some T => tget T k
  | none => zVl
def hgetE (st : Hst) (t : Vl) : Int := if (htab st t).isSome then 0 else 8
def hsetE (st : Hst) (t k v : Vl) : Int := match htab st t with
  | none => 8
  | some T => if okKey k = false then 13 else elemE v
def Hst.setTab (st : Hst) (id : Int) (T : Tb) : Hst := match st.get id with
  | some o => st.put id { o with tab := T }
  | none => st
def hset (st : Hst) (t k v : Vl) : Hst := match htab st t with
  | none => st
  | some T => if okKey k = false then st else if elemE v ≠ 0 then st else (st.setTab t.ref (tset T k v)).touch t.ref
def hmeta (st : Hst) (v : Vl) : Vl := match hfind st v with
  | some o => o.mt
  | none => zVl
def hmetaOk (st : Hst) (v m : Vl) : Bool := match hfind st v with
  | some o => (decide (o.kind = 4) || decide (o.kind = 8)) && (decide (m = zVl) || (htab st m).isSome)
  | none => false
def hsetMetaE (st : Hst) (v m : Vl) : Int := if hmetaOk st v m = true then 0 else 8
def Hst.setMt (st : Hst) (id : Int) (m : Vl) : Hst := match st.get id with
  | some o => st.put id { o with mt := m }
  | none => st
def hsetMeta (st : Hst) (v m : Vl) : Hst := if hmetaOk st v m = true then (st.setMt v.ref m).touch v.ref else st
/-- An object as the calls leave it. -/
structure ObInv (o : Hob) : Prop where
  kind : isRef o.kind = true
  tab : TInv o.tab
  mt : o.kind ≠ 4 → o.kind ≠ 8 → o.mt = zVl
structure HInv (st : Hst) : Prop where
  obs : ∀ o, some o ∈ st.objs → ObInv o
  tch : st.tch.length = st.objs.length
/-- How large a heap is after n calls. -/
structure HSm (n : Nat) (st : Hst) : Prop where
  len : st.objs.length ≤ n
  obs : ∀ o, some o ∈ st.objs → o.tab.rest.length ≤ n ∧ o.tab.list.length ≤ n * (n + 1) ∧ o.vals.length ≤ n + 20
theorem HInv.nil : HInv hp0 := ⟨fun _ h => (by cases h), rfl⟩
theorem HSm.nil : HSm 0 hp0 := ⟨Nat.le_refl _, fun _ h => (by cases h)⟩
theorem HSm.mono {n m : Nat} {st : Hst} (h : HSm n st) (hnm : n ≤ m) : HSm m st := ⟨Nat.le_trans h.len hnm, fun o ho => by
  obtain ⟨a, b, c⟩ := h.obs o ho
  have : n * (n + 1) ≤ m * (m + 1) := Nat.mul_le_mul hnm (by omega)
  exact ⟨by omega, by omega, by omega⟩⟩
theorem get_mem {st : Hst} {id : Int} {o : Hob} (h : st.get id = some o) : some o ∈ st.objs ∧ 1 ≤ id ∧ id ≤ st.objs.length ∧ st.objs[id.toNat - 1]? = some (some o) := by
  unfold Hst.get at h
  split at h
  · rename_i h1
    cases hx : st.objs[id.toNat - 1]? with
    | none => rw [hx] at h; cases h
    | some x =>
      rw [hx] at h
      simp at h
      subst h
      have := (List.getElem?_eq_some_iff.1 hx).1
      exact ⟨List.mem_of_getElem? hx, h1, by omega, rfl⟩
  · cases h
theorem hfind_some {st : Hst} {v : Vl} {o : Hob} (h : hfind st v = some o) : st.get v.ref = some o ∧ o.kind = v.kind := by
  unfold hfind at h
  cases hg : st.get v.ref with
  | none => rw [hg] at h; cases h
  | some x =>
    rw [hg] at h
    simp only [Option.bind_some] at h
    split at h
    · injection h with e; subst e; exact ⟨rfl, by assumption⟩
    · cases h
theorem hfind_is {st : Hst} {v : Vl} {o : Hob} (h : st.get v.ref = some o) (hk : o.kind = v.kind) : hfind st v = some o := by unfold hfind; rw [h]; simp [hk]
theorem hfind_kind {st : Hst} {v : Vl} {o : Hob} (h : st.get v.ref = some o) (hk : o.kind ≠ v.kind) : hfind st v = none := by unfold hfind; rw [h]; simp [hk]
theorem hfind_none {st : Hst} {v : Vl} (h : st.get v.ref = none) : hfind st v = none := by unfold hfind; rw [h]; rfl
theorem htab_some {st : Hst} {v : Vl} {T : Tb} (h : htab st v = some T) : ∃ o, hfind st v = some o ∧ st.get v.ref = some o ∧ o.kind = 4 ∧ v.kind = 4 ∧ o.tab = T := by
  unfold htab at h
  cases hf : hfind st v with
  | none => rw [hf] at h; cases h
  | some o =>
    rw [hf] at h
    simp only [Option.bind_some] at h
    split at h
    · rename_i h4
      obtain ⟨a, b⟩ := hfind_some hf
      injection h with e
      exact ⟨o, rfl, a, h4, by omega, e⟩
    · cases h
theorem htab_is {st : Hst} {v : Vl} {o : Hob} (h : hfind st v = some o) (h4 : o.kind = 4) : htab st v = some o.tab := by unfold htab; rw [h]; simp [h4]
theorem htab_not {st : Hst} {v : Vl} {o : Hob} (h : hfind st v = some o) (h4 : o.kind ≠ 4) : htab st v = none := by unfold htab; rw [h]; simp [h4]
theorem htab_none {st : Hst} {v : Vl} (h : hfind st v = none) : htab st v = none := by unfold htab; rw [h]; rfl
theorem get_put {st : Hst} {id : Int} {o o' : Hob} (h : st.get id = some o) (id' : Int) : (st.put id o').get id' = if id' = id then some o' else st.get id' := by
  obtain ⟨_, h1, h2, h3⟩ := get_mem h
  unfold Hst.get Hst.put
  by_cases e : id' = id
  · subst e
    rw [if_pos h1, if_pos rfl, List.getElem?_set_self (by omega)]; rfl
  · rw [if_neg e]
    by_cases hp : 1 ≤ id'
    · rw [if_pos hp, if_pos hp, List.getElem?_set_ne (by omega)]
    · rw [if_neg hp, if_neg hp]
theorem mem_put {st : Hst} {id : Int} {o x : Hob} (h : some x ∈ (st.put id o).objs) : some x ∈ st.objs ∨ x = o := by
  rcases List.mem_or_eq_of_mem_set h with h | h
  · exact .inl h
  · exact .inr (Option.some.inj h)
theorem put_inv {st : Hst} (h : HInv st) {id : Int} {o : Hob} (ho : ObInv o) : HInv (st.put id o) := by
  refine ⟨fun x hx => ?_, ?_⟩
  · rcases mem_put hx with hx | rfl
    · exact h.obs x hx
    · exact ho
  · unfold Hst.put; simp only [List.length_set]; exact h.tch
theorem touch_inv {st : Hst} (h : HInv st) (id : Int) : HInv (st.touch id) := by
  refine ⟨h.obs, ?_⟩
  unfold Hst.touch; simp only [List.length_set]; exact h.tch
theorem hset_cases (st : Hst) (t k v : Vl) : (htab st t = none ∧ hset st t k v = st ∧ hsetE st t k v = 8) ∨ (∃ T, htab st t = some T ∧ okKey k = false ∧ hset st t k v = st ∧ hsetE st t k v = 13) ∨ (∃ T, htab st t = some T ∧ okKey k = true ∧ elemE v ≠ 0 ∧ hset st t k v = st ∧ hsetE st t k v = elemE v) ∨
    ∃ T o, htab st t = some T ∧ okKey k = true ∧ elemE v = 0 ∧ validB v = true ∧ st.get t.ref = some o ∧ o.kind = 4 ∧ t.kind = 4 ∧ o.tab = T ∧ hset st t k v = (st.put t.ref { o with tab := tset T k v }).touch t.ref ∧ hsetE st t k v = 0 := by
  unfold hset hsetE
  cases hT : htab st t with
  | none => exact .inl ⟨rfl, rfl, rfl⟩
  | some T =>
    simp only
    cases hk : okKey k with
    | false => exact .inr (.inl ⟨T, rfl, rfl, by simp, by simp⟩)
    | true =>
      by_cases he : elemE v = 0
      · obtain ⟨o, h1, h2, h3, h4, h5⟩ := htab_some hT
        refine .inr (.inr (.inr ⟨T, o, rfl, rfl, he, ?_, h2, h3, h4, h5, ?_, ?_⟩))
        · unfold elemE at he
          split at he
          · cases he
          · split at he
            · cases he
            · rename_i hv; simpa using hv
        · unfold Hst.setTab; rw [h2]; simp [he]
        · simp [he]
      · exact .inr (.inr (.inl ⟨T, rfl, rfl, he, by simp [he], by simp⟩))
theorem hset_inv {st : Hst} (h : HInv st) (t k v : Vl) : HInv (hset st t k v) := by
  rcases hset_cases st t k v with ⟨_, e, _⟩ | ⟨_, _, _, e, _⟩ | ⟨_, _, _, _, e, _⟩ | ⟨T, o, h1, h2, h3, hv, h4, h5, h6, h7, e, _⟩
  · rw [e]; exact h
  · rw [e]; exact h
  · rw [e]; exact h
  · rw [e]
    have ho := h.obs o (get_mem h4).1
    refine touch_inv (put_inv h (o := { o with tab := tset T k v }) ⟨ho.kind, ?_, ho.mt⟩) _
    rw [← h7]; exact tset_inv ho.tab k v
theorem hset_sm {n : Nat} {st : Hst} (hi : HInv st) (h : HSm n st) (t k v : Vl) : HSm (n + 1) (hset st t k v) := by
  rcases hset_cases st t k v with ⟨_, e, _⟩ | ⟨_, _, _, e, _⟩ | ⟨_, _, _, _, e, _⟩ | ⟨T, o, h1, h2, h3, hv, h4, h5, h6, h7, e, _⟩
  · rw [e]; exact h.mono (by omega)
  · rw [e]; exact h.mono (by omega)
  · rw [e]; exact h.mono (by omega)
  · rw [e]
    have hm := h.mono (Nat.le_succ n)
    have ho := h.obs o (get_mem h4).1
    have hl := tset_len (hi.obs o (get_mem h4).1).tab k v
    refine ⟨by show (st.objs.set _ _).length ≤ _; rw [List.length_set]; exact hm.len, fun x hx => ?_⟩
    rcases mem_put hx with hx | rfl
    · exact hm.obs x hx
    · have : (n + 1) * (n + 1 + 1) = n * (n + 1) + 2 * (n + 1) := by simp only [Nat.add_mul, Nat.mul_add]; omega
      rw [← h7]
      exact ⟨by show (tset o.tab k v).rest.length ≤ _; omega, by show (tset o.tab k v).list.length ≤ _; omega, by show o.vals.length ≤ _; omega⟩
theorem hmake_inv {st : Hst} (h : HInv st) {o : Hob} (ho : ObInv o) : HInv (hmake st o) := by
  unfold hmake
  split
  · exact h
  · refine ⟨fun x hx => ?_, by simp [h.tch]⟩
    rcases List.mem_append.1 hx with hx | hx
    · exact h.obs x hx
    · rw [List.mem_singleton] at hx; injection hx with hx; rw [hx]; exact ho
theorem hmake_sm {n : Nat} {st : Hst} (h : HSm n st) {o : Hob} (h1 : o.tab = noTb) (h2 : o.vals.length ≤ 20) : HSm (n + 1) (hmake st o) := by
  have hm := h.mono (Nat.le_succ n)
  unfold hmake
  split
  · exact hm
  · refine ⟨by simp; exact h.len, fun x hx => ?_⟩
    rcases List.mem_append.1 hx with hx | hx
    · exact hm.obs x hx
    · rw [List.mem_singleton] at hx; injection hx with hx; rw [hx, h1]
      exact ⟨Nat.zero_le _, Nat.zero_le _, by omega⟩
theorem newO_inv {kind : Int} (tag : Int) (name : ByteArray) (vals : List Vl) (hk : isRef kind = true) : ObInv (newO kind tag name vals) := ⟨hk, TInv.nil, fun _ _ => rfl⟩
theorem hsetMeta_cases (st : Hst) (v m : Vl) : (hsetMeta st v m = st ∧ hsetMetaE st v m = 8 ∧ hmetaOk st v m = false) ∨ ∃ o, st.get v.ref = some o ∧ o.kind = v.kind ∧ (o.kind = 4 ∨ o.kind = 8) ∧ hsetMeta st v m = (st.put v.ref { o with mt := m }).touch v.ref ∧ hsetMetaE st v m = 0 ∧ hmetaOk st v m = true := by
  unfold hsetMeta hsetMetaE
  cases hb : hmetaOk st v m with
  | false => exact .inl ⟨rfl, rfl, rfl⟩
  | true =>
    unfold hmetaOk at hb
    cases hf : hfind st v with
    | none => rw [hf] at hb; cases hb
    | some o =>
      rw [hf] at hb
      obtain ⟨h1, h2⟩ := hfind_some hf
      simp only [Bool.and_eq_true, Bool.or_eq_true, decide_eq_true_eq] at hb
      refine .inr ⟨o, h1, h2, hb.1, ?_, rfl, rfl⟩
      unfold Hst.setMt; rw [h1]; rfl
theorem hsetMeta_inv {st : Hst} (h : HInv st) (v m : Vl) : HInv (hsetMeta st v m) := by
  rcases hsetMeta_cases st v m with ⟨e, _⟩ | ⟨o, h1, _, h2, e, _⟩
  · rw [e]; exact h
  · rw [e]
    have ho := h.obs o (get_mem h1).1
    exact touch_inv (put_inv h (o := { o with mt := m }) ⟨ho.kind, ho.tab, fun a b => by rcases h2 with h | h <;> contradiction⟩) _
theorem hsetMeta_sm {n : Nat} {st : Hst} (h : HSm n st) (v m : Vl) : HSm (n + 1) (hsetMeta st v m) := by
  rcases hsetMeta_cases st v m with ⟨e, _⟩ | ⟨o, h1, _, h2, e, _⟩
  · rw [e]; exact h.mono (by omega)
  · rw [e]
    have hm := h.mono (Nat.le_succ n)
    refine ⟨by show (st.objs.set _ _).length ≤ _; rw [List.length_set]; exact hm.len, fun x hx => ?_⟩
    rcases mem_put hx with hx | rfl
    · exact hm.obs x hx
    · exact hm.obs o (get_mem h1).1
/-! ### Objects beside a map of their places -/
def ob0 : Hob := ⟨0, 0, ByteArray.empty, noTb, zVl, []⟩
def Hst.ob (st : Hst) (id : Int) : Hob := (st.get id).getD ob0
theorem ob_get {st : Hst} {id : Int} {o : Hob} (h : st.get id = some o) : st.ob id = o := by unfold Hst.ob; rw [h]; rfl
theorem get_end (st : Hst) : st.get ((st.objs.length : Int) + 1) = none := by
  unfold Hst.get
  rw [if_pos (by omega), show ((st.objs.length : Int) + 1).toNat - 1 = st.objs.length by omega, List.getElem?_eq_none (Nat.le_refl _)]; rfl
theorem get_snoc (st : Hst) (o : Hob) (tch : List Bool) (id : Int) : Hst.get ⟨st.objs ++ [some o], tch⟩ id = if id = (st.objs.length : Int) + 1 then some o else st.get id := by
  unfold Hst.get
  by_cases h : id = (st.objs.length : Int) + 1
  · subst h
    rw [if_pos rfl, if_pos (by omega)]
    show ((st.objs ++ [some o])[_]?).bind _ = _
    rw [show ((st.objs.length : Int) + 1).toNat - 1 = st.objs.length by omega, List.getElem?_append_right (Nat.le_refl _)]; simp
  · rw [if_neg h]
    by_cases hp : 1 ≤ id
    · rw [if_pos hp, if_pos hp]
      show ((st.objs ++ [some o])[_]?).bind _ = _
      by_cases hl : id.toNat - 1 < st.objs.length
      · rw [List.getElem?_append_left hl]
      · rw [List.getElem?_eq_none (by simp; omega), List.getElem?_eq_none (by omega)]
    · rw [if_neg hp, if_neg hp]
theorem count_snoc (st : Hst) (o : Hob) (tch : List Bool) : Hst.count ⟨st.objs ++ [some o], tch⟩ = st.count + 1 := by unfold Hst.count; simp
theorem countP_set {α : Type} {p : α → Bool} : ∀ (l : List α) {i : Nat} {x y : α}, l[i]? = some x → p x = p y → (l.set i y).countP p = l.countP p
  | [], _, _, _, h, _ => by cases h
  | a :: r, 0, x, y, h, e => by
    simp only [List.getElem?_cons_zero, Option.some.injEq] at h
    subst h; simp [List.countP_cons, e]
  | a :: r, i + 1, x, y, h, e => by
    simp only [List.getElem?_cons_succ] at h
    simp [List.countP_cons, countP_set r h e]
theorem count_put {st : Hst} {id : Int} {o o' : Hob} (h : st.get id = some o) : (st.put id o').count = st.count := by
  obtain ⟨_, h1, h2, h3⟩ := get_mem h
  exact countP_set _ h3 rfl
end Go.Proofs.YtplkkhpokodbmaaGreatDoor
end
section
set_option linter.unusedSimpArgs false
set_option linter.unusedVariables false
namespace Go.Proofs.YtplkkhpokodbmaaGreatDoor
open Go.S Go.J Go.Hp
open Go.Mem (aget aset adel apos aget_aset aget_adel)
/-- The map of objects: where each lies (its block, the block of its table). -/
structure HA (ps : List (Int × (Nat × Nat))) (st : Hst) : Prop where
  has : ∀ id, (aget ps id).isSome = (st.get id).isSome
  len : ps.length = st.count
def TA (tm : List (Int × Bool)) (st : Hst) : Prop := ∀ id o, st.get id = some o → (aget tm id).isSome = (st.tch[id.toNat - 1]?).getD false
abbrev ptrV (g : Nat) : Value := .pointer (some ⟨g, 0, none⟩)
def fndV (ps : List (Int × (Nat × Nat))) (st : Hst) (v : Vl) : Value := match hfind st v, aget ps v.ref with
  | some _, some q => ptrV q.1
  | _, _ => .pointer none
def tabV (q : Nat × Nat) (o : Hob) : Value := if o.kind = 4 then ptrV q.2 else .pointer none
def tbV (ps : List (Int × (Nat × Nat))) (st : Hst) (v : Vl) : Value := match hfind st v, aget ps v.ref with
  | some o, some q => tabV q o
  | _, _ => .pointer none
theorem get_cases {ps : List (Int × (Nat × Nat))} {st : Hst} (h : HA ps st) (id : Int) : (st.get id = none ∧ aget ps id = none) ∨ ∃ o q, st.get id = some o ∧ aget ps id = some q := by
  have := h.has id
  cases h1 : st.get id with
  | none => rw [h1] at this; exact .inl ⟨rfl, by cases h2 : aget ps id with | none => rfl | some q => rw [h2] at this; cases this⟩
  | some o => rw [h1] at this; exact .inr (by cases h2 : aget ps id with | none => rw [h2] at this; cases this | some q => exact ⟨o, q, rfl, rfl⟩)
theorem fnd_cases {ps : List (Int × (Nat × Nat))} {st : Hst} (h : HA ps st) (v : Vl) : (hfind st v = none ∧ htab st v = none ∧ fndV ps st v = .pointer none ∧ tbV ps st v = .pointer none) ∨ ∃ o q, hfind st v = some o ∧ st.get v.ref = some o ∧ o.kind = v.kind ∧ aget ps v.ref = some q ∧ fndV ps st v = ptrV q.1 ∧ tbV ps st v = tabV q o := by
  cases hf : hfind st v with
  | none => exact .inl ⟨rfl, htab_none hf, by unfold fndV; rw [hf], by unfold tbV; rw [hf]⟩
  | some o =>
    obtain ⟨h1, h2⟩ := hfind_some hf
    rcases get_cases h v.ref with ⟨h3, _⟩ | ⟨o', q, h3, h4⟩
    · rw [h1] at h3; cases h3
    · exact .inr ⟨o, q, rfl, h1, h2, h4, by unfold fndV; rw [hf, h4], by unfold tbV; rw [hf, h4]⟩
theorem tb_cases {ps : List (Int × (Nat × Nat))} {st : Hst} (h : HA ps st) (v : Vl) : (htab st v = none ∧ tbV ps st v = .pointer none) ∨ ∃ o q, htab st v = some o.tab ∧ st.get v.ref = some o ∧ o.kind = 4 ∧ v.kind = 4 ∧ aget ps v.ref = some q ∧ tbV ps st v = ptrV q.2 := by
  rcases fnd_cases h v with ⟨h1, h2, h3, h4⟩ | ⟨o, q, h1, h2, h3, h4, h5, h6⟩
  · exact .inl ⟨h2, h4⟩
  · by_cases hk : o.kind = 4
    · exact .inr ⟨o, q, htab_is h1 hk, h2, hk, by omega, h4, by rw [h6]; unfold tabV; rw [if_pos hk]⟩
    · exact .inl ⟨htab_not h1 hk, by rw [h6]; unfold tabV; rw [if_neg hk]⟩
theorem HA.nil : HA [] hp0 := ⟨fun id => by unfold Hst.get hp0; by_cases h : 1 ≤ id <;> simp [h, aget], rfl⟩
theorem TA.nil : TA [] hp0 := fun id o h => by
  have := (get_mem h).1
  cases this
theorem HA.put {ps : List (Int × (Nat × Nat))} {st : Hst} (h : HA ps st) {id : Int} {o o' : Hob} (hg : st.get id = some o) : HA ps (st.put id o') := by
  refine ⟨fun id' => ?_, by rw [h.len, count_put hg]⟩
  rw [h.has, get_put hg]
  by_cases e : id' = id
  · subst e; rw [hg, if_pos rfl]; rfl
  · rw [if_neg e]
theorem HA.touch {ps : List (Int × (Nat × Nat))} {st : Hst} (h : HA ps st) (id : Int) : HA ps (st.touch id) := ⟨h.has, h.len⟩
theorem TA.put {tm : List (Int × Bool)} {st : Hst} (h : TA tm st) {id : Int} {o o' : Hob} (hg : st.get id = some o) : TA tm (st.put id o') := fun id' x hx => by
  rw [get_put hg] at hx
  show _ = (st.tch[_]?).getD false
  by_cases e : id' = id
  · subst e; exact h id' o hg
  · rw [if_neg e] at hx; exact h id' x hx
theorem TA.touch {tm : List (Int × Bool)} {st : Hst} (h : TA tm st) (hi : HInv st) {id : Int} {o : Hob} (hg : st.get id = some o) : TA (aset tm id true) (st.touch id) := fun id' x hx => by
  obtain ⟨_, h1, h2, _⟩ := get_mem hg
  obtain ⟨_, h3, h4, _⟩ := get_mem (show st.get id' = some x from hx)
  have ht := hi.tch
  show _ = ((st.tch.set _ true)[_]?).getD false
  rw [aget_aset]
  by_cases e : id' = id
  · subst e; rw [if_pos rfl, List.getElem?_set_self (by omega)]; rfl
  · rw [if_neg e, List.getElem?_set_ne (by omega)]; exact h id' x hx
theorem HA.make {ps : List (Int × (Nat × Nat))} {st : Hst} (h : HA ps st) (o : Hob) (q : Nat × Nat) (hf : st.count < 65536) : HA (aset ps ((st.objs.length : Int) + 1) q) (hmake st o) := by
  unfold hmake
  rw [if_neg (by omega)]
  have hnone : aget ps ((st.objs.length : Int) + 1) = none := by
    have := h.has ((st.objs.length : Int) + 1)
    rw [get_end] at this
    cases hx : aget ps ((st.objs.length : Int) + 1) with
    | none => rfl
    | some q => rw [hx] at this; cases this
  refine ⟨fun id => ?_, ?_⟩
  · rw [aget_aset, get_snoc]
    by_cases e : id = (st.objs.length : Int) + 1
    · rw [if_pos e, if_pos e]; rfl
    · rw [if_neg e, if_neg e]; exact h.has id
  · rw [count_snoc, ← h.len]
    have : apos ps ((st.objs.length : Int) + 1) = none := by
      cases hp : apos ps ((st.objs.length : Int) + 1) with
      | none => rfl
      | some i => obtain ⟨_, y, _, h2⟩ := Go.Mem.apos_lt hp; rw [hnone] at h2; cases h2
    rw [Go.Mem.aset_new this]; simp
theorem TA.make {tm : List (Int × Bool)} {st : Hst} (h : TA tm st) (hi : HInv st) (o : Hob) (hf : st.count < 65536) : TA (aset tm ((st.objs.length : Int) + 1) true) (hmake st o) := fun id x hx => by
  unfold hmake at hx ⊢
  rw [if_neg (by omega)] at hx ⊢
  rw [get_snoc] at hx
  have ht := hi.tch
  show _ = ((st.tch ++ [true])[_]?).getD false
  rw [aget_aset]
  by_cases e : id = (st.objs.length : Int) + 1
  · rw [if_pos e, e, show ((st.objs.length : Int) + 1).toNat - 1 = st.objs.length by omega, List.getElem?_append_right (by omega)]; simp [ht]
  · rw [if_neg e] at hx ⊢
    obtain ⟨_, h1, h2, _⟩ := get_mem hx
    rw [List.getElem?_append_left (by omega)]; exact h id x hx
end Go.Proofs.YtplkkhpokodbmaaGreatDoor
end
section
set_option linter.unusedSimpArgs false
set_option linter.unusedVariables false
set_option maxRecDepth 100000
set_option maxHeartbeats 2000000
namespace Go.Proofs.YtplkkhpokodbmaaGreatDoor
open Go.Hp Go.J Go.S
open Go.Mem (Ty KTy blk elemAt pre suf blk_pre blk_suf aget aset strK aggDesc)
open Go.Mem (adel apos aget_aset aget_adel)
abbrev oV (q : Nat × Nat) : Value := ptrV q.1
abbrev bV (b : Bool) : Value := .bool b
abbrev iK : KTy Int := Go.Mem.intK 3
/-- The table of an object, if it is one. -/
def tabO (q : Nat × Nat) (o : Hob) : Asr := star (if o.kind = 4 then [tbA q.2 o.tab.list o.tab.rest] else [])
/-- An object in memory. -/
def obP (q : Nat × Nat) (o : Hob) : Asr := exA fun v => stA True [blkA q.1 #[.int .i64 o.kind, .int .i64 o.tag, .string o.name, tabV q o, .int .i64 o.mt.kind, .int .i64 o.mt.p, .int .i64 o.mt.q, .string o.mt.str, .int .i64 o.mt.ref, v] 96, own VlT v o.vals, tabO q o]
def allP (ps : List (Int × (Nat × Nat))) (st : Hst) : Asr := star (ps.map fun p => obP p.2 (st.ob p.1))
def holeP (ps : List (Int × (Nat × Nat))) (st : Hst) (id : Int) : Asr := star ((adel ps id).map fun p => obP p.2 (st.ob p.1))
/-- A heap in memory, with the places of its objects. -/
def hpP (b : Nat) (st : Hst) (ps : List (Int × (Nat × Nat))) : Asr := exA fun mb => exA fun tb => exA fun tm => stA (HInv st ∧ HA ps st ∧ TA tm st) [blkA b #[.map (some mb), .int .i64 (st.objs.length : Int), .map (some tb)] 90, mpA iK oV mb ps, mpA iK bV tb tm, allP ps st]
def hpA (b : Nat) (st : Hst) : Asr := exA fun ps => hpP b st ps
section
variable {Z : Zone} {F : List Asr} {H : Heap} {b : Nat} {st : Hst} {ps : List (Int × (Nat × Nat))} {id : Int} {q : Nat × Nat} {o o' : Hob}
theorem ob_open (h : Holds Z (obP q o :: F) H) : ∃ v, True ∧ Holds Z (blkA q.1 #[.int .i64 o.kind, .int .i64 o.tag, .string o.name, tabV q o, .int .i64 o.mt.kind, .int .i64 o.mt.p, .int .i64 o.mt.q, .string o.mt.str, .int .i64 o.mt.ref, v] 96 :: own VlT v o.vals :: tabO q o :: F) H := by
  obtain ⟨v, h⟩ := h.open_ex
  exact ⟨v, h.open_st⟩
theorem ob_shut {v : Value} (h : Holds Z (blkA q.1 #[.int .i64 o.kind, .int .i64 o.tag, .string o.name, tabV q o, .int .i64 o.mt.kind, .int .i64 o.mt.p, .int .i64 o.mt.q, .string o.mt.str, .int .i64 o.mt.ref, v] 96 :: own VlT v o.vals :: tabO q o :: F) H) : Holds Z (obP q o :: F) H := Holds.shut_ex v (Holds.shut_st trivial h)
theorem tabO_open (h4 : o.kind = 4) (h : Holds Z (tabO q o :: F) H) : Holds Z (tbA q.2 o.tab.list o.tab.rest :: F) H := by
  unfold tabO at h
  rw [if_pos h4] at h
  exact h.star_out
theorem tabO_shut {T : Tb} (h4 : o.kind = 4) (h : Holds Z (tbA q.2 T.list T.rest :: F) H) : Holds Z (tabO q { o with tab := T } :: F) H := by
  unfold tabO
  rw [if_pos h4]
  exact Holds.star_in (L := [_]) h
theorem all_focus (hq : aget ps id = some q) (ho : st.get id = some o) (h : Holds Z (allP ps st :: F) H) : ∃ v, True ∧ Holds Z (blkA q.1 #[.int .i64 o.kind, .int .i64 o.tag, .string o.name, tabV q o, .int .i64 o.mt.kind, .int .i64 o.mt.p, .int .i64 o.mt.q, .string o.mt.str, .int .i64 o.mt.ref, v] 96 :: own VlT v o.vals :: tabO q o :: holeP ps st id :: F) H := by
  obtain ⟨i, hp⟩ : ∃ i, apos ps id = some i := by
    cases hp : apos ps id with
    | none => rw [Go.Mem.apos_none hp] at hq; cases hq
    | some i => exact ⟨i, rfl⟩
  obtain ⟨hi, y, hy, hq'⟩ := Go.Mem.apos_lt hp
  rw [hq] at hq'; cases hq'
  have h1 : Holds Z (obP q (st.ob id) :: star ((ps.eraseIdx i).map fun p => obP p.2 (st.ob p.1)) :: F) H := h.star_get hy
  unfold holeP
  rw [Go.Mem.adel_pos hp]
  rw [ob_get ho] at h1
  exact ob_open h1
theorem put_same (ho : st.get id = some o) : st.put id o = st := by
  obtain ⟨_, h1, h2, h3⟩ := get_mem ho
  unfold Hst.put
  rw [set_same h3]
theorem all_unfocus (hnd : (ps.map Prod.fst).Nodup) (hq : aget ps id = some q) (ho : st.get id = some o) (h : Holds Z (obP q o' :: holeP ps st id :: F) H) : Holds Z (allP ps (st.put id o') :: F) H := by
  obtain ⟨i, hp⟩ : ∃ i, apos ps id = some i := by
    cases hp : apos ps id with
    | none => rw [Go.Mem.apos_none hp] at hq; cases hq
    | some i => exact ⟨i, rfl⟩
  obtain ⟨hi, y, hy, hq'⟩ := Go.Mem.apos_lt hp
  rw [hq] at hq'; cases hq'
  unfold holeP at h
  rw [Go.Mem.adel_pos hp] at h
  refine Holds.star_set (f := fun p : Int × (Nat × Nat) => obP p.2 (st.ob p.1)) (g := fun p => obP p.2 ((st.put id o').ob p.1)) hy (fun j p hj hp' => ?_) ?_
  · show obP p.2 _ = obP p.2 _
    have hne : p.1 ≠ id := fun e => hj (by
      obtain ⟨hj1, e1⟩ := List.getElem?_eq_some_iff.1 hp'
      refine (List.getElem_inj (h₀ := by rw [List.length_map]; exact hj1) (h₁ := by rw [List.length_map]; exact hi) hnd).1 ?_
      simp only [List.getElem_map]
      rw [e1, (List.getElem?_eq_some_iff.1 hy).2]; exact e)
    unfold Hst.ob
    rw [get_put ho, if_neg hne]
  · have e : (st.put id o').ob id = o' := by unfold Hst.ob; rw [get_put ho, if_pos rfl]; rfl
    show Holds Z (obP q ((st.put id o').ob id) :: _ :: F) H
    rw [e]; exact h
theorem hp_open (h : Holds Z (hpP b st ps :: F) H) : ∃ (mb tb : Nat) (tm : List (Int × Bool)), (HInv st ∧ HA ps st ∧ TA tm st) ∧ Holds Z (blkA b #[.map (some mb), .int .i64 (st.objs.length : Int), .map (some tb)] 90 :: mpA iK oV mb ps :: mpA iK bV tb tm :: allP ps st :: F) H := by
  obtain ⟨mb, h⟩ := h.open_ex
  obtain ⟨tb, h⟩ := h.open_ex
  obtain ⟨tm, h⟩ := h.open_ex
  exact ⟨mb, tb, tm, h.open_st⟩
theorem hp_shut {mb tb : Nat} {tm : List (Int × Bool)} {n : Int} (hp : (HInv st ∧ HA ps st ∧ TA tm st) ∧ n = (st.objs.length : Int)) (h : Holds Z (blkA b #[.map (some mb), .int .i64 n, .map (some tb)] 90 :: mpA iK oV mb ps :: mpA iK bV tb tm :: allP ps st :: F) H) : Holds Z (hpP b st ps :: F) H := by
  obtain ⟨h1, rfl⟩ := hp
  exact Holds.shut_ex mb (Holds.shut_ex tb (Holds.shut_ex tm (Holds.shut_st h1 h)))
theorem hp_facts (h : Holds Z (hpP b st ps :: F) H) : HInv st ∧ HA ps st := by
  obtain ⟨_, _, _, h, _⟩ := hp_open h; exact ⟨h.1, h.2.1⟩
theorem hpA_open (h : Holds Z (hpA b st :: F) H) : ∃ ps, True ∧ Holds Z (hpP b st ps :: F) H := by
  obtain ⟨ps, h⟩ := h.open_ex; exact ⟨ps, trivial, h⟩
theorem hpA_shut (h : Holds Z (hpP b st ps :: F) H) : Holds Z (hpA b st :: F) H := Holds.shut_ex ps h
theorem put_len : (st.put id o').objs.length = st.objs.length := by unfold Hst.put; simp
/-- A heap of which a table is taken out. -/
def tholeP (b : Nat) (st : Hst) (ps : List (Int × (Nat × Nat))) (id : Int) (q : Nat × Nat) (o : Hob) : Asr := exA fun mb => exA fun tb => exA fun tm => exA fun v => stA (HInv st ∧ HA ps st ∧ TA tm st) [blkA b #[.map (some mb), .int .i64 (st.objs.length : Int), .map (some tb)] 90, mpA iK oV mb ps, mpA iK bV tb tm, blkA q.1 #[.int .i64 o.kind, .int .i64 o.tag, .string o.name, tabV q o, .int .i64 o.mt.kind, .int .i64 o.mt.p, .int .i64 o.mt.q, .string o.mt.str, .int .i64 o.mt.ref, v] 96, own VlT v o.vals, holeP ps st id]
theorem tab_out (hq : aget ps id = some q) (ho : st.get id = some o) (h4 : o.kind = 4) (h : Holds Z (hpP b st ps :: F) H) : Holds Z (tbA q.2 o.tab.list o.tab.rest :: tholeP b st ps id q o :: F) H := by
  obtain ⟨mb, tb, tm, hf, h⟩ := hp_open h
  obtain ⟨v, _, h⟩ := all_focus hq ho (h.re [3] [] : Holds Z (allP ps st :: _ :: _ :: _ :: F) H)
  have h1 := tabO_open h4 (h.re [2] [] : Holds Z (tabO q o :: _ :: _ :: _ :: _ :: _ :: _ :: F) H)
  refine Holds.swap (Holds.shut_ex mb (Holds.shut_ex tb (Holds.shut_ex tm (Holds.shut_ex v (Holds.shut_st hf ?_)))))
  exact h1.re [4, 4, 4, 1, 1, 1] []
theorem tab_in {T : Tb} (hq : aget ps id = some q) (ho : st.get id = some o) (h4 : o.kind = 4) (hT : TInv T) (h : Holds Z (tbA q.2 T.list T.rest :: tholeP b st ps id q o :: F) H) : Holds Z (hpP b (st.put id { o with tab := T }) ps :: F) H := by
  obtain ⟨mb, h⟩ := h.swap.open_ex
  obtain ⟨tb, h⟩ := h.open_ex
  obtain ⟨tm, h⟩ := h.open_ex
  obtain ⟨v, h⟩ := h.open_ex
  obtain ⟨hf, h⟩ := h.open_st
  have hnd := (h.mp (i := 1) rfl).nodup
  have h1 := tabO_shut (o := o) h4 (h.re [6] [] : Holds Z (tbA q.2 T.list T.rest :: _ :: _ :: _ :: _ :: _ :: _ :: F) H)
  have e : tabV q { o with tab := T } = tabV q o := rfl
  have h2 : Holds Z (obP q { o with tab := T } :: holeP ps st id :: _ :: _ :: _ :: F) H := ob_shut (o := { o with tab := T }) (by rw [e]; exact h1.re [4, 4, 0, 3] [])
  have h3 := all_unfocus hnd hq ho h2
  have hi : ObInv o := hf.1.obs o (get_mem ho).1
  exact hp_shut ⟨⟨put_inv hf.1 ⟨hi.kind, hT, hi.mt⟩, hf.2.1.put ho, hf.2.2.put ho⟩, by rw [put_len]⟩ (h3.re [1, 1, 1, 0] [])
theorem tab_back (hq : aget ps id = some q) (ho : st.get id = some o) (h4 : o.kind = 4) (h : Holds Z (tbA q.2 o.tab.list o.tab.rest :: tholeP b st ps id q o :: F) H) : Holds Z (hpP b st ps :: F) H := by
  have hi : HInv st := by
    obtain ⟨_, h⟩ := h.swap.open_ex
    obtain ⟨_, h⟩ := h.open_ex
    obtain ⟨_, h⟩ := h.open_ex
    obtain ⟨_, h⟩ := h.open_ex
    exact h.open_st.1.1
  have := tab_in hq ho h4 (hi.obs o (get_mem ho).1).tab h
  rwa [show st.put id { o with tab := o.tab } = st from put_same ho] at this
end
theorem hfind_s {Z : Zone} {F : List Asr} {b : Nat} {st : Hst} {ps : List (Int × (Nat × Nat))} (v : Vl) : SF Tryz.prog 78 #[.pointer (some ⟨b, 0, none⟩), v.v] Z (hpP b st ps :: F) fun r Bs => r = fndV ps st v ∧ Bs = hpP b st ps :: F := by
 refine sf_enter Tryz.func78 27 [(0, pB b 0), (1, .agg #[.int .i64 v.kind, .int .i64 v.p, .int .i64 v.q, .string v.str, .int .i64 v.ref])] (fun w0 => ?_)
 refine k_mem3 (fun H h => hp_open (h.re [0] [])) (fun mb1 tb2 tm3 hw => ?_)
 obtain ⟨hi4, ha5, ht6⟩ := hw
 refine k_sr ?_
 refine s_box #[.int .i64 v.kind, .int .i64 v.p, .int .i64 v.q, .string v.str, .int .i64 v.ref] (fun g7 => ?_)
 refine sp (.pointer none) ?_
 refine s_nt ?_
 refine k_seq ?_
 refine k_sr ?_
 refine sp (pB b 0) ?_
 refine sp (.bool false) ?_
 refine s_nt ?_
 refine k_false ?_
 refine k_st ?_
 refine k_seq ?_
 refine k_draw ?_
 refine sp (pB b 0) ?_
 refine sp (pB b 0) ?_
 refine sp (pB b 0) ?_
 refine s_lt (t_load 1 (.map (some mb1))) ?_
 refine sp (pB g7 4) ?_
 refine s_lt (t_load 0 (.int .i64 v.ref)) ?_
 rcases get_cases ha5 v.ref with ⟨hg8, hq9⟩ | ⟨o10, q11, ho12, hq13⟩
 ·
  refine s_lt (Lt.to (v' := .pointer none) (t_lookup 2 intOk Tryz.underlying87 (.pointer none) v.ref) (by rw [hq9]; rfl)) ?_
  refine sp (.pointer none) ?_
  refine s_nil ?_
  refine x_dynS (fun _ h => by kernel_rfl) ?_
  refine xs_then ?_
  refine k_seq ?_
  refine k_seq ?_
  refine k_draw ?_
  refine sp (.pointer none) ?_
  refine sp (.bool true) ?_
  refine sp (.bool true) ?_
  refine s_skip ?_
  refine s_skip ?_
  refine s_skip ?_
  refine s_skip ?_
  refine s_skip ?_
  refine s_skip ?_
  refine s_skip ?_
  refine sp (.bool true) ?_
  refine s_nil ?_
  refine x_dynS (fun _ h => by kernel_rfl) ?_
  refine xs_then ?_
  refine k_true ?_
  refine k_sr ?_
  refine sp (.pointer none) ?_
  refine s_nt ?_
  refine k_ret ?_
  refine xs_ret ?_
  refine xs_mem (fun _ h => hp_shut (st := st) (n := (st.objs.length : Int)) ⟨⟨hi4, ha5, ht6⟩, rfl⟩ (h.re [1, 1, 1, 1] [])) ?_
  refine xs_fin [.pointer none] (hpP b st ps :: F) (SI.tmp 4 SI.nil) (fun _ h => h.re [0] [1]) ⟨?_, rfl⟩
  show Value.pointer none = fndV ps st v; unfold fndV; rw [hfind_none hg8]
 ·
  refine s_lt (Lt.to (v' := ptrV q11.1) (t_lookup 2 intOk Tryz.underlying87 (.pointer none) v.ref) (by rw [hq13]; rfl)) ?_
  refine sp (pB q11.1 0) ?_
  refine s_nil ?_
  refine x_dynS (fun _ h => by kernel_rfl) ?_
  refine xs_then ?_
  refine k_seq ?_
  refine k_seq ?_
  refine k_draw ?_
  refine sp (pB q11.1 0) ?_
  refine sp (.bool false) ?_
  refine sp (.bool false) ?_
  refine sp (pB q11.1 0) ?_
  refine sp (pB q11.1 0) ?_
  refine sp (pB q11.1 0) ?_
  refine s_memX (fun H h => all_focus hq13 ho12 (h.re [4] [])) (fun v14 _ => ?_)
  refine s_lt (t_load 0 (.int .i64 o10.kind)) ?_
  refine sp (pB g7 0) ?_
  refine s_lt (t_load 4 (.int .i64 v.kind)) ?_
  refine s_lt t_cmp ?_
  refine sp (.bool (decide (o10.kind ≠ v.kind))) ?_
  refine s_nil ?_
  refine x_dynS (fun _ h => by kernel_rfl) ?_
  refine xs_then ?_
  refine k_cond (decide (o10.kind ≠ v.kind)) (fun c15 => ?_) (fun c15 => ?_)
  ·
   have p16 := of_decide_eq_true c15
   refine k_sr ?_
   refine sp (.pointer none) ?_
   refine s_nt ?_
   refine k_ret ?_
   refine xs_ret ?_
   refine xs_fact (fun H h => (h.mp (i := 6) rfl).nodup) (fun hnd17 => ?_)
   refine xs_mem (fun _ h => (put_same ho12) ▸ all_unfocus (o' := o10) hnd17 hq13 ho12 (ob_shut (o := o10) (h.re [0, 0, 0, 0] []))) ?_
   refine xs_mem (Bs := allP ps st :: blkA g7 #[.int .i64 v.kind, .int .i64 v.p, .int .i64 v.q, .string v.str, .int .i64 v.ref] 26 :: blkA b #[.map (some mb1), .int .i64 (st.objs.length : Int), .map (some tb2)] 90 :: mpA iK oV mb1 ps :: mpA iK bV tb2 tm3 :: F) (fun _ h => h) ?_
   refine xs_mem (fun _ h => hp_shut (st := st) (n := (st.objs.length : Int)) ⟨⟨hi4, ha5, ht6⟩, rfl⟩ (h.re [2, 2, 2, 0] [])) ?_
   refine xs_fin [.pointer none] (hpP b st ps :: F) (SI.tmp 4 SI.nil) (fun _ h => h.re [0] [1]) ⟨?_, rfl⟩
   show Value.pointer none = fndV ps st v; unfold fndV; rw [hfind_kind ho12 (by omega)]
  ·
   have p18 := Decidable.not_not.1 (of_decide_eq_false c15)
   refine k_st ?_
   refine k_sr ?_
   refine sp (pB q11.1 0) ?_
   refine sp (pB q11.1 0) ?_
   refine s_nt ?_
   refine k_ret ?_
   refine xs_fact (fun H h => (h.mp (i := 6) rfl).nodup) (fun hnd19 => ?_)
   refine xs_mem (fun _ h => (put_same ho12) ▸ all_unfocus (o' := o10) hnd19 hq13 ho12 (ob_shut (o := o10) (h.re [0, 0, 0, 0] []))) ?_
   refine xs_mem (Bs := allP ps st :: blkA g7 #[.int .i64 v.kind, .int .i64 v.p, .int .i64 v.q, .string v.str, .int .i64 v.ref] 26 :: blkA b #[.map (some mb1), .int .i64 (st.objs.length : Int), .map (some tb2)] 90 :: mpA iK oV mb1 ps :: mpA iK bV tb2 tm3 :: F) (fun _ h => h) ?_
   refine xs_mem (fun _ h => hp_shut (st := st) (n := (st.objs.length : Int)) ⟨⟨hi4, ha5, ht6⟩, rfl⟩ (h.re [2, 2, 2, 0] [])) ?_
   refine xs_fin [pB q11.1 0] (hpP b st ps :: F) (SI.tmp 4 SI.nil) (fun _ h => h.re [0] [1]) ⟨?_, rfl⟩
   show ptrV _ = fndV ps st v; unfold fndV; rw [hfind_is ho12 (by omega), hq13]
theorem htab_s {Z : Zone} {F : List Asr} {b : Nat} {st : Hst} {ps : List (Int × (Nat × Nat))} (v : Vl) : SF Tryz.prog 72 #[.pointer (some ⟨b, 0, none⟩), v.v] Z (hpP b st ps :: F) fun r Bs => r = tbV ps st v ∧ Bs = hpP b st ps :: F := by
 refine sf_enter Tryz.func72 15 [(0, pB b 0), (1, .agg #[.int .i64 v.kind, .int .i64 v.p, .int .i64 v.q, .string v.str, .int .i64 v.ref])] (fun w0 => ?_)
 refine k_fact (fun H h => hp_facts (h.re [0] [])) (fun hf1 => ?_)
 obtain ⟨hi2, ha3⟩ := hf1
 refine k_sr ?_
 refine s_box #[.int .i64 v.kind, .int .i64 v.p, .int .i64 v.q, .string v.str, .int .i64 v.ref] (fun g4 => ?_)
 refine sp (.pointer none) ?_
 refine s_nr ?_
 refine sp (pB b 0) ?_
 refine s_lt (t_loadA 0 #[.int .i64 v.kind, .int .i64 v.p, .int .i64 v.q, .string v.str, .int .i64 v.ref]) ?_
 refine s_call [1] (hfind_s (st := st) (ps := ps) v) ?_
 rintro u5 _ ⟨e6, rfl⟩
 rcases fnd_cases ha3 v with ⟨hf7, ht8, hv9, hv10⟩ | ⟨o11, q12, hf13, ho14, hk15, hq16, hv17, hv18⟩
 ·
  rw [hv9] at e6; subst e6
  refine sp (.pointer none) ?_
  refine s_nt ?_
  refine k_seq ?_
  refine k_sr ?_
  refine sp (.pointer none) ?_
  refine sp (.bool true) ?_
  refine s_nt ?_
  refine k_true ?_
  refine k_sr ?_
  refine sp (.pointer none) ?_
  refine s_nt ?_
  refine k_ret ?_
  refine xs_ret ?_
  refine xs_fin [.pointer none] (hpP b st ps :: F) (SI.tmp 4 SI.nil) (fun _ h => h.re [0] [1]) ⟨?_, rfl⟩
  exact (hv10).symm
 ·
  rw [hv17] at e6; subst e6
  refine sp (pB q12.1 0) ?_
  refine s_nt ?_
  refine k_seq ?_
  refine k_sr ?_
  refine sp (pB q12.1 0) ?_
  refine sp (.bool false) ?_
  refine s_nt ?_
  refine k_false ?_
  refine k_st ?_
  refine k_sr ?_
  refine sp (pB q12.1 0) ?_
  refine sp (pB q12.1 0) ?_
  refine sp (pB q12.1 3) ?_
  refine s_mem3 (fun H h => hp_open (h.re [0] [])) (fun mb19 tb20 tm21 hw => ?_)
  obtain ⟨hi22, ha23, ht24⟩ := hw
  refine s_memX (fun H h => all_focus hq16 ho14 (h.re [3] [])) (fun v25 _ => ?_)
  refine s_lt (t_load 0 (tabV q12 o11)) ?_
  refine sp (tabV q12 o11) ?_
  refine s_nt ?_
  refine k_ret ?_
  refine xs_fact (fun H h => (h.mp (i := 5) rfl).nodup) (fun hnd26 => ?_)
  refine xs_mem (fun _ h => (put_same ho14) ▸ all_unfocus (o' := o11) hnd26 hq16 ho14 (ob_shut (o := o11) (h.re [0, 0, 0, 0] []))) ?_
  refine xs_mem (Bs := allP ps st :: blkA b #[.map (some mb19), .int .i64 (st.objs.length : Int), .map (some tb20)] 90 :: mpA iK oV mb19 ps :: mpA iK bV tb20 tm21 :: blkA g4 #[.int .i64 v.kind, .int .i64 v.p, .int .i64 v.q, .string v.str, .int .i64 v.ref] 26 :: F) (fun _ h => h) ?_
  refine xs_mem (fun _ h => hp_shut (st := st) (n := (st.objs.length : Int)) ⟨⟨hi22, ha23, ht24⟩, rfl⟩ (h.re [1, 1, 1, 0] [])) ?_
  refine xs_fin [(tabV q12 o11)] (hpP b st ps :: F) (SI.tmp 4 SI.nil) (fun _ h => h.re [0] [1]) ⟨?_, rfl⟩
  unfold tbV; rw [hf13, hq16]; rfl
theorem hmiss_s {Z : Zone} {F : List Asr} {b : Nat} : SF Tryz.prog 73 #[.pointer (some ⟨b, 0, none⟩)] Z F fun r Bs => r = .int .i64 8 ∧ Bs = F := by
 refine sf_enter Tryz.func73 5 [(0, pB b 0)] (fun w0 => ?_)
 refine k_sr ?_
 refine sp (.int .i64 0) ?_
 refine s_nt ?_
 refine k_seq ?_
 refine k_sr ?_
 refine sp (pB b 0) ?_
 refine sp (.bool false) ?_
 refine s_nt ?_
 refine k_false ?_
 refine k_st ?_
 refine k_sr ?_
 refine sp (.int .i64 8) ?_
 refine s_nt ?_
 refine k_ret ?_
 exact xs_fin [.int .i64 8] F (SI.tmp 2 SI.nil) (fun _ h => h) ⟨rfl, rfl⟩
theorem hmiss0_s {Z : Zone} : SF Tryz.prog 73 #[.pointer none] Z [] fun r Bs => r = .int .i64 1 ∧ Bs = [] := by
 refine sf_enter Tryz.func73 5 [(0, .pointer none)] (fun w0 => ?_)
 refine k_sr ?_
 refine sp (.int .i64 0) ?_
 refine s_nt ?_
 refine k_seq ?_
 refine k_sr ?_
 refine sp (.pointer none) ?_
 refine sp (.bool true) ?_
 refine s_nt ?_
 refine k_true ?_
 refine k_sr ?_
 refine sp (.int .i64 1) ?_
 refine s_nt ?_
 refine k_ret ?_
 refine xs_ret ?_
 exact xs_fin [.int .i64 1] [] (SI.tmp 2 SI.nil) (fun _ h => h) ⟨rfl, rfl⟩
theorem htouch_s {Z : Zone} {F : List Asr} {b : Nat} {st : Hst} {ps : List (Int × (Nat × Nat))} (v : Vl) {o : Hob} (hg : st.get v.ref = some o) (e : Int) : SF Tryz.prog 76 #[.pointer (some ⟨b, 0, none⟩), v.v, .int .i64 e] Z (hpP b st ps :: F) fun r Bs => r = .int .i64 e ∧ Bs = (if e = 0 then hpP b (st.touch v.ref) ps else hpP b st ps) :: F := by
 refine sf_enter Tryz.func76 16 [(0, pB b 0), (1, .agg #[.int .i64 v.kind, .int .i64 v.p, .int .i64 v.q, .string v.str, .int .i64 v.ref]), (2, .int .i64 e)] (fun w0 => ?_)
 refine k_sr ?_
 refine s_box #[.int .i64 v.kind, .int .i64 v.p, .int .i64 v.q, .string v.str, .int .i64 v.ref] (fun g1 => ?_)
 refine sp (.int .i64 0) ?_
 refine s_nt ?_
 refine k_seq ?_
 refine k_sr ?_
 refine sp (.int .i64 e) ?_
 refine s_lt t_cmp ?_
 refine s_nt ?_
 refine k_cond (decide (e = 0)) (fun c2 => ?_) (fun c2 => ?_)
 ·
  have p3 := of_decide_eq_true c2
  refine k_draw ?_
  refine sp (pB b 0) ?_
  refine sp (pB b 0) ?_
  refine sp (pB b 2) ?_
  refine s_mem3 (fun H h => hp_open (h.re [1] [])) (fun mb4 tb5 tm6 hw => ?_)
  obtain ⟨hi7, ha8, ht9⟩ := hw
  refine s_lt (t_load 0 (.map (some tb5))) ?_
  refine sp (pB g1 4) ?_
  refine s_lt (t_load 4 (.int .i64 v.ref)) ?_
  refine s_update 2 intOk Tryz.underlying88 v.ref true ?_
  refine s_nil ?_
  refine x_dynS (fun _ h => by kernel_rfl) ?_
  refine xs_then ?_
  refine k_sr ?_
  refine sp (.int .i64 e) ?_
  refine sp (.int .i64 e) ?_
  refine s_nt ?_
  refine k_ret ?_
  refine xs_mem (Bs := blkA b #[.map (some mb4), .int .i64 (st.objs.length : Int), .map (some tb5)] 90 :: mpA iK oV mb4 ps :: mpA iK bV tb5 (aset tm6 v.ref true) :: allP ps (st.touch v.ref) :: blkA g1 #[.int .i64 v.kind, .int .i64 v.p, .int .i64 v.q, .string v.str, .int .i64 v.ref] 26 :: F) (fun _ h => h) ?_
  refine xs_mem (fun _ h => hp_shut (st := (st.touch v.ref)) (n := (st.objs.length : Int)) ⟨⟨touch_inv hi7 v.ref, HA.touch ha8 v.ref, TA.touch ht9 hi7 hg⟩, rfl⟩ (h.re [0, 0, 0, 0] [])) ?_
  rw [if_pos (of_decide_eq_true c2)]
  exact xs_fin [.int .i64 e] (hpP b (st.touch v.ref) ps :: F) (SI.tmp 6 SI.nil) (fun _ h => h.re [0] [1]) ⟨rfl, rfl⟩
 ·
  have p10 := of_decide_eq_false c2
  refine k_st ?_
  refine k_sr ?_
  refine sp (.int .i64 e) ?_
  refine sp (.int .i64 e) ?_
  refine s_nt ?_
  refine k_ret ?_
  rw [if_neg (of_decide_eq_false c2)]
  exact xs_fin [.int .i64 e] (hpP b st ps :: F) (SI.tmp 6 SI.nil) (fun _ h => h.re [1] [1]) ⟨rfl, rfl⟩
theorem helem_s {Z : Zone} (v : Vl) : SF Tryz.prog 75 #[v.v] Z [] fun r Bs => r = .int .i64 (elemE v) ∧ Bs = [] := by
 refine sf_enter Tryz.func75 17 [(0, .agg #[.int .i64 v.kind, .int .i64 v.p, .int .i64 v.q, .string v.str, .int .i64 v.ref])] (fun w0 => ?_)
 refine k_sr ?_
 refine s_box #[.int .i64 v.kind, .int .i64 v.p, .int .i64 v.q, .string v.str, .int .i64 v.ref] (fun g1 => ?_)
 refine sp (.int .i64 0) ?_
 refine s_nt ?_
 refine k_seq ?_
 refine k_block ?_
 refine k_sr ?_
 refine sp (pB g1 0) ?_
 refine s_lt (t_load 0 (.int .i64 v.kind)) ?_
 refine s_lt t_cmp ?_
 refine sp (.bool (decide (v.kind = 3))) ?_
 refine s_fork 7 (decide (v.kind = 3)) (fun c2 => ?_) (fun c2 => ?_)
 ·
  have p3 := of_decide_eq_true c2
  refine sp (pB g1 3) ?_
  refine s_lt (t_load 0 (.string v.str)) ?_
  refine s_lt (t_kern (.int .i64 (v.str.size : Int))) ?_
  refine s_lt t_cmp ?_
  refine sp (.bool (decide ((4096 : Int) < (v.str.size : Int)))) ?_
  refine sp (.bool (decide ((4096 : Int) < (v.str.size : Int)))) ?_
  refine s_nt ?_
  refine k_cond (decide ((4096 : Int) < (v.str.size : Int))) (fun c4 => ?_) (fun c4 => ?_)
  ·
   have p5 := of_decide_eq_true c4
   refine k_sr ?_
   refine sp (.int .i64 14) ?_
   refine s_nt ?_
   refine k_ret ?_
   refine xs_retBlock ?_
   refine xs_ret ?_
   refine xs_fin [.int .i64 14] [] (SI.tmp 2 SI.nil) (fun _ h => h.re [] [0]) ⟨congrArg (Value.int .i64) ?_, rfl⟩
   unfold elemE; simp [c2, c4, p3, p5]
  ·
   have p6 := of_decide_eq_false c4
   refine k_sr ?_
   refine s_lt (t_loadA 0 #[.int .i64 v.kind, .int .i64 v.p, .int .i64 v.q, .string v.str, .int .i64 v.ref]) ?_
   refine s_vcall (fun _ h => valid_s v) ?_
   rintro _ rfl
   refine sp (.bool (!(validB v))) ?_
   refine sp (.bool (!(validB v))) ?_
   refine s_nt ?_
   refine k_cond (!(validB v)) (fun c7 => ?_) (fun c7 => ?_)
   ·
    have c8 := not_t c7
    refine k_sr ?_
    refine sp (.int .i64 2) ?_
    refine s_nt ?_
    refine k_ret ?_
    refine xs_retBlock ?_
    refine xs_ret ?_
    refine xs_fin [.int .i64 2] [] (SI.tmp 2 SI.nil) (fun _ h => h.re [] [0]) ⟨congrArg (Value.int .i64) ?_, rfl⟩
    unfold elemE; simp [c2, c4, c7, p3, p6, c8]
   ·
    have c9 := not_f c7
    refine k_skip ?_
    refine xs_block ?_
    refine xs_then ?_
    refine k_sr ?_
    refine sp (.int .i64 0) ?_
    refine s_nt ?_
    refine k_ret ?_
    refine xs_fin [.int .i64 0] [] (SI.tmp 2 SI.nil) (fun _ h => h.re [] [0]) ⟨congrArg (Value.int .i64) ?_, rfl⟩
    unfold elemE; simp [c2, c4, c7, p3, p6, c9]
 ·
  have p10 := of_decide_eq_false c2
  refine s_skip ?_
  refine s_skip ?_
  refine s_skip ?_
  refine s_skip ?_
  refine sp (.bool false) ?_
  refine sp (.bool false) ?_
  refine s_nt ?_
  refine k_false ?_
  refine k_sr ?_
  refine s_lt (t_loadA 0 #[.int .i64 v.kind, .int .i64 v.p, .int .i64 v.q, .string v.str, .int .i64 v.ref]) ?_
  refine s_vcall (fun _ h => valid_s v) ?_
  rintro _ rfl
  refine sp (.bool (!(validB v))) ?_
  refine sp (.bool (!(validB v))) ?_
  refine s_nt ?_
  refine k_cond (!(validB v)) (fun c11 => ?_) (fun c11 => ?_)
  ·
   have c12 := not_t c11
   refine k_sr ?_
   refine sp (.int .i64 2) ?_
   refine s_nt ?_
   refine k_ret ?_
   refine xs_retBlock ?_
   refine xs_ret ?_
   refine xs_fin [.int .i64 2] [] (SI.tmp 2 SI.nil) (fun _ h => h.re [] [0]) ⟨congrArg (Value.int .i64) ?_, rfl⟩
   unfold elemE; simp [c2, c11, p10, c12]
  ·
   have c13 := not_f c11
   refine k_skip ?_
   refine xs_block ?_
   refine xs_then ?_
   refine k_sr ?_
   refine sp (.int .i64 0) ?_
   refine s_nt ?_
   refine k_ret ?_
   refine xs_fin [.int .i64 0] [] (SI.tmp 2 SI.nil) (fun _ h => h.re [] [0]) ⟨congrArg (Value.int .i64) ?_, rfl⟩
   unfold elemE; simp [c2, c11, p10, c13]
theorem hgetV_none {st : Hst} {t k : Vl} (h : htab st t = none) : hgetV st t k = zVl := by unfold hgetV; rw [h]
theorem hgetE_none {st : Hst} {t : Vl} (h : htab st t = none) : hgetE st t = 8 := by unfold hgetE; rw [h]; rfl
theorem hgetV_some {st : Hst} {t k : Vl} {T : Tb} (h : htab st t = some T) : hgetV st t k = tget T k := by unfold hgetV; rw [h]
theorem hgetE_some {st : Hst} {t : Vl} {T : Tb} (h : htab st t = some T) : hgetE st t = 0 := by unfold hgetE; rw [h]; rfl
abbrev pairV (v : Vl) (e : Int) : Value := .tuple #[v.v, .int .i64 e]
theorem hget_s {Z : Zone} {F : List Asr} {b : Nat} {st : Hst} {n : Nat} (hsm : HSm n st) (hn : n ≤ 300) (t k : Vl) : SF Tryz.prog 56 #[.pointer (some ⟨b, 0, none⟩), t.v, k.v] Z (hpA b st :: F) fun r Bs => r = pairV (hgetV st t k) (hgetE st t) ∧ Bs = hpA b st :: F := by
 refine sf_enter Tryz.func56 20 [(0, pB b 0), (1, .agg #[.int .i64 t.kind, .int .i64 t.p, .int .i64 t.q, .string t.str, .int .i64 t.ref]), (2, .agg #[.int .i64 k.kind, .int .i64 k.p, .int .i64 k.q, .string k.str, .int .i64 k.ref])] (fun w0 => ?_)
 refine k_sr ?_
 refine s_box #[.int .i64 t.kind, .int .i64 t.p, .int .i64 t.q, .string t.str, .int .i64 t.ref] (fun g1 => ?_)
 refine s_box #[.int .i64 k.kind, .int .i64 k.p, .int .i64 k.q, .string k.str, .int .i64 k.ref] (fun g2 => ?_)
 refine s_alloc (.agg #[.int .i64 0, .int .i64 0, .int .i64 0, .string ByteArray.empty, .int .i64 0]) #[.int .i64 0, .int .i64 0, .int .i64 0, .string ByteArray.empty, .int .i64 0] (fun g3 => ?_)
 refine sp (.int .i64 0) ?_
 refine s_nr ?_
 refine sp (pB b 0) ?_
 refine s_lt (t_loadA 2 #[.int .i64 t.kind, .int .i64 t.p, .int .i64 t.q, .string t.str, .int .i64 t.ref]) ?_
 refine s_memX (fun H h => hpA_open (h.re [3] [])) (fun ps4 _ => ?_)
 refine s_fact (fun H h => hp_facts (h.re [0] [])) (fun hf5 => ?_)
 obtain ⟨hi6, ha7⟩ := hf5
 refine s_call [0] (htab_s (st := st) (ps := ps4) t) ?_
 rintro u8 _ ⟨e9, rfl⟩
 rcases tb_cases ha7 t with ⟨ht10, hv11⟩ | ⟨o12, q13, ht14, ho15, hk16, hk17, hq18, hv19⟩
 ·
  rw [hv11] at e9; subst e9
  refine sp (.pointer none) ?_
  refine s_nt ?_
  refine k_seq ?_
  refine k_sr ?_
  refine sp (.pointer none) ?_
  refine sp (.bool true) ?_
  refine s_nt ?_
  refine k_true ?_
  refine k_sr ?_
  refine s_lt (t_kern (.agg #[.int .i64 0, .int .i64 0, .int .i64 0, .string ByteArray.empty, .int .i64 0])) ?_
  refine sp (pB b 0) ?_
  refine s_vcall (fun _ h => hmiss_s (F := [])) ?_
  rintro _ rfl
  refine s_store 1 #[.int .i64 0, .int .i64 0, .int .i64 0, .string ByteArray.empty, .int .i64 0] ?_
  refine sp (.int .i64 8) ?_
  refine s_nt ?_
  refine k_ret ?_
  refine xs_ret ?_
  refine xs_mem (fun _ h => hpA_shut (h.re [0] [])) ?_
  refine xs_fin [.agg #[.int .i64 0, .int .i64 0, .int .i64 0, .string ByteArray.empty, .int .i64 0], .int .i64 8] (hpA b st :: F) (SI.agg 6 26 1 (SI.tmp 7 SI.nil)) (fun _ h => h.re [0] [1, 1, 1]) ⟨?_, rfl⟩
  rw [hgetV_none ht10, hgetE_none ht10]; rfl
 ·
  rw [hv19] at e9; subst e9
  refine sp (pB q13.2 0) ?_
  refine s_nt ?_
  refine k_seq ?_
  refine k_sr ?_
  refine sp (pB q13.2 0) ?_
  refine sp (.bool false) ?_
  refine s_nt ?_
  refine k_false ?_
  refine k_st ?_
  refine k_sr ?_
  refine sp (pB q13.2 0) ?_
  refine s_lt (t_loadA 2 #[.int .i64 k.kind, .int .i64 k.p, .int .i64 k.q, .string k.str, .int .i64 k.ref]) ?_
  refine s_mem (fun _ h => tab_out hq18 ho15 hk16 (h.re [0] [])) ?_
  obtain ⟨hl20, hl202, _⟩ := hsm.obs o12 (get_mem ho15).1
  have hl203 : n * (n + 1) ≤ 300 * 301 := Nat.mul_le_mul (by omega) (by omega)
  refine s_call [0] (tbget_s (L := o12.tab.list) (S := o12.tab.rest) (by (try simp only [lnm]); omega) k) ?_
  rintro _ _ ⟨rfl, rfl⟩
  refine s_store 2 #[.int .i64 ((tget ⟨o12.tab.list, o12.tab.rest⟩ k).kind), .int .i64 ((tget ⟨o12.tab.list, o12.tab.rest⟩ k).p), .int .i64 ((tget ⟨o12.tab.list, o12.tab.rest⟩ k).q), .string ((tget ⟨o12.tab.list, o12.tab.rest⟩ k).str), .int .i64 ((tget ⟨o12.tab.list, o12.tab.rest⟩ k).ref)] ?_
  refine sp (.int .i64 0) ?_
  refine s_nt ?_
  refine k_ret ?_
  refine xs_mem (fun _ h => tab_back hq18 ho15 hk16 (h.re [0, 0] [])) ?_
  refine xs_mem (fun _ h => hpA_shut (h.re [0] [])) ?_
  refine xs_fin [.agg #[.int .i64 ((tget ⟨o12.tab.list, o12.tab.rest⟩ k).kind), .int .i64 ((tget ⟨o12.tab.list, o12.tab.rest⟩ k).p), .int .i64 ((tget ⟨o12.tab.list, o12.tab.rest⟩ k).q), .string ((tget ⟨o12.tab.list, o12.tab.rest⟩ k).str), .int .i64 ((tget ⟨o12.tab.list, o12.tab.rest⟩ k).ref)], .int .i64 0] (hpA b st :: F) (SI.agg 6 26 1 (SI.tmp 7 SI.nil)) (fun _ h => h.re [0] [1, 1, 1]) ⟨?_, rfl⟩
  rw [hgetV_some ht14, hgetE_some ht14]; rfl
theorem elem_valid {v : Vl} (h : elemE v = 0) : validB v = true := by
  unfold elemE at h
  split at h
  · cases h
  · split at h
    · cases h
    · rename_i hv; simpa using hv
theorem hset_none {st : Hst} {t k v : Vl} (h : htab st t = none) : hset st t k v = st ∧ hsetE st t k v = 8 := by unfold hset hsetE; rw [h]; exact ⟨rfl, rfl⟩
theorem hset_key {st : Hst} {t k v : Vl} {T : Tb} (h : htab st t = some T) (hk : okKey k = false) : hset st t k v = st ∧ hsetE st t k v = 13 := by unfold hset hsetE; rw [h]; simp [hk]
theorem hset_elem {st : Hst} {t k v : Vl} {T : Tb} (h : htab st t = some T) (hk : okKey k = true) (he : elemE v ≠ 0) : hset st t k v = st ∧ hsetE st t k v = elemE v := by unfold hset hsetE; rw [h]; simp [hk, he]
theorem hset_ok {st : Hst} {t k v : Vl} {o : Hob} (h : htab st t = some o.tab) (ho : st.get t.ref = some o) (hk : okKey k = true) (he : elemE v = 0) : hset st t k v = (st.put t.ref { o with tab := tset o.tab k v }).touch t.ref ∧ hsetE st t k v = 0 := by unfold hset hsetE Hst.setTab; rw [h, ho]; simp [hk, he]
theorem hset_s {Z : Zone} {F : List Asr} {b : Nat} {st : Hst} {n : Nat} (hsm : HSm n st) (hn : n ≤ 300) (t k x : Vl) : SF Tryz.prog 22 #[.pointer (some ⟨b, 0, none⟩), t.v, k.v, x.v] Z (hpA b st :: F) fun r Bs => r = .int .i64 (hsetE st t k x) ∧ Bs = hpA b (hset st t k x) :: F := by
 refine sf_enter Tryz.func22 40 [(0, pB b 0), (1, .agg #[.int .i64 t.kind, .int .i64 t.p, .int .i64 t.q, .string t.str, .int .i64 t.ref]), (2, .agg #[.int .i64 k.kind, .int .i64 k.p, .int .i64 k.q, .string k.str, .int .i64 k.ref]), (3, .agg #[.int .i64 x.kind, .int .i64 x.p, .int .i64 x.q, .string x.str, .int .i64 x.ref])] (fun w0 => ?_)
 refine k_sr ?_
 refine s_box #[.int .i64 t.kind, .int .i64 t.p, .int .i64 t.q, .string t.str, .int .i64 t.ref] (fun g1 => ?_)
 refine s_box #[.int .i64 k.kind, .int .i64 k.p, .int .i64 k.q, .string k.str, .int .i64 k.ref] (fun g2 => ?_)
 refine s_box #[.int .i64 x.kind, .int .i64 x.p, .int .i64 x.q, .string x.str, .int .i64 x.ref] (fun g3 => ?_)
 refine sp (.int .i64 0) ?_
 refine s_nr ?_
 refine sp (pB b 0) ?_
 refine s_lt (t_loadA 2 #[.int .i64 t.kind, .int .i64 t.p, .int .i64 t.q, .string t.str, .int .i64 t.ref]) ?_
 refine s_memX (fun H h => hpA_open (h.re [3] [])) (fun ps4 _ => ?_)
 refine s_fact (fun H h => hp_facts (h.re [0] [])) (fun hf5 => ?_)
 obtain ⟨hi6, ha7⟩ := hf5
 refine s_call [0] (htab_s (st := st) (ps := ps4) t) ?_
 rintro u8 _ ⟨e9, rfl⟩
 rcases tb_cases ha7 t with ⟨ht10, hv11⟩ | ⟨o12, q13, ht14, ho15, hk16, hk17, hq18, hv19⟩
 ·
  rw [hv11] at e9; subst e9
  refine sp (.pointer none) ?_
  refine s_nt ?_
  refine k_seq ?_
  refine k_block ?_
  refine k_sr ?_
  refine sp (.pointer none) ?_
  refine sp (.bool true) ?_
  refine sp (.bool true) ?_
  refine s_nt ?_
  refine k_true ?_
  refine k_sr ?_
  refine sp (pB b 0) ?_
  refine s_vcall (fun _ h => hmiss_s (F := [])) ?_
  rintro _ rfl
  refine sp (.int .i64 8) ?_
  refine s_nt ?_
  refine k_ret ?_
  refine xs_retBlock ?_
  refine xs_ret ?_
  refine xs_mem (fun _ h => hpA_shut (h.re [0] [])) ?_
  have hp := hset_none (k := k) (v := x) ht10
  refine xs_fin [.int .i64 8] (hpA b st :: F) (SI.tmp 8 SI.nil) (fun _ h => h.re [0] [1, 1, 1]) ⟨?_, ?_⟩
  · rw [hp.2]; exact congrArg (Value.int .i64) (by first | rfl | exact tsetE_ok hk hv0)
  · rw [hp.1]
 ·
  rw [hv19] at e9; subst e9
  refine sp (pB q13.2 0) ?_
  refine s_nt ?_
  refine k_seq ?_
  refine k_block ?_
  refine k_sr ?_
  refine sp (pB q13.2 0) ?_
  refine sp (.bool false) ?_
  refine sp (.bool false) ?_
  refine s_nt ?_
  refine k_false ?_
  refine k_cut (ι := Unit) (fun _ => True) (fun _ => [(0, pB b 0), (5, pB g1 0), (6, pB g2 0), (7, pB g3 0), (9, pB q13.2 0), (19, .bool ((decide (k.kind = 0)) || (!(validB k))))]) (fun _ => hpP b st ps4 :: blkA g3 #[.int .i64 x.kind, .int .i64 x.p, .int .i64 x.q, .string x.str, .int .i64 x.ref] 26 :: blkA g2 #[.int .i64 k.kind, .int .i64 k.p, .int .i64 k.q, .string k.str, .int .i64 k.ref] 26 :: blkA g1 #[.int .i64 t.kind, .int .i64 t.p, .int .i64 t.q, .string t.str, .int .i64 t.ref] 26 :: F) ?_ (fun _ _ => ?_)
  ·
   refine k_reg ?_
   refine sp (pB g2 0) ?_
   refine s_lt (t_load 2 (.int .i64 k.kind)) ?_
   refine s_lt t_cmp ?_
   refine sp (.bool (decide (k.kind = 0))) ?_
   refine s_fork 23 (decide (k.kind = 0)) (fun c20 => ?_) (fun c20 => ?_)
   ·
    have p21 := of_decide_eq_true c20
    refine s_skip ?_
    refine s_skip ?_
    refine s_skip ?_
    refine sp (.bool true) ?_
    refine sp (.bool true) ?_
    refine s_nil ?_
    exact xs_cut () trivial (sub_of rfl ⟨⟨rfl, rfl⟩, ⟨⟨rfl, rfl⟩, ⟨⟨rfl, rfl⟩, ⟨⟨rfl, rfl⟩, ⟨⟨rfl, rfl⟩, ⟨⟨rfl, show Value.bool true = Value.bool ((decide (k.kind = 0)) || (!(validB k))) by first | (simp only [c20, bls]; done) | simp [c20]⟩, trivial⟩⟩⟩⟩⟩⟩) (fun _ h => h.re [0, 0, 0, 0] [])
   ·
    have p22 := of_decide_eq_false c20
    refine s_lt (t_loadA 2 #[.int .i64 k.kind, .int .i64 k.p, .int .i64 k.q, .string k.str, .int .i64 k.ref]) ?_
    refine s_vcall (fun _ h => valid_s k) ?_
    rintro _ rfl
    refine sp (.bool (!(validB k))) ?_
    refine sp (.bool (!(validB k))) ?_
    refine sp (.bool (!(validB k))) ?_
    refine s_nil ?_
    exact xs_cut () trivial (sub_of rfl ⟨⟨rfl, rfl⟩, ⟨⟨rfl, rfl⟩, ⟨⟨rfl, rfl⟩, ⟨⟨rfl, rfl⟩, ⟨⟨rfl, rfl⟩, ⟨⟨rfl, show Value.bool (!(validB k)) = Value.bool ((decide (k.kind = 0)) || (!(validB k))) by first | (simp only [c20, bls]; done) | simp [c20]⟩, trivial⟩⟩⟩⟩⟩⟩) (fun _ h => h.re [0, 0, 0, 0] [])
  ·
   refine k_cond ((decide (k.kind = 0)) || (!(validB k))) (fun c23 => ?_) (fun c23 => ?_)
   ·
    have p24 := c23
    simp only [Bool.and_eq_true, Bool.or_eq_true, Bool.and_eq_false_iff, Bool.or_eq_false_iff, Bool.not_eq_true', Bool.not_eq_false', decide_eq_true_eq, decide_eq_false_iff_not] at p24
    refine k_sr ?_
    refine sp (.int .i64 13) ?_
    refine s_nt ?_
    refine k_ret ?_
    refine xs_retBlock ?_
    refine xs_ret ?_
    refine xs_mem (fun _ h => hpA_shut (h.re [0] [])) ?_
    have hk : okKey k = false := okKey_bad (by first | exact p24 | exact .inl p24 | exact .inr p24)
    have hp := hset_key (v := x) ht14 hk
    refine xs_fin [.int .i64 13] (hpA b st :: F) (SI.tmp 8 SI.nil) (fun _ h => h.re [0] [1, 1, 1]) ⟨?_, ?_⟩
    · rw [hp.2]; exact congrArg (Value.int .i64) (by first | rfl | exact tsetE_ok hk hv0)
    · rw [hp.1]
   ·
    obtain ⟨c25, c26⟩ := or_f c23
    have p27 := of_decide_eq_false c25
    have c28 := not_f c26
    refine k_skip ?_
    refine xs_block ?_
    refine xs_then ?_
    refine k_seq ?_
    refine k_sr ?_
    refine s_lt (t_loadA 1 #[.int .i64 x.kind, .int .i64 x.p, .int .i64 x.q, .string x.str, .int .i64 x.ref]) ?_
    refine s_vcall (fun _ h => helem_s x) ?_
    rintro _ rfl
    refine sp (.int .i64 (elemE x)) ?_
    refine s_nr ?_
    refine sp (.int .i64 (elemE x)) ?_
    refine s_lt t_cmp ?_
    refine s_nt ?_
    refine k_cond (decide ((elemE x) ≠ 0)) (fun c29 => ?_) (fun c29 => ?_)
    ·
     have p30 := of_decide_eq_true c29
     refine k_sr ?_
     refine sp (.int .i64 (elemE x)) ?_
     refine sp (.int .i64 (elemE x)) ?_
     refine s_nt ?_
     refine k_ret ?_
     refine xs_ret ?_
     refine xs_mem (fun _ h => hpA_shut (h.re [0] [])) ?_
     have hk := okKey_good c25 c28
     have hp := hset_elem (v := x) ht14 hk (of_decide_eq_true c29)
     refine xs_fin [.int .i64 (elemE x)] (hpA b st :: F) (SI.tmp 8 SI.nil) (fun _ h => h.re [0] [1, 1, 1]) ⟨?_, ?_⟩
     · rw [hp.2]; exact congrArg (Value.int .i64) (by first | rfl | exact tsetE_ok hk hv0)
     · rw [hp.1]
    ·
     have p31 := Decidable.not_not.1 (of_decide_eq_false c29)
     refine k_st ?_
     refine k_seq ?_
     refine k_held [blkA g3 #[.int .i64 x.kind, .int .i64 x.p, .int .i64 x.q, .string x.str, .int .i64 x.ref] 26, blkA g2 #[.int .i64 k.kind, .int .i64 k.p, .int .i64 k.q, .string k.str, .int .i64 k.ref] 26, blkA g1 #[.int .i64 t.kind, .int .i64 t.p, .int .i64 t.q, .string t.str, .int .i64 t.ref] 26] ?_
     refine hp_ 0 [1, 1, 1] (pB b 0) ?_
     refine h_l 1 rfl [1, 1, 1] (fun _ => (t_loadA 2 #[.int .i64 t.kind, .int .i64 t.p, .int .i64 t.q, .string t.str, .int .i64 t.ref])) ?_
     refine hp_ 2 [1, 1, 1] (pB q13.2 0) ?_
     refine h_l 3 rfl [1, 1, 1] (fun _ => (t_loadA 1 #[.int .i64 k.kind, .int .i64 k.p, .int .i64 k.q, .string k.str, .int .i64 k.ref])) ?_
     refine h_l 4 rfl [1, 1, 1] (fun _ => (t_loadA 0 #[.int .i64 x.kind, .int .i64 x.p, .int .i64 x.q, .string x.str, .int .i64 x.ref])) ?_
     refine h_stepS 5 ?_
     refine s_mem (fun _ h => tab_out hq18 ho15 hk16 (h.re [0] [])) ?_
     obtain ⟨hl32, hl322, _⟩ := hsm.obs o12 (get_mem ho15).1
     have hl323 : n * (n + 1) ≤ 300 * 301 := Nat.mul_le_mul (by omega) (by omega)
     refine s_call [0] (tbset_s (L := o12.tab.list) (S := o12.tab.rest) (hi6.obs o12 (get_mem ho15).1).tab (by (try simp only [lnm]); omega) (by (try simp only [lnm]); omega) k x) ?_
     rintro _ _ ⟨rfl, rfl⟩
     refine s_nil (xs_held [2, 2, 2] ?_)
     refine h_stepS 6 ?_
     refine s_mem (fun _ h => tab_in (T := (tset ⟨o12.tab.list, o12.tab.rest⟩ k x)) hq18 ho15 hk16 (tset_inv (hi6.obs o12 (get_mem ho15).1).tab _ _) (h.re [0, 0] [])) ?_
     have hk := okKey_good c25 c28
     have he0 : elemE x = 0 := Decidable.not_not.1 (of_decide_eq_false c29)
     have hv0 := elem_valid he0
     refine s_call [0] (htouch_s (st := (st.put t.ref { o12 with tab := (tset ⟨o12.tab.list, o12.tab.rest⟩ k x) })) (ps := ps4) t (show Hst.get _ _ = some { o12 with tab := (tset ⟨o12.tab.list, o12.tab.rest⟩ k x) } from by rw [get_put ho15, if_pos rfl]) (tsetE k x)) ?_
     rw [if_pos (tsetE_ok hk hv0)]
     rintro _ _ ⟨rfl, rfl⟩
     refine s_nil (xs_held [1, 1, 1] ?_)
     refine hp_ 7 [1, 1, 1] (.int .i64 (tsetE k x)) ?_
     refine h_doneS ?_
     refine xs_then ?_
     refine k_ret ?_
     refine xs_mem (fun _ h => hpA_shut (h.re [0] [])) ?_
     have hp := hset_ok ht14 ho15 hk he0
     refine xs_fin [.int .i64 (tsetE k x)] (hpA b ((st.put t.ref { o12 with tab := (tset ⟨o12.tab.list, o12.tab.rest⟩ k x) }).touch t.ref) :: F) (SI.tmp 8 SI.nil) (fun _ h => h.re [0] [1, 1, 1]) ⟨?_, ?_⟩
     · rw [hp.2]; exact congrArg (Value.int .i64) (by first | rfl | exact tsetE_ok hk hv0)
     · rw [hp.1]
theorem hmeta_s {Z : Zone} {F : List Asr} {b : Nat} {st : Hst} (v : Vl) : SF Tryz.prog 55 #[.pointer (some ⟨b, 0, none⟩), v.v] Z (hpA b st :: F) fun r Bs => r = (hmeta st v).v ∧ Bs = hpA b st :: F := by
 refine sf_enter Tryz.func55 16 [(0, pB b 0), (1, .agg #[.int .i64 v.kind, .int .i64 v.p, .int .i64 v.q, .string v.str, .int .i64 v.ref])] (fun w0 => ?_)
 refine k_sr ?_
 refine s_box #[.int .i64 v.kind, .int .i64 v.p, .int .i64 v.q, .string v.str, .int .i64 v.ref] (fun g1 => ?_)
 refine s_alloc (.agg #[.int .i64 0, .int .i64 0, .int .i64 0, .string ByteArray.empty, .int .i64 0]) #[.int .i64 0, .int .i64 0, .int .i64 0, .string ByteArray.empty, .int .i64 0] (fun g2 => ?_)
 refine s_nr ?_
 refine sp (pB b 0) ?_
 refine s_lt (t_loadA 1 #[.int .i64 v.kind, .int .i64 v.p, .int .i64 v.q, .string v.str, .int .i64 v.ref]) ?_
 refine s_memX (fun H h => hpA_open (h.re [2] [])) (fun ps3 _ => ?_)
 refine s_fact (fun H h => hp_facts (h.re [0] [])) (fun hf4 => ?_)
 obtain ⟨hi5, ha6⟩ := hf4
 refine s_call [0] (hfind_s (st := st) (ps := ps3) v) ?_
 rintro u7 _ ⟨e8, rfl⟩
 rcases fnd_cases ha6 v with ⟨hf9, ht10, hv11, hv12⟩ | ⟨o13, q14, hf15, ho16, hk17, hq18, hv19, hv20⟩
 ·
  rw [hv11] at e8; subst e8
  refine sp (.pointer none) ?_
  refine s_nt ?_
  refine k_seq ?_
  refine k_sr ?_
  refine sp (.pointer none) ?_
  refine sp (.bool true) ?_
  refine s_nt ?_
  refine k_true ?_
  refine k_sr ?_
  refine s_lt (t_kern (.agg #[.int .i64 0, .int .i64 0, .int .i64 0, .string ByteArray.empty, .int .i64 0])) ?_
  refine s_store 1 #[.int .i64 0, .int .i64 0, .int .i64 0, .string ByteArray.empty, .int .i64 0] ?_
  refine s_nt ?_
  refine k_ret ?_
  refine xs_ret ?_
  refine xs_mem (fun _ h => hpA_shut (h.re [0] [])) ?_
  refine xs_fin [.agg #[.int .i64 0, .int .i64 0, .int .i64 0, .string ByteArray.empty, .int .i64 0]] (hpA b st :: F) (SI.agg 4 26 1 SI.nil) (fun _ h => h.re [0] [1, 1]) ⟨?_, rfl⟩
  unfold hmeta; rw [hf9]; rfl
 ·
  rw [hv19] at e8; subst e8
  refine sp (pB q14.1 0) ?_
  refine s_nt ?_
  refine k_seq ?_
  refine k_sr ?_
  refine sp (pB q14.1 0) ?_
  refine sp (.bool false) ?_
  refine s_nt ?_
  refine k_false ?_
  refine k_st ?_
  refine k_sr ?_
  refine sp (pB q14.1 0) ?_
  refine sp (pB q14.1 0) ?_
  refine sp (pB q14.1 4) ?_
  refine s_mem3 (fun H h => hp_open (h.re [0] [])) (fun mb21 tb22 tm23 hw => ?_)
  obtain ⟨hi24, ha25, ht26⟩ := hw
  refine s_memX (fun H h => all_focus hq18 ho16 (h.re [3] [])) (fun v27 _ => ?_)
  refine s_lt (t_loadA 0 #[.int .i64 o13.mt.kind, .int .i64 o13.mt.p, .int .i64 o13.mt.q, .string o13.mt.str, .int .i64 o13.mt.ref]) ?_
  refine s_store 7 #[.int .i64 o13.mt.kind, .int .i64 o13.mt.p, .int .i64 o13.mt.q, .string o13.mt.str, .int .i64 o13.mt.ref] ?_
  refine s_nt ?_
  refine k_ret ?_
  refine xs_fact (fun H h => (h.mp (i := 5) rfl).nodup) (fun hnd28 => ?_)
  refine xs_mem (fun _ h => (put_same ho16) ▸ all_unfocus (o' := o13) hnd28 hq18 ho16 (ob_shut (o := o13) (h.re [0, 0, 0, 0] []))) ?_
  refine xs_mem (Bs := allP ps3 st :: blkA b #[.map (some mb21), .int .i64 (st.objs.length : Int), .map (some tb22)] 90 :: mpA iK oV mb21 ps3 :: mpA iK bV tb22 tm23 :: blkA g2 #[.int .i64 o13.mt.kind, .int .i64 o13.mt.p, .int .i64 o13.mt.q, .string o13.mt.str, .int .i64 o13.mt.ref] 26 :: blkA g1 #[.int .i64 v.kind, .int .i64 v.p, .int .i64 v.q, .string v.str, .int .i64 v.ref] 26 :: F) (fun _ h => h) ?_
  refine xs_mem (fun _ h => hp_shut (st := st) (n := (st.objs.length : Int)) ⟨⟨hi24, ha25, ht26⟩, rfl⟩ (h.re [1, 1, 1, 0] [])) ?_
  refine xs_mem (fun _ h => hpA_shut (h.re [0] [])) ?_
  refine xs_fin [.agg #[.int .i64 o13.mt.kind, .int .i64 o13.mt.p, .int .i64 o13.mt.q, .string o13.mt.str, .int .i64 o13.mt.ref]] (hpA b st :: F) (SI.agg 4 26 1 SI.nil) (fun _ h => h.re [0] [1, 1]) ⟨?_, rfl⟩
  unfold hmeta; rw [hf15]; rfl
theorem hsetmeta_s {Z : Zone} {F : List Asr} {b : Nat} {st : Hst} (v m : Vl) : SF Tryz.prog 24 #[.pointer (some ⟨b, 0, none⟩), v.v, m.v] Z (hpA b st :: F) fun r Bs => r = .int .i64 (hsetMetaE st v m) ∧ Bs = hpA b (hsetMeta st v m) :: F := by
 refine sf_enter Tryz.func24 47 [(0, pB b 0), (1, .agg #[.int .i64 v.kind, .int .i64 v.p, .int .i64 v.q, .string v.str, .int .i64 v.ref]), (2, .agg #[.int .i64 m.kind, .int .i64 m.p, .int .i64 m.q, .string m.str, .int .i64 m.ref])] (fun w0 => ?_)
 refine k_sr ?_
 refine s_box #[.int .i64 v.kind, .int .i64 v.p, .int .i64 v.q, .string v.str, .int .i64 v.ref] (fun g1 => ?_)
 refine s_box #[.int .i64 m.kind, .int .i64 m.p, .int .i64 m.q, .string m.str, .int .i64 m.ref] (fun g2 => ?_)
 refine sp (.int .i64 0) ?_
 refine s_nr ?_
 refine sp (pB b 0) ?_
 refine s_lt (t_loadA 1 #[.int .i64 v.kind, .int .i64 v.p, .int .i64 v.q, .string v.str, .int .i64 v.ref]) ?_
 refine s_memX (fun H h => hpA_open (h.re [2] [])) (fun ps3 _ => ?_)
 refine s_fact (fun H h => hp_facts (h.re [0] [])) (fun hf4 => ?_)
 obtain ⟨hi5, ha6⟩ := hf4
 refine s_call [0] (hfind_s (st := st) (ps := ps3) v) ?_
 rintro u7 _ ⟨e8, rfl⟩
 rcases fnd_cases ha6 v with ⟨hf9, ht10, hv11, hv12⟩ | ⟨o13, q14, hf15, ho16, hk17, hq18, hv19, hv20⟩
 ·
  rw [hv11] at e8; subst e8
  refine sp (.pointer none) ?_
  refine s_nt ?_
  refine k_seq ?_
  refine k_sr ?_
  refine sp (.pointer none) ?_
  refine sp (.bool true) ?_
  refine sp (.bool true) ?_
  refine s_skip ?_
  refine s_skip ?_
  refine s_skip ?_
  refine s_skip ?_
  refine s_skip ?_
  refine s_skip ?_
  refine s_skip ?_
  refine s_skip ?_
  refine s_skip ?_
  refine s_skip ?_
  refine s_skip ?_
  refine s_skip ?_
  refine sp (.bool true) ?_
  refine sp (.bool true) ?_
  refine s_skip ?_
  refine s_skip ?_
  refine s_skip ?_
  refine s_skip ?_
  refine s_skip ?_
  refine s_skip ?_
  refine s_skip ?_
  refine s_skip ?_
  refine s_skip ?_
  refine sp (.bool true) ?_
  refine s_nt ?_
  refine k_true ?_
  refine k_sr ?_
  refine sp (pB b 0) ?_
  refine s_vcall (fun _ h => hmiss_s (F := [])) ?_
  rintro _ rfl
  refine sp (.int .i64 8) ?_
  refine s_nt ?_
  refine k_ret ?_
  refine xs_ret ?_
  refine xs_mem (fun _ h => hpA_shut (h.re [0] [])) ?_
  have hb : hmetaOk st v m = false := by unfold hmetaOk; rw [hf9]
  refine xs_fin [.int .i64 8] (hpA b st :: F) (SI.tmp 6 SI.nil) (fun _ h => h.re [0] [1, 1]) ⟨?_, ?_⟩
  · unfold hsetMetaE; rw [hb]; rfl
  · unfold hsetMeta; rw [hb]; rfl
 ·
  rw [hv19] at e8; subst e8
  refine sp (pB q14.1 0) ?_
  refine s_nt ?_
  refine k_seq ?_
  refine k_sr ?_
  refine sp (pB q14.1 0) ?_
  refine sp (.bool false) ?_
  refine sp (.bool false) ?_
  refine sp (pB q14.1 0) ?_
  refine sp (pB q14.1 0) ?_
  refine sp (pB q14.1 0) ?_
  refine s_mem3 (fun H h => hp_open (h.re [0] [])) (fun mb21 tb22 tm23 hw => ?_)
  obtain ⟨hi24, ha25, ht26⟩ := hw
  refine s_memX (fun H h => all_focus hq18 ho16 (h.re [3] [])) (fun v27 _ => ?_)
  refine s_lt (t_load 0 (.int .i64 o13.kind)) ?_
  refine s_lt t_cmp ?_
  refine sp (.bool (decide (o13.kind ≠ 4))) ?_
  refine s_fork 19 (decide (o13.kind ≠ 4)) (fun c28 => ?_) (fun c28 => ?_)
  ·
   have p29 := of_decide_eq_true c28
   refine sp (pB q14.1 0) ?_
   refine sp (pB q14.1 0) ?_
   refine sp (pB q14.1 0) ?_
   refine s_lt (t_load 0 (.int .i64 o13.kind)) ?_
   refine s_lt t_cmp ?_
   refine sp (.bool (decide (o13.kind ≠ 8))) ?_
   refine sp (.bool (decide (o13.kind ≠ 8))) ?_
   refine sp (.bool (decide (o13.kind ≠ 8))) ?_
   refine s_fork 27 (decide (o13.kind ≠ 8)) (fun c30 => ?_) (fun c30 => ?_)
   ·
    have p31 := of_decide_eq_true c30
    refine s_skip ?_
    refine s_skip ?_
    refine s_skip ?_
    refine s_skip ?_
    refine s_skip ?_
    refine s_skip ?_
    refine s_skip ?_
    refine s_skip ?_
    refine s_skip ?_
    refine sp (.bool true) ?_
    refine s_nt ?_
    refine k_true ?_
    refine k_sr ?_
    refine sp (pB b 0) ?_
    refine s_vcall (fun _ h => hmiss_s (F := [])) ?_
    rintro _ rfl
    refine sp (.int .i64 8) ?_
    refine s_nt ?_
    refine k_ret ?_
    refine xs_ret ?_
    refine xs_fact (fun H h => (h.mp (i := 5) rfl).nodup) (fun hnd32 => ?_)
    refine xs_mem (fun _ h => (put_same ho16) ▸ all_unfocus (o' := o13) hnd32 hq18 ho16 (ob_shut (o := o13) (h.re [0, 0, 0, 0] []))) ?_
    refine xs_mem (Bs := allP ps3 st :: blkA b #[.map (some mb21), .int .i64 (st.objs.length : Int), .map (some tb22)] 90 :: mpA iK oV mb21 ps3 :: mpA iK bV tb22 tm23 :: blkA g2 #[.int .i64 m.kind, .int .i64 m.p, .int .i64 m.q, .string m.str, .int .i64 m.ref] 26 :: blkA g1 #[.int .i64 v.kind, .int .i64 v.p, .int .i64 v.q, .string v.str, .int .i64 v.ref] 26 :: F) (fun _ h => h) ?_
    refine xs_mem (fun _ h => hp_shut (st := st) (n := (st.objs.length : Int)) ⟨⟨hi24, ha25, ht26⟩, rfl⟩ (h.re [1, 1, 1, 0] [])) ?_
    refine xs_mem (fun _ h => hpA_shut (h.re [0] [])) ?_
    have hb : hmetaOk st v m = false := by unfold hmetaOk; rw [hf15]; simp_all
    refine xs_fin [.int .i64 8] (hpA b st :: F) (SI.tmp 6 SI.nil) (fun _ h => h.re [0] [1, 1]) ⟨?_, ?_⟩
    · unfold hsetMetaE; rw [hb]; rfl
    · unfold hsetMeta; rw [hb]; rfl
   ·
    have p33 := Decidable.not_not.1 (of_decide_eq_false c30)
    refine s_lt (t_loadA 7 #[.int .i64 m.kind, .int .i64 m.p, .int .i64 m.q, .string m.str, .int .i64 m.ref]) ?_
    refine s_lt (t_kern (.agg #[.int .i64 0, .int .i64 0, .int .i64 0, .string ByteArray.empty, .int .i64 0])) ?_
    refine s_lt (t_eqS (fun w => (eqVlT m zVl w).2)) ?_
    refine sp (.bool (!(decide (m = zVl)))) ?_
    refine s_fork 31 (!(decide (m = zVl))) (fun c34 => ?_) (fun c34 => ?_)
    ·
     have c35 := not_t c34
     have p36 := of_decide_eq_false c35
     refine sp (pB b 0) ?_
     refine s_lt (t_loadA 7 #[.int .i64 m.kind, .int .i64 m.p, .int .i64 m.q, .string m.str, .int .i64 m.ref]) ?_
     refine s_fact (fun H h => (h.mp (i := 5) rfl).nodup) (fun hnd37 => ?_)
     refine s_mem (fun _ h => (put_same ho16) ▸ all_unfocus (o' := o13) hnd37 hq18 ho16 (ob_shut (o := o13) (h.re [0, 0, 0, 0] []))) ?_
     refine s_mem (Bs := allP ps3 st :: blkA b #[.map (some mb21), .int .i64 (st.objs.length : Int), .map (some tb22)] 90 :: mpA iK oV mb21 ps3 :: mpA iK bV tb22 tm23 :: blkA g2 #[.int .i64 m.kind, .int .i64 m.p, .int .i64 m.q, .string m.str, .int .i64 m.ref] 26 :: blkA g1 #[.int .i64 v.kind, .int .i64 v.p, .int .i64 v.q, .string v.str, .int .i64 v.ref] 26 :: F) (fun _ h => h) ?_
     refine s_mem (fun _ h => hp_shut (st := st) (n := (st.objs.length : Int)) ⟨⟨hi24, ha25, ht26⟩, rfl⟩ (h.re [1, 1, 1, 0] [])) ?_
     refine s_call [0] (htab_s (st := st) (ps := ps3) m) ?_
     rintro u38 _ ⟨e39, rfl⟩
     rcases tb_cases ha6 m with ⟨ht40, hv41⟩ | ⟨o42, q43, ht44, ho45, hk46, hk47, hq48, hv49⟩
     ·
      rw [hv41] at e39; subst e39
      refine sp (.bool true) ?_
      refine sp (.bool true) ?_
      refine sp (.bool true) ?_
      refine s_nt ?_
      refine k_true ?_
      refine k_sr ?_
      refine sp (pB b 0) ?_
      refine s_vcall (fun _ h => hmiss_s (F := [])) ?_
      rintro _ rfl
      refine sp (.int .i64 8) ?_
      refine s_nt ?_
      refine k_ret ?_
      refine xs_ret ?_
      refine xs_mem (fun _ h => hpA_shut (h.re [0] [])) ?_
      have hb : hmetaOk st v m = false := by unfold hmetaOk; rw [hf15]; simp_all
      refine xs_fin [.int .i64 8] (hpA b st :: F) (SI.tmp 6 SI.nil) (fun _ h => h.re [0] [1, 1]) ⟨?_, ?_⟩
      · unfold hsetMetaE; rw [hb]; rfl
      · unfold hsetMeta; rw [hb]; rfl
     ·
      rw [hv49] at e39; subst e39
      refine sp (.bool false) ?_
      refine sp (.bool false) ?_
      refine sp (.bool false) ?_
      refine s_nt ?_
      refine k_false ?_
      refine k_st ?_
      refine k_sr ?_
      refine sp (pB q14.1 0) ?_
      refine s_lt (t_loadA 1 #[.int .i64 m.kind, .int .i64 m.p, .int .i64 m.q, .string m.str, .int .i64 m.ref]) ?_
      refine sp (pB q14.1 0) ?_
      refine sp (pB q14.1 4) ?_
      refine s_mem3 (fun H h => hp_open (h.re [0] [])) (fun mb50 tb51 tm52 hw => ?_)
      obtain ⟨hi53, ha54, ht55⟩ := hw
      refine s_memX (fun H h => all_focus hq18 ho16 (h.re [3] [])) (fun v56 _ => ?_)
      refine s_store 0 #[.int .i64 o13.kind, .int .i64 o13.tag, .string o13.name, (tabV q14 o13), .int .i64 m.kind, .int .i64 m.p, .int .i64 m.q, .string m.str, .int .i64 m.ref, v56] ?_
      refine s_nr ?_
      refine sp (pB b 0) ?_
      refine s_lt (t_loadA 8 #[.int .i64 v.kind, .int .i64 v.p, .int .i64 v.q, .string v.str, .int .i64 v.ref]) ?_
      refine s_fact (fun H h => (h.mp (i := 5) rfl).nodup) (fun hnd57 => ?_)
      refine s_mem (fun _ h => all_unfocus (o' := { o13 with mt := m }) hnd57 hq18 ho16 (ob_shut (o := { o13 with mt := m }) (h.re [0, 0, 0, 0] []))) ?_
      refine s_mem (Bs := allP ps3 (st.put v.ref { o13 with mt := m }) :: blkA b #[.map (some mb50), .int .i64 (st.objs.length : Int), .map (some tb51)] 90 :: mpA iK oV mb50 ps3 :: mpA iK bV tb51 tm52 :: blkA g2 #[.int .i64 m.kind, .int .i64 m.p, .int .i64 m.q, .string m.str, .int .i64 m.ref] 26 :: blkA g1 #[.int .i64 v.kind, .int .i64 v.p, .int .i64 v.q, .string v.str, .int .i64 v.ref] 26 :: F) (fun _ h => h) ?_
      have hob58 := hi53.obs o13 (get_mem ho16).1
      refine s_mem (fun _ h => hp_shut (st := (st.put v.ref { o13 with mt := m })) (n := (st.objs.length : Int)) ⟨⟨put_inv hi53 ⟨hob58.kind, hob58.tab, (fun a b => by exfalso; have a1 : o13.kind ≠ 4 := a; have b1 : o13.kind ≠ 8 := b; omega)⟩, ha54.put ho16, ht55.put ho16⟩, by rw [put_len]⟩ (h.re [1, 1, 1, 0] [])) ?_
      refine s_call [0] (htouch_s (st := (st.put v.ref { o13 with mt := m })) (ps := ps3) v (show Hst.get _ _ = some { o13 with mt := m } from by rw [get_put ho16, if_pos rfl]) 0) ?_
      rw [if_pos (rfl)]
      rintro _ _ ⟨rfl, rfl⟩
      refine sp (.int .i64 0) ?_
      refine s_nt ?_
      refine k_ret ?_
      refine xs_mem (fun _ h => hpA_shut (h.re [0] [])) ?_
      have hb : hmetaOk st v m = true := by unfold hmetaOk; rw [hf15]; simp_all
      refine xs_fin [.int .i64 0] (hpA b ((st.put v.ref { o13 with mt := m }).touch v.ref) :: F) (SI.tmp 6 SI.nil) (fun _ h => h.re [0] [1, 1]) ⟨?_, ?_⟩
      · unfold hsetMetaE; rw [hb]; rfl
      · unfold hsetMeta; rw [hb]; unfold Hst.setMt; rw [ho16]; rfl
    ·
     have c60 := not_f c34
     have p61 := of_decide_eq_true c60
     refine s_skip ?_
     refine s_skip ?_
     refine s_skip ?_
     refine s_skip ?_
     refine sp (.bool false) ?_
     refine sp (.bool false) ?_
     refine s_nt ?_
     refine k_false ?_
     refine k_st ?_
     refine k_sr ?_
     refine sp (pB q14.1 0) ?_
     refine s_lt (t_loadA 7 #[.int .i64 m.kind, .int .i64 m.p, .int .i64 m.q, .string m.str, .int .i64 m.ref]) ?_
     refine sp (pB q14.1 0) ?_
     refine sp (pB q14.1 4) ?_
     refine s_store 0 #[.int .i64 o13.kind, .int .i64 o13.tag, .string o13.name, (tabV q14 o13), .int .i64 m.kind, .int .i64 m.p, .int .i64 m.q, .string m.str, .int .i64 m.ref, v27] ?_
     refine s_nr ?_
     refine sp (pB b 0) ?_
     refine s_lt (t_loadA 8 #[.int .i64 v.kind, .int .i64 v.p, .int .i64 v.q, .string v.str, .int .i64 v.ref]) ?_
     refine s_fact (fun H h => (h.mp (i := 5) rfl).nodup) (fun hnd62 => ?_)
     refine s_mem (fun _ h => all_unfocus (o' := { o13 with mt := m }) hnd62 hq18 ho16 (ob_shut (o := { o13 with mt := m }) (h.re [0, 0, 0, 0] []))) ?_
     refine s_mem (Bs := allP ps3 (st.put v.ref { o13 with mt := m }) :: blkA b #[.map (some mb21), .int .i64 (st.objs.length : Int), .map (some tb22)] 90 :: mpA iK oV mb21 ps3 :: mpA iK bV tb22 tm23 :: blkA g2 #[.int .i64 m.kind, .int .i64 m.p, .int .i64 m.q, .string m.str, .int .i64 m.ref] 26 :: blkA g1 #[.int .i64 v.kind, .int .i64 v.p, .int .i64 v.q, .string v.str, .int .i64 v.ref] 26 :: F) (fun _ h => h) ?_
     have hob63 := hi24.obs o13 (get_mem ho16).1
     refine s_mem (fun _ h => hp_shut (st := (st.put v.ref { o13 with mt := m })) (n := (st.objs.length : Int)) ⟨⟨put_inv hi24 ⟨hob63.kind, hob63.tab, (fun a b => by exfalso; have a1 : o13.kind ≠ 4 := a; have b1 : o13.kind ≠ 8 := b; omega)⟩, ha25.put ho16, ht26.put ho16⟩, by rw [put_len]⟩ (h.re [1, 1, 1, 0] [])) ?_
     refine s_call [0] (htouch_s (st := (st.put v.ref { o13 with mt := m })) (ps := ps3) v (show Hst.get _ _ = some { o13 with mt := m } from by rw [get_put ho16, if_pos rfl]) 0) ?_
     rw [if_pos (rfl)]
     rintro _ _ ⟨rfl, rfl⟩
     refine sp (.int .i64 0) ?_
     refine s_nt ?_
     refine k_ret ?_
     refine xs_mem (fun _ h => hpA_shut (h.re [0] [])) ?_
     have hb : hmetaOk st v m = true := by unfold hmetaOk; rw [hf15]; simp_all
     refine xs_fin [.int .i64 0] (hpA b ((st.put v.ref { o13 with mt := m }).touch v.ref) :: F) (SI.tmp 6 SI.nil) (fun _ h => h.re [0] [1, 1]) ⟨?_, ?_⟩
     · unfold hsetMetaE; rw [hb]; rfl
     · unfold hsetMeta; rw [hb]; unfold Hst.setMt; rw [ho16]; rfl
  ·
   have p65 := Decidable.not_not.1 (of_decide_eq_false c28)
   refine s_skip ?_
   refine s_skip ?_
   refine s_skip ?_
   refine s_skip ?_
   refine s_skip ?_
   refine sp (.bool false) ?_
   refine sp (.bool false) ?_
   refine sp (.bool false) ?_
   refine s_lt (t_loadA 7 #[.int .i64 m.kind, .int .i64 m.p, .int .i64 m.q, .string m.str, .int .i64 m.ref]) ?_
   refine s_lt (t_kern (.agg #[.int .i64 0, .int .i64 0, .int .i64 0, .string ByteArray.empty, .int .i64 0])) ?_
   refine s_lt (t_eqS (fun w => (eqVlT m zVl w).2)) ?_
   refine sp (.bool (!(decide (m = zVl)))) ?_
   refine s_fork 31 (!(decide (m = zVl))) (fun c66 => ?_) (fun c66 => ?_)
   ·
    have c67 := not_t c66
    have p68 := of_decide_eq_false c67
    refine sp (pB b 0) ?_
    refine s_lt (t_loadA 7 #[.int .i64 m.kind, .int .i64 m.p, .int .i64 m.q, .string m.str, .int .i64 m.ref]) ?_
    refine s_fact (fun H h => (h.mp (i := 5) rfl).nodup) (fun hnd69 => ?_)
    refine s_mem (fun _ h => (put_same ho16) ▸ all_unfocus (o' := o13) hnd69 hq18 ho16 (ob_shut (o := o13) (h.re [0, 0, 0, 0] []))) ?_
    refine s_mem (Bs := allP ps3 st :: blkA b #[.map (some mb21), .int .i64 (st.objs.length : Int), .map (some tb22)] 90 :: mpA iK oV mb21 ps3 :: mpA iK bV tb22 tm23 :: blkA g2 #[.int .i64 m.kind, .int .i64 m.p, .int .i64 m.q, .string m.str, .int .i64 m.ref] 26 :: blkA g1 #[.int .i64 v.kind, .int .i64 v.p, .int .i64 v.q, .string v.str, .int .i64 v.ref] 26 :: F) (fun _ h => h) ?_
    refine s_mem (fun _ h => hp_shut (st := st) (n := (st.objs.length : Int)) ⟨⟨hi24, ha25, ht26⟩, rfl⟩ (h.re [1, 1, 1, 0] [])) ?_
    refine s_call [0] (htab_s (st := st) (ps := ps3) m) ?_
    rintro u70 _ ⟨e71, rfl⟩
    rcases tb_cases ha6 m with ⟨ht72, hv73⟩ | ⟨o74, q75, ht76, ho77, hk78, hk79, hq80, hv81⟩
    ·
     rw [hv73] at e71; subst e71
     refine sp (.bool true) ?_
     refine sp (.bool true) ?_
     refine sp (.bool true) ?_
     refine s_nt ?_
     refine k_true ?_
     refine k_sr ?_
     refine sp (pB b 0) ?_
     refine s_vcall (fun _ h => hmiss_s (F := [])) ?_
     rintro _ rfl
     refine sp (.int .i64 8) ?_
     refine s_nt ?_
     refine k_ret ?_
     refine xs_ret ?_
     refine xs_mem (fun _ h => hpA_shut (h.re [0] [])) ?_
     have hb : hmetaOk st v m = false := by unfold hmetaOk; rw [hf15]; simp_all
     refine xs_fin [.int .i64 8] (hpA b st :: F) (SI.tmp 6 SI.nil) (fun _ h => h.re [0] [1, 1]) ⟨?_, ?_⟩
     · unfold hsetMetaE; rw [hb]; rfl
     · unfold hsetMeta; rw [hb]; rfl
    ·
     rw [hv81] at e71; subst e71
     refine sp (.bool false) ?_
     refine sp (.bool false) ?_
     refine sp (.bool false) ?_
     refine s_nt ?_
     refine k_false ?_
     refine k_st ?_
     refine k_sr ?_
     refine sp (pB q14.1 0) ?_
     refine s_lt (t_loadA 1 #[.int .i64 m.kind, .int .i64 m.p, .int .i64 m.q, .string m.str, .int .i64 m.ref]) ?_
     refine sp (pB q14.1 0) ?_
     refine sp (pB q14.1 4) ?_
     refine s_mem3 (fun H h => hp_open (h.re [0] [])) (fun mb82 tb83 tm84 hw => ?_)
     obtain ⟨hi85, ha86, ht87⟩ := hw
     refine s_memX (fun H h => all_focus hq18 ho16 (h.re [3] [])) (fun v88 _ => ?_)
     refine s_store 0 #[.int .i64 o13.kind, .int .i64 o13.tag, .string o13.name, (tabV q14 o13), .int .i64 m.kind, .int .i64 m.p, .int .i64 m.q, .string m.str, .int .i64 m.ref, v88] ?_
     refine s_nr ?_
     refine sp (pB b 0) ?_
     refine s_lt (t_loadA 8 #[.int .i64 v.kind, .int .i64 v.p, .int .i64 v.q, .string v.str, .int .i64 v.ref]) ?_
     refine s_fact (fun H h => (h.mp (i := 5) rfl).nodup) (fun hnd89 => ?_)
     refine s_mem (fun _ h => all_unfocus (o' := { o13 with mt := m }) hnd89 hq18 ho16 (ob_shut (o := { o13 with mt := m }) (h.re [0, 0, 0, 0] []))) ?_
     refine s_mem (Bs := allP ps3 (st.put v.ref { o13 with mt := m }) :: blkA b #[.map (some mb82), .int .i64 (st.objs.length : Int), .map (some tb83)] 90 :: mpA iK oV mb82 ps3 :: mpA iK bV tb83 tm84 :: blkA g2 #[.int .i64 m.kind, .int .i64 m.p, .int .i64 m.q, .string m.str, .int .i64 m.ref] 26 :: blkA g1 #[.int .i64 v.kind, .int .i64 v.p, .int .i64 v.q, .string v.str, .int .i64 v.ref] 26 :: F) (fun _ h => h) ?_
     have hob90 := hi85.obs o13 (get_mem ho16).1
     refine s_mem (fun _ h => hp_shut (st := (st.put v.ref { o13 with mt := m })) (n := (st.objs.length : Int)) ⟨⟨put_inv hi85 ⟨hob90.kind, hob90.tab, (fun a b => by exfalso; have a1 : o13.kind ≠ 4 := a; have b1 : o13.kind ≠ 8 := b; omega)⟩, ha86.put ho16, ht87.put ho16⟩, by rw [put_len]⟩ (h.re [1, 1, 1, 0] [])) ?_
     refine s_call [0] (htouch_s (st := (st.put v.ref { o13 with mt := m })) (ps := ps3) v (show Hst.get _ _ = some { o13 with mt := m } from by rw [get_put ho16, if_pos rfl]) 0) ?_
     rw [if_pos (rfl)]
     rintro _ _ ⟨rfl, rfl⟩
     refine sp (.int .i64 0) ?_
     refine s_nt ?_
     refine k_ret ?_
     refine xs_mem (fun _ h => hpA_shut (h.re [0] [])) ?_
     have hb : hmetaOk st v m = true := by unfold hmetaOk; rw [hf15]; simp_all
     refine xs_fin [.int .i64 0] (hpA b ((st.put v.ref { o13 with mt := m }).touch v.ref) :: F) (SI.tmp 6 SI.nil) (fun _ h => h.re [0] [1, 1]) ⟨?_, ?_⟩
     · unfold hsetMetaE; rw [hb]; rfl
     · unfold hsetMeta; rw [hb]; unfold Hst.setMt; rw [ho16]; rfl
   ·
    have c92 := not_f c66
    have p93 := of_decide_eq_true c92
    refine s_skip ?_
    refine s_skip ?_
    refine s_skip ?_
    refine s_skip ?_
    refine sp (.bool false) ?_
    refine sp (.bool false) ?_
    refine s_nt ?_
    refine k_false ?_
    refine k_st ?_
    refine k_sr ?_
    refine sp (pB q14.1 0) ?_
    refine s_lt (t_loadA 7 #[.int .i64 m.kind, .int .i64 m.p, .int .i64 m.q, .string m.str, .int .i64 m.ref]) ?_
    refine sp (pB q14.1 0) ?_
    refine sp (pB q14.1 4) ?_
    refine s_store 0 #[.int .i64 o13.kind, .int .i64 o13.tag, .string o13.name, (tabV q14 o13), .int .i64 m.kind, .int .i64 m.p, .int .i64 m.q, .string m.str, .int .i64 m.ref, v27] ?_
    refine s_nr ?_
    refine sp (pB b 0) ?_
    refine s_lt (t_loadA 8 #[.int .i64 v.kind, .int .i64 v.p, .int .i64 v.q, .string v.str, .int .i64 v.ref]) ?_
    refine s_fact (fun H h => (h.mp (i := 5) rfl).nodup) (fun hnd94 => ?_)
    refine s_mem (fun _ h => all_unfocus (o' := { o13 with mt := m }) hnd94 hq18 ho16 (ob_shut (o := { o13 with mt := m }) (h.re [0, 0, 0, 0] []))) ?_
    refine s_mem (Bs := allP ps3 (st.put v.ref { o13 with mt := m }) :: blkA b #[.map (some mb21), .int .i64 (st.objs.length : Int), .map (some tb22)] 90 :: mpA iK oV mb21 ps3 :: mpA iK bV tb22 tm23 :: blkA g2 #[.int .i64 m.kind, .int .i64 m.p, .int .i64 m.q, .string m.str, .int .i64 m.ref] 26 :: blkA g1 #[.int .i64 v.kind, .int .i64 v.p, .int .i64 v.q, .string v.str, .int .i64 v.ref] 26 :: F) (fun _ h => h) ?_
    have hob95 := hi24.obs o13 (get_mem ho16).1
    refine s_mem (fun _ h => hp_shut (st := (st.put v.ref { o13 with mt := m })) (n := (st.objs.length : Int)) ⟨⟨put_inv hi24 ⟨hob95.kind, hob95.tab, (fun a b => by exfalso; have a1 : o13.kind ≠ 4 := a; have b1 : o13.kind ≠ 8 := b; omega)⟩, ha25.put ho16, ht26.put ho16⟩, by rw [put_len]⟩ (h.re [1, 1, 1, 0] [])) ?_
    refine s_call [0] (htouch_s (st := (st.put v.ref { o13 with mt := m })) (ps := ps3) v (show Hst.get _ _ = some { o13 with mt := m } from by rw [get_put ho16, if_pos rfl]) 0) ?_
    rw [if_pos (rfl)]
    rintro _ _ ⟨rfl, rfl⟩
    refine sp (.int .i64 0) ?_
    refine s_nt ?_
    refine k_ret ?_
    refine xs_mem (fun _ h => hpA_shut (h.re [0] [])) ?_
    have hb : hmetaOk st v m = true := by unfold hmetaOk; rw [hf15]; simp_all
    refine xs_fin [.int .i64 0] (hpA b ((st.put v.ref { o13 with mt := m }).touch v.ref) :: F) (SI.tmp 6 SI.nil) (fun _ h => h.re [0] [1, 1]) ⟨?_, ?_⟩
    · unfold hsetMetaE; rw [hb]; rfl
    · unfold hsetMeta; rw [hb]; unfold Hst.setMt; rw [ho16]; rfl
theorem all_add {Z : Zone} {F : List Asr} {H : Heap} {st : Hst} {ps : List (Int × (Nat × Nat))} {q : Nat × Nat} {o : Hob} (ha : HA ps st) (hf : st.count < 65536) (hi : (ps.map Prod.fst).Nodup) (h : Holds Z (obP q o :: allP ps st :: F) H) : Holds Z (allP (aset ps ((st.objs.length : Int) + 1) q) (hmake st o) :: F) H := by
  have hnone : apos ps ((st.objs.length : Int) + 1) = none := by
    have := ha.has ((st.objs.length : Int) + 1)
    rw [get_end] at this
    cases hp : apos ps ((st.objs.length : Int) + 1) with
    | none => rfl
    | some i => obtain ⟨_, y, _, h2⟩ := Go.Mem.apos_lt hp; rw [h2] at this; cases this
  have e0 : hmake st o = ⟨st.objs ++ [some o], st.tch ++ [true]⟩ := by unfold hmake; rw [if_neg (by omega)]
  unfold allP
  rw [Go.Mem.aset_new hnone, List.map_append, List.map_cons, List.map_nil]
  have e1 : (hmake st o).ob ((st.objs.length : Int) + 1) = o := by
    unfold Hst.ob; rw [e0, get_snoc, if_pos rfl]; rfl
  have e2 : ps.map (fun p => obP p.2 ((hmake st o).ob p.1)) = ps.map fun p => obP p.2 (st.ob p.1) := by
    refine List.map_congr_left fun p hp => ?_
    have hne : p.1 ≠ (st.objs.length : Int) + 1 := fun e => by
      have := (Go.Mem.aget_none_iff ps ((st.objs.length : Int) + 1)).1 (Go.Mem.apos_none hnone)
      exact this (List.mem_map.2 ⟨p, hp, e⟩)
    unfold Hst.ob; rw [e0, get_snoc, if_neg hne]
  rw [e2]
  show Holds Z (star (_ ++ [obP q ((hmake st o).ob _)]) :: F) H
  rw [e1]
  exact Holds.star_add h
theorem hmake_len {st : Hst} {o : Hob} (hf : st.count < 65536) : (hmake st o).objs.length = st.objs.length + 1 := by unfold hmake; rw [if_neg (by omega)]; simp
theorem hmakeV_full {st : Hst} {k : Int} (hf : 65536 ≤ st.count) : hmakeV st k = zVl ∧ hmakeE st = 17 := by unfold hmakeV hmakeE; rw [if_pos hf, if_pos hf]; exact ⟨rfl, rfl⟩
theorem hmakeV_ok {st : Hst} {k : Int} (hf : st.count < 65536) : hmakeV st k = refV k ((st.objs.length : Int) + 1) ∧ hmakeE st = 0 := by unfold hmakeV hmakeE; rw [if_neg (by omega), if_neg (by omega)]; exact ⟨rfl, rfl⟩
theorem hmake_full {st : Hst} {o : Hob} (hf : 65536 ≤ st.count) : hmake st o = st := by unfold hmake; rw [if_pos hf]
theorem hcreate_s {Z : Zone} {F : List Asr} {b : Nat} {st : Hst} {ps : List (Int × (Nat × Nat))} {q : Nat × Nat} {o : Hob} (hob : ObInv o) (hl : st.objs.length ≤ 1000000) : SF Tryz.prog 70 #[.pointer (some ⟨b, 0, none⟩), ptrV q.1] Z (hpP b st ps :: obP q o :: F) fun r Bs => r = pairV (hmakeV st o.kind) (hmakeE st) ∧ Bs = hpA b (hmake st o) :: F := by
 refine sf_enter Tryz.func70 46 [(0, pB b 0), (1, pB q.1 0)] (fun w0 => ?_)
 refine k_mem3 (fun H h => hp_open (h.re [0] [])) (fun mb1 tb2 tm3 hw => ?_)
 obtain ⟨hi4, ha5, ht6⟩ := hw
 refine k_fact (fun H h => (h.mp (i := 1) rfl).nodup) (fun hnd0 => ?_)
 have hlen := ha5.len
 refine k_sr ?_
 refine s_alloc (.agg #[.int .i64 0, .int .i64 0, .int .i64 0, .string ByteArray.empty, .int .i64 0]) #[.int .i64 0, .int .i64 0, .int .i64 0, .string ByteArray.empty, .int .i64 0] (fun g7 => ?_)
 refine sp (.int .i64 0) ?_
 refine s_nt ?_
 refine k_seq ?_
 refine k_sr ?_
 refine sp (pB b 0) ?_
 refine sp (pB b 0) ?_
 refine sp (pB b 0) ?_
 refine s_lt (t_load 1 (.map (some mb1))) ?_
 refine s_lt (t_lenM 2 Tryz.underlying87) ?_
 refine s_lt t_cmp ?_
 refine s_nt ?_
 refine k_cond (decide ((65536 : Int) ≤ (ps.length : Int))) (fun c8 => ?_) (fun c8 => ?_)
 ·
  have p9 := of_decide_eq_true c8
  refine k_sr ?_
  refine s_lt (t_kern (.agg #[.int .i64 0, .int .i64 0, .int .i64 0, .string ByteArray.empty, .int .i64 0])) ?_
  refine s_store 0 #[.int .i64 0, .int .i64 0, .int .i64 0, .string ByteArray.empty, .int .i64 0] ?_
  refine sp (.int .i64 17) ?_
  refine s_nt ?_
  refine k_ret ?_
  refine xs_ret ?_
  refine xs_mem (fun _ h => hp_shut (st := st) (n := (st.objs.length : Int)) ⟨⟨hi4, ha5, ht6⟩, rfl⟩ (h.re [1, 1, 1, 1] [])) ?_
  have hf : 65536 ≤ st.count := by omega
  refine xs_fin [.agg #[.int .i64 0, .int .i64 0, .int .i64 0, .string ByteArray.empty, .int .i64 0], .int .i64 17] (hpA b st :: F) (SI.agg 4 26 1 (SI.tmp 5 SI.nil)) (fun _ h => hpA_shut (h.re [0] [1, 1])) ⟨?_, ?_⟩
  · rw [(hmakeV_full hf).1, (hmakeV_full (k := 0) hf).2]; rfl
  · rw [hmake_full hf]
 ·
  have p10 := of_decide_eq_false c8
  refine k_st ?_
  refine k_sr ?_
  refine sp (pB b 0) ?_
  refine sp (pB b 0) ?_
  refine sp (pB b 1) ?_
  refine s_lt (t_load 1 (.int .i64 (st.objs.length : Int))) ?_
  refine s_lt (t_add (st.objs.length : Int) 1 (by (try simp only [lnm]); omega)) ?_
  refine sp (pB b 0) ?_
  refine sp (pB b 1) ?_
  refine s_store 1 #[.map (some mb1), .int .i64 ((st.objs.length : Int) + 1), .map (some tb2)] ?_
  refine s_nt ?_
  refine k_seq ?_
  refine k_draw ?_
  refine sp (pB b 0) ?_
  refine sp (pB b 0) ?_
  refine sp (pB b 0) ?_
  refine s_lt (t_load 1 (.map (some mb1))) ?_
  refine sp (pB b 0) ?_
  refine sp (pB b 0) ?_
  refine sp (pB b 1) ?_
  refine s_lt (t_load 1 (.int .i64 ((st.objs.length : Int) + 1))) ?_
  refine sp (pB q.1 0) ?_
  refine s_update 2 intOk Tryz.underlying87 ((st.objs.length : Int) + 1) q ?_
  refine s_nil ?_
  refine x_dynS (fun _ h => by kernel_rfl) ?_
  refine xs_then ?_
  refine k_seq ?_
  refine k_draw ?_
  refine sp (pB b 0) ?_
  refine sp (pB b 0) ?_
  refine sp (pB b 2) ?_
  refine s_lt (t_load 1 (.map (some tb2))) ?_
  refine sp (pB b 0) ?_
  refine sp (pB b 0) ?_
  refine sp (pB b 1) ?_
  refine s_lt (t_load 1 (.int .i64 ((st.objs.length : Int) + 1))) ?_
  refine s_update 3 intOk Tryz.underlying88 ((st.objs.length : Int) + 1) true ?_
  refine s_nil ?_
  refine x_dynS (fun _ h => by kernel_rfl) ?_
  refine xs_then ?_
  refine k_seq ?_
  refine k_draw ?_
  refine sp (pB q.1 0) ?_
  refine sp (pB q.1 0) ?_
  refine sp (pB q.1 0) ?_
  refine s_memX (fun H h => ob_open (h.re [5] [])) (fun v11 hw => ?_)
  refine s_lt (t_load 0 (.int .i64 o.kind)) ?_
  refine sp (pB b 0) ?_
  refine sp (pB b 0) ?_
  refine sp (pB b 1) ?_
  refine s_lt (t_load 4 (.int .i64 ((st.objs.length : Int) + 1))) ?_
  refine s_lt (t_kern (.agg #[.int .i64 o.kind, .int .i64 0, .int .i64 0, .string ByteArray.empty, .int .i64 ((st.objs.length : Int) + 1)])) ?_
  refine s_store 3 #[.int .i64 o.kind, .int .i64 0, .int .i64 0, .string ByteArray.empty, .int .i64 ((st.objs.length : Int) + 1)] ?_
  refine sp (.int .i64 0) ?_
  refine s_nil ?_
  refine x_dynS (fun _ h => by kernel_rfl) ?_
  refine xs_then ?_
  refine k_ret ?_
  refine xs_mem (fun _ h => ob_shut (o := o) (h.re [0, 0, 0] [])) ?_
  have hf : st.count < 65536 := by omega
  refine xs_fact (fun H h => hnd0) (fun hnd => ?_)
  refine xs_mem (fun _ h => all_add ha5 hf hnd (h.re [0, 4] [])) ?_
  refine xs_mem (fun _ h => hp_shut (st := (hmake st o)) (n := ((st.objs.length : Int) + 1)) ⟨⟨hmake_inv hi4 hob, HA.make ha5 o q hf, TA.make ht6 hi4 o hf⟩, by rw [hmake_len hf]; rfl⟩ (h.re [2, 2, 2, 0] [])) ?_
  refine xs_fin [.agg #[.int .i64 o.kind, .int .i64 0, .int .i64 0, .string ByteArray.empty, .int .i64 ((st.objs.length : Int) + 1)], .int .i64 0] (hpA b (hmake st o) :: F) (SI.agg 4 26 1 (SI.tmp 5 SI.nil)) (fun _ h => hpA_shut (h.re [0] [1])) ⟨?_, rfl⟩
  rw [(hmakeV_ok hf).1, (hmakeV_ok (k := 0) hf).2]; rfl
theorem hnewtable_s {Z : Zone} {F : List Asr} {b : Nat} {st : Hst} (hl : st.objs.length ≤ 1000000) : SF Tryz.prog 21 #[.pointer (some ⟨b, 0, none⟩)] Z (hpA b st :: F) fun r Bs => r = pairV (hmakeV st 4) (hmakeE st) ∧ Bs = hpA b (hmake st (newO 4 0 ByteArray.empty [])) :: F := by
 refine sf_enter Tryz.func21 14 [(0, pB b 0)] (fun w0 => ?_)
 refine k_sr ?_
 refine s_alloc (.agg #[.int .i64 0, .int .i64 0, .int .i64 0, .string ByteArray.empty, .int .i64 0]) #[.int .i64 0, .int .i64 0, .int .i64 0, .string ByteArray.empty, .int .i64 0] (fun g1 => ?_)
 refine sp (.int .i64 0) ?_
 refine s_nt ?_
 refine k_seq ?_
 refine k_sr ?_
 refine sp (pB b 0) ?_
 refine sp (.bool false) ?_
 refine s_nt ?_
 refine k_false ?_
 refine k_st ?_
 refine k_sr ?_
 refine sp (pB b 0) ?_
 refine s_pcall (fun _ h => tbnew_s) ?_
 rintro _ _ ⟨tg2, rfl, rfl⟩
 refine s_lt (t_kern (.agg #[.int .i64 4, .int .i64 0, .string ByteArray.empty, pB tg2 0, .int .i64 0, .int .i64 0, .int .i64 0, .string ByteArray.empty, .int .i64 0, (.slice none 0 0)])) ?_
 refine s_box #[.int .i64 4, .int .i64 0, .string ByteArray.empty, pB tg2 0, .int .i64 0, .int .i64 0, .int .i64 0, .string ByteArray.empty, .int .i64 0, (.slice none 0 0)] (fun g3 => ?_)
 refine s_memX (fun H h => hpA_open (h.re [3] [])) (fun ps4 _ => ?_)
 refine s_fact (fun H h => hp_facts (h.re [0] [])) (fun hf5 => ?_)
 obtain ⟨hi6, ha7⟩ := hf5
 refine s_mem (fun _ h => Holds.nilS (T := VlT) h) ?_
 refine s_mem (fun _ h => tabO_shut (q := (g3, tg2)) (o := (newO 4 0 ByteArray.empty [])) (T := noTb) rfl (h.re [3] [])) ?_
 refine s_mem (fun _ h => ob_shut (q := (g3, tg2)) (o := (newO 4 0 ByteArray.empty [])) (h.re [3, 1, 0] [])) ?_
 refine s_call [1, 0] (hcreate_s (st := st) (ps := ps4) (q := (g3, tg2)) (o := (newO 4 0 ByteArray.empty [])) (newO_inv _ _ _ (by decide)) (by omega)) ?_
 rintro _ _ ⟨rfl, rfl⟩
 refine sp (.agg #[.int .i64 ((hmakeV st 4).kind), .int .i64 ((hmakeV st 4).p), .int .i64 ((hmakeV st 4).q), .string ((hmakeV st 4).str), .int .i64 ((hmakeV st 4).ref)]) ?_
 refine sp (.int .i64 (hmakeE st)) ?_
 refine s_store 1 #[.int .i64 ((hmakeV st 4).kind), .int .i64 ((hmakeV st 4).p), .int .i64 ((hmakeV st 4).q), .string ((hmakeV st 4).str), .int .i64 ((hmakeV st 4).ref)] ?_
 refine sp (.int .i64 (hmakeE st)) ?_
 refine s_nt ?_
 refine k_ret ?_
 exact xs_fin [.agg #[.int .i64 ((hmakeV st 4).kind), .int .i64 ((hmakeV st 4).p), .int .i64 ((hmakeV st 4).q), .string ((hmakeV st 4).str), .int .i64 ((hmakeV st 4).ref)], .int .i64 (hmakeE st)] (hpA b (hmake st (newO 4 0 ByteArray.empty [])) :: F) (SI.agg 2 26 1 (SI.tmp 3 SI.nil)) (fun _ h => h.re [0] [1]) ⟨rfl, rfl⟩
def hdataV (st : Hst) (name : ByteArray) : Vl := if 40 < (name.size : Int) then zVl else hmakeV st 8
def hdataE (st : Hst) (name : ByteArray) : Int := if 40 < (name.size : Int) then 14 else hmakeE st
def hdata (st : Hst) (name : ByteArray) : Hst := if 40 < (name.size : Int) then st else hmake st (newO 8 0 name (List.replicate 16 zVl))
theorem hnew_s {Z : Zone} : SF Tryz.prog 20 #[] Z [] fun r Bs => ∃ b, r = .pointer (some ⟨b, 0, none⟩) ∧ Bs = [hpA b hp0] := by
 refine sf_enter Tryz.func20 5 [] (fun w0 => ?_)
 refine k_sr ?_
 refine sp (.pointer none) ?_
 refine s_nr ?_
 refine s_makeMap iK oV (fun b1 => ?_)
 refine s_makeMap iK bV (fun b2 => ?_)
 refine s_lt (t_kern (.agg #[.map (some b1), .int .i64 0, .map (some b2)])) ?_
 refine s_box #[.map (some b1), .int .i64 0, .map (some b2)] (fun g3 => ?_)
 refine sp (pB g3 0) ?_
 refine s_nt ?_
 refine k_ret ?_
 refine xs_fin [pB g3 0] [hpA g3 hp0] (SI.tmp 0 SI.nil) (fun _ h => hpA_shut (ps := []) (hp_shut (b := g3) (st := hp0) (tm := []) ⟨⟨HInv.nil, HA.nil, TA.nil⟩, rfl⟩ ((Holds.star_nil h).re [1, 2, 1, 0] []))) ⟨g3, rfl, rfl⟩
end Go.Proofs.YtplkkhpokodbmaaGreatDoor
end
section
set_option linter.unusedSimpArgs false
set_option linter.unusedVariables false
set_option maxRecDepth 100000
set_option maxHeartbeats 2000000
namespace Go.Proofs.YtplkkhpokodbmaaGreatDoor
open Go.Hp Go.J Go.S
open Go.Mem (Ty KTy blk elemAt pre suf blk_pre blk_suf aget aset strK aggDesc)
open Go.Mem (adel apos aget_aset aget_adel)
structure Sv where
  p : Option Addr
  len : Nat
  cap : Nat
abbrev Sv.v (s : Sv) : Value := .slice s.p s.len s.cap
/-- An element of the reference's list: an object (none: a removed one), and where its parts lie. -/
structure Rx where
  o : Option Hob
  tp : Nat
  uv : Sv
  rv : Sv
def Rx.v : Rx → Value
  | ⟨some o, tp, uv, rv⟩ => .agg #[.int .i64 o.kind, .int .i64 o.tag, .string o.name, tabV (0, tp) o, .int .i64 o.mt.kind, .int .i64 o.mt.p, .int .i64 o.mt.q, .string o.mt.str, .int .i64 o.mt.ref, uv.v, rv.v]
  | ⟨none, _, _, _⟩ => .agg #[.int .i64 0, .int .i64 0, .string ByteArray.empty, .pointer none, .int .i64 0, .int .i64 0, .int .i64 0, .string ByteArray.empty, .int .i64 0, .slice none 0 0, .slice none 0 0]
section
variable {Z : Zone} {F : List Asr} {H : Heap} {b : Nat} {st : Hst} {L : List Rx} {id : Int} {o o' : Hob} {i tp : Nat} {uv rv : Sv}
theorem flat_set {α : Type} {T : Ty α} {A : List α} {x y : α} (hx : A[i]? = some x) (he : T.enc y = T.enc x) : T.flat (A.set i y) = T.flat A := by
  obtain ⟨hi, e⟩ := List.getElem?_eq_some_iff.1 hx
  have h1 : A.set i y = A.take i ++ ([y] ++ A.drop (i + 1)) := by rw [List.set_eq_take_append_cons_drop, if_pos hi]; rfl
  have h2 : A = A.take i ++ ([x] ++ A.drop (i + 1)) := by
    have : A.drop i = A[i] :: A.drop (i + 1) := List.drop_eq_getElem_cons hi
    rw [← e]; show A = A.take i ++ (A[i] :: A.drop (i + 1)); rw [← this, List.take_append_drop]
  have hs : T.flat [y] = T.flat [x] := by show T.enc y ++ T.flat [] = T.enc x ++ T.flat []; rw [he]
  rw [h1]
  conv => rhs; rw [h2]
  simp only [Ty.flat_append, hs]
end
end Go.Proofs.YtplkkhpokodbmaaGreatDoor
end
section
set_option linter.unusedSimpArgs false
set_option linter.unusedVariables false
set_option maxRecDepth 100000
set_option maxHeartbeats 2000000
namespace Go.Proofs.YtplkkhpokodbmaaGreatDoor
open Go.Hp Go.J Go.S
open Go.Mem (Ty KTy blk elemAt pre suf blk_pre blk_suf aget aset strK aggDesc)
open Go.Mem (adel apos aget_aset aget_adel)
structure Spc where
  v : Vl
  obj : Int
structure Opc where
  kind : Int
  a : Spc
  b : Spc
  c : Spc
def Spc.w (x : Spc) : Value := .agg #[.int .i64 x.v.kind, .int .i64 x.v.p, .int .i64 x.v.q, .string x.v.str, .int .i64 x.v.ref, .int .i64 x.obj]
def Opc.w (x : Opc) : Value := .agg #[.int .i64 x.kind, .int .i64 x.a.v.kind, .int .i64 x.a.v.p, .int .i64 x.a.v.q, .string x.a.v.str, .int .i64 x.a.v.ref, .int .i64 x.a.obj, .int .i64 x.b.v.kind, .int .i64 x.b.v.p, .int .i64 x.b.v.q, .string x.b.v.str, .int .i64 x.b.v.ref, .int .i64 x.b.obj, .int .i64 x.c.v.kind, .int .i64 x.c.v.p, .int .i64 x.c.v.q, .string x.c.v.str, .int .i64 x.c.v.ref, .int .i64 x.c.obj]
def SpT : Ty Spc := ⟨28, 6, 56, true, Spc.w, ⟨zVl, 0⟩⟩
theorem SpT_ok : SpT.Ok Tryz.prog := ok_of SpT _ Tryz.t28 (by decide) (fun _ => rfl) (fun x u hu => by simp [Ty.enc, SpT, Spc.w, Value.cells] at hu; rcases hu with rfl | rfl | rfl | rfl | rfl | rfl <;> rfl) (fun _ => rfl) Tryz.underlying28 rfl (fun h => by cases h) (by kernel_rfl) (by kernel_rfl) (by kernel_rfl) (by kernel_rfl)
def OpT : Ty Opc := ⟨54, 19, 176, true, Opc.w, ⟨0, ⟨zVl, 0⟩, ⟨zVl, 0⟩, ⟨zVl, 0⟩⟩⟩
theorem OpT_ok : OpT.Ok Tryz.prog := ok_of OpT _ Tryz.t54 (by decide) (fun _ => rfl) (fun x u hu => by simp [Ty.enc, OpT, Opc.w, Value.cells] at hu; rcases hu with rfl | rfl | rfl | rfl | rfl | rfl | rfl | rfl | rfl | rfl | rfl | rfl | rfl | rfl | rfl | rfl | rfl | rfl | rfl <;> rfl) (fun _ => rfl) Tryz.underlying54 rfl (fun h => by cases h) (by kernel_rfl) (by kernel_rfl) (by kernel_rfl) (by kernel_rfl)
theorem ofstr_s {Z : Zone} (s : ByteArray) : SF Tryz.prog 39 #[.string s] Z [] fun r Bs => r = (strV s).v ∧ Bs = [] := by
 refine sf_enter Tryz.func39 5 [(0, .string s)] (fun w0 => ?_)
 refine k_sr ?_
 refine s_alloc (.agg #[.int .i64 0, .int .i64 0, .int .i64 0, .string ByteArray.empty, .int .i64 0]) #[.int .i64 0, .int .i64 0, .int .i64 0, .string ByteArray.empty, .int .i64 0] (fun g1 => ?_)
 refine s_nr ?_
 refine sp (.string s) ?_
 refine s_lt (t_kern (.agg #[.int .i64 3, .int .i64 0, .int .i64 0, .string s, .int .i64 0])) ?_
 refine s_store 0 #[.int .i64 3, .int .i64 0, .int .i64 0, .string s, .int .i64 0] ?_
 refine s_nt ?_
 refine k_ret ?_
 exact xs_fin [.agg #[.int .i64 3, .int .i64 0, .int .i64 0, .string s, .int .i64 0]] [] (SI.agg 2 26 0 SI.nil) (fun _ h => h.re [] [0]) ⟨rfl, rfl⟩
theorem rtext_s {Z : Zone} (s : ByteArray) : SF Tryz.prog 91 #[.string s] Z [] fun r Bs => r = (strV s).v ∧ Bs = [] := by
 refine sf_enter Tryz.func91 5 [(0, .string s)] (fun w0 => ?_)
 refine k_sr ?_
 refine s_alloc (.agg #[.int .i64 0, .int .i64 0, .int .i64 0, .string ByteArray.empty, .int .i64 0]) #[.int .i64 0, .int .i64 0, .int .i64 0, .string ByteArray.empty, .int .i64 0] (fun g1 => ?_)
 refine s_nr ?_
 refine sp (.string s) ?_
 refine s_lt (t_kern (.agg #[.int .i64 3, .int .i64 0, .int .i64 0, .string s, .int .i64 0])) ?_
 refine s_store 0 #[.int .i64 3, .int .i64 0, .int .i64 0, .string s, .int .i64 0] ?_
 refine s_nt ?_
 refine k_ret ?_
 exact xs_fin [.agg #[.int .i64 3, .int .i64 0, .int .i64 0, .string s, .int .i64 0]] [] (SI.agg 2 26 0 SI.nil) (fun _ h => h.re [] [0]) ⟨rfl, rfl⟩
theorem lstr_s {Z : Zone} (s : ByteArray) : SF Tryz.prog 23 #[.string s] Z [] fun r Bs => r = (strV s).v ∧ Bs = [] := by
 refine sf_enter Tryz.func23 5 [(0, .string s)] (fun w0 => ?_)
 refine k_sr ?_
 refine s_alloc (.agg #[.int .i64 0, .int .i64 0, .int .i64 0, .string ByteArray.empty, .int .i64 0]) #[.int .i64 0, .int .i64 0, .int .i64 0, .string ByteArray.empty, .int .i64 0] (fun g1 => ?_)
 refine s_nr ?_
 refine sp (.string s) ?_
 refine s_lt (t_kern (.agg #[.int .i64 3, .int .i64 0, .int .i64 0, .string s, .int .i64 0])) ?_
 refine s_store 0 #[.int .i64 3, .int .i64 0, .int .i64 0, .string s, .int .i64 0] ?_
 refine s_nt ?_
 refine k_ret ?_
 exact xs_fin [.agg #[.int .i64 3, .int .i64 0, .int .i64 0, .string s, .int .i64 0]] [] (SI.agg 2 26 0 SI.nil) (fun _ h => h.re [] [0]) ⟨rfl, rfl⟩
/-- The metamethod of a value. -/
def hdl (st : Hst) (v : Vl) (ev : ByteArray) : Vl := if (hmeta st v).kind = 0 then zVl else hgetV st (hmeta st v) (strV ev)
theorem hdl_s {Z : Zone} {F : List Asr} {b : Nat} {st : Hst} {n : Nat} (hsm : HSm n st) (hn : n ≤ 300) (v : Vl) (ev : ByteArray) : SF Tryz.prog 14 #[.pointer (some ⟨b, 0, none⟩), v.v, .string ev] Z (hpA b st :: F) fun r Bs => r = (hdl st v ev).v ∧ Bs = hpA b st :: F := by
 refine sf_enter Tryz.func14 26 [(0, pB b 0), (1, .agg #[.int .i64 v.kind, .int .i64 v.p, .int .i64 v.q, .string v.str, .int .i64 v.ref]), (2, .string ev)] (fun w0 => ?_)
 have hlen0 := hsm.len
 refine k_sr ?_
 refine s_box #[.int .i64 v.kind, .int .i64 v.p, .int .i64 v.q, .string v.str, .int .i64 v.ref] (fun g1 => ?_)
 refine s_alloc (.agg #[.int .i64 0, .int .i64 0, .int .i64 0, .string ByteArray.empty, .int .i64 0]) #[.int .i64 0, .int .i64 0, .int .i64 0, .string ByteArray.empty, .int .i64 0] (fun g2 => ?_)
 refine s_nr ?_
 refine sp (pB b 0) ?_
 refine s_lt (t_loadA 1 #[.int .i64 v.kind, .int .i64 v.p, .int .i64 v.q, .string v.str, .int .i64 v.ref]) ?_
 refine s_call [2] (hmeta_s (st := st) v) ?_
 rintro _ _ ⟨rfl, rfl⟩
 refine s_alloc (.agg #[.int .i64 0, .int .i64 0, .int .i64 0, .string ByteArray.empty, .int .i64 0]) #[.int .i64 0, .int .i64 0, .int .i64 0, .string ByteArray.empty, .int .i64 0] (fun g3 => ?_)
 refine s_store 0 #[.int .i64 ((hmeta st v).kind), .int .i64 ((hmeta st v).p), .int .i64 ((hmeta st v).q), .string ((hmeta st v).str), .int .i64 ((hmeta st v).ref)] ?_
 refine s_nt ?_
 refine k_seq ?_
 refine k_sr ?_
 refine sp (pB g3 0) ?_
 refine s_lt (t_load 0 (.int .i64 ((hmeta st v).kind))) ?_
 refine s_lt t_cmp ?_
 refine s_nt ?_
 refine k_cond (decide ((hmeta st v).kind = 0)) (fun c4 => ?_) (fun c4 => ?_)
 ·
  have p5 := of_decide_eq_true c4
  refine k_sr ?_
  refine s_lt (t_kern (.agg #[.int .i64 0, .int .i64 0, .int .i64 0, .string ByteArray.empty, .int .i64 0])) ?_
  refine s_store 2 #[.int .i64 0, .int .i64 0, .int .i64 0, .string ByteArray.empty, .int .i64 0] ?_
  refine s_nt ?_
  refine k_ret ?_
  refine xs_ret ?_
  refine xs_fin [.agg #[.int .i64 0, .int .i64 0, .int .i64 0, .string ByteArray.empty, .int .i64 0]] (hpA b st :: F) (SI.agg 6 26 2 SI.nil) (fun _ h => h.re [1] [1, 1, 1]) ⟨?_, rfl⟩
  unfold hdl; rw [if_pos (of_decide_eq_true c4)]; rfl
 ·
  have p6 := of_decide_eq_false c4
  refine k_st ?_
  refine k_seq ?_
  refine k_held [blkA g3 #[.int .i64 ((hmeta st v).kind), .int .i64 ((hmeta st v).p), .int .i64 ((hmeta st v).q), .string ((hmeta st v).str), .int .i64 ((hmeta st v).ref)] 26, blkA g2 #[.int .i64 0, .int .i64 0, .int .i64 0, .string ByteArray.empty, .int .i64 0] 26, blkA g1 #[.int .i64 v.kind, .int .i64 v.p, .int .i64 v.q, .string v.str, .int .i64 v.ref] 26] ?_
  refine hp_ 0 [0, 1, 1] (pB b 0) ?_
  refine h_l 1 rfl [0, 1, 1] (fun _ => (t_loadA 0 #[.int .i64 ((hmeta st v).kind), .int .i64 ((hmeta st v).p), .int .i64 ((hmeta st v).q), .string ((hmeta st v).str), .int .i64 ((hmeta st v).ref)])) ?_
  refine hp_ 2 [0, 1, 1] (.string ev) ?_
  refine h_join (ι := Nat) 2 #[true, true, true, true, true, true, true, true, true, false, false] (fun g7 => [(6, pB g2 0), (8, pB g7 0), (23, .agg #[.int .i64 ((hgetV st (hmeta st v) (strV ev)).kind), .int .i64 ((hgetV st (hmeta st v) (strV ev)).p), .int .i64 ((hgetV st (hmeta st v) (strV ev)).q), .string ((hgetV st (hmeta st v) (strV ev)).str), .int .i64 ((hgetV st (hmeta st v) (strV ev)).ref)]), (24, .int .i64 (hgetE st (hmeta st v)))]) (fun g7 => blkA g7 #[.int .i64 0, .int .i64 0, .int .i64 0, .string ByteArray.empty, .int .i64 0] 26 :: hpA b st :: blkA g3 #[.int .i64 ((hmeta st v).kind), .int .i64 ((hmeta st v).p), .int .i64 ((hmeta st v).q), .string ((hmeta st v).str), .int .i64 ((hmeta st v).ref)] 26 :: blkA g2 #[.int .i64 0, .int .i64 0, .int .i64 0, .string ByteArray.empty, .int .i64 0] 26 :: blkA g1 #[.int .i64 v.kind, .int .i64 v.p, .int .i64 v.q, .string v.str, .int .i64 v.ref] 26 :: F) ?_ (fun hj10 => ?_)
  ·
   rintro g7
   try dsimp only
   refine h_stepS 9 ?_
   refine s_store 0 #[.int .i64 ((hgetV st (hmeta st v) (strV ev)).kind), .int .i64 ((hgetV st (hmeta st v) (strV ev)).p), .int .i64 ((hgetV st (hmeta st v) (strV ev)).q), .string ((hgetV st (hmeta st v) (strV ev)).str), .int .i64 ((hgetV st (hmeta st v) (strV ev)).ref)] ?_
   refine s_nil (xs_held [2, 2, 2] ?_)
   refine hp_ 10 [2, 2, 2] (.int .i64 (hgetE st (hmeta st v))) ?_
   refine h_doneS ?_
   refine xs_then ?_
   refine k_sr ?_
   refine s_lt (t_loadA 0 #[.int .i64 ((hgetV st (hmeta st v) (strV ev)).kind), .int .i64 ((hgetV st (hmeta st v) (strV ev)).p), .int .i64 ((hgetV st (hmeta st v) (strV ev)).q), .string ((hgetV st (hmeta st v) (strV ev)).str), .int .i64 ((hgetV st (hmeta st v) (strV ev)).ref)]) ?_
   refine s_store 3 #[.int .i64 ((hgetV st (hmeta st v) (strV ev)).kind), .int .i64 ((hgetV st (hmeta st v) (strV ev)).p), .int .i64 ((hgetV st (hmeta st v) (strV ev)).q), .string ((hgetV st (hmeta st v) (strV ev)).str), .int .i64 ((hgetV st (hmeta st v) (strV ev)).ref)] ?_
   refine s_nt ?_
   refine k_ret ?_
   refine xs_fin [.agg #[.int .i64 ((hgetV st (hmeta st v) (strV ev)).kind), .int .i64 ((hgetV st (hmeta st v) (strV ev)).p), .int .i64 ((hgetV st (hmeta st v) (strV ev)).q), .string ((hgetV st (hmeta st v) (strV ev)).str), .int .i64 ((hgetV st (hmeta st v) (strV ev)).ref)]] (hpA b st :: F) (SI.agg 6 26 3 SI.nil) (fun _ h => h.re [1] [1, 1, 1, 1]) ⟨?_, rfl⟩
   unfold hdl; rw [if_neg (of_decide_eq_false c4)]; rfl
  refine h_join (ι := Nat) 6 #[true, true, true, true, false, false, false, false, true, false, false] (fun g8 => [(6, pB g2 0), (8, pB g8 0), (18, pB b 0), (19, .agg #[.int .i64 ((hmeta st v).kind), .int .i64 ((hmeta st v).p), .int .i64 ((hmeta st v).q), .string ((hmeta st v).str), .int .i64 ((hmeta st v).ref)]), (21, .agg #[.int .i64 ((strV ev).kind), .int .i64 ((strV ev).p), .int .i64 ((strV ev).q), .string ((strV ev).str), .int .i64 ((strV ev).ref)])]) (fun g8 => blkA g8 #[.int .i64 0, .int .i64 0, .int .i64 0, .string ByteArray.empty, .int .i64 0] 26 :: blkA g3 #[.int .i64 ((hmeta st v).kind), .int .i64 ((hmeta st v).p), .int .i64 ((hmeta st v).q), .string ((hmeta st v).str), .int .i64 ((hmeta st v).ref)] 26 :: hpA b st :: blkA g2 #[.int .i64 0, .int .i64 0, .int .i64 0, .string ByteArray.empty, .int .i64 0] 26 :: blkA g1 #[.int .i64 v.kind, .int .i64 v.p, .int .i64 v.q, .string v.str, .int .i64 v.ref] 26 :: F) ?_ (fun hj11 => ?_)
  ·
   rintro g8
   try dsimp only
   refine h_stepS 4 ?_
   refine s_call [2] (hget_s (st := st) hsm (by omega) (hmeta st v) (strV ev)) ?_
   rintro _ _ ⟨rfl, rfl⟩
   refine s_nil (xs_held [2, 2, 2] ?_)
   refine hp_ 5 [2, 2, 2] (.tuple #[.agg #[.int .i64 ((hgetV st (hmeta st v) (strV ev)).kind), .int .i64 ((hgetV st (hmeta st v) (strV ev)).p), .int .i64 ((hgetV st (hmeta st v) (strV ev)).q), .string ((hgetV st (hmeta st v) (strV ev)).str), .int .i64 ((hgetV st (hmeta st v) (strV ev)).ref)], .int .i64 (hgetE st (hmeta st v))]) ?_
   refine hp_ 6 [2, 2, 2] (.agg #[.int .i64 ((hgetV st (hmeta st v) (strV ev)).kind), .int .i64 ((hgetV st (hmeta st v) (strV ev)).p), .int .i64 ((hgetV st (hmeta st v) (strV ev)).q), .string ((hgetV st (hmeta st v) (strV ev)).str), .int .i64 ((hgetV st (hmeta st v) (strV ev)).ref)]) ?_
   refine hp_ 7 [2, 2, 2] (.int .i64 (hgetE st (hmeta st v))) ?_
   exact h_use hj10 g8 (fun _ h => h.re [1, 0, 0, 0, 0] [])
  refine h_stepS2 3 8 ?_ ?_
  ·
   refine s_vcall (fun _ h => ofstr_s ev) ?_
   rintro _ rfl
   refine s_nil (xs_held [0, 1, 1] ?_)
   refine h_stepS2 4 8 ?_ ?_
   ·
    refine s_call [1] (hget_s (st := st) hsm (by omega) (hmeta st v) (strV ev)) ?_
    rintro _ _ ⟨rfl, rfl⟩
    refine s_nil (xs_held [1, 1, 1] ?_)
    refine hp_ 5 [1, 1, 1] (.tuple #[.agg #[.int .i64 ((hgetV st (hmeta st v) (strV ev)).kind), .int .i64 ((hgetV st (hmeta st v) (strV ev)).p), .int .i64 ((hgetV st (hmeta st v) (strV ev)).q), .string ((hgetV st (hmeta st v) (strV ev)).str), .int .i64 ((hgetV st (hmeta st v) (strV ev)).ref)], .int .i64 (hgetE st (hmeta st v))]) ?_
    refine hp_ 6 [1, 1, 1] (.agg #[.int .i64 ((hgetV st (hmeta st v) (strV ev)).kind), .int .i64 ((hgetV st (hmeta st v) (strV ev)).p), .int .i64 ((hgetV st (hmeta st v) (strV ev)).q), .string ((hgetV st (hmeta st v) (strV ev)).str), .int .i64 ((hgetV st (hmeta st v) (strV ev)).ref)]) ?_
    refine hp_ 7 [1, 1, 1] (.int .i64 (hgetE st (hmeta st v))) ?_
    refine h_stepS 8 ?_
    refine s_alloc (.agg #[.int .i64 0, .int .i64 0, .int .i64 0, .string ByteArray.empty, .int .i64 0]) #[.int .i64 0, .int .i64 0, .int .i64 0, .string ByteArray.empty, .int .i64 0] (fun g12 => ?_)
    refine s_nil (xs_held [2, 2, 2] ?_)
    exact h_use hj10 g12 (fun _ h => h.re [0, 0, 0, 0, 0] [])
   ·
    refine s_alloc (.agg #[.int .i64 0, .int .i64 0, .int .i64 0, .string ByteArray.empty, .int .i64 0]) #[.int .i64 0, .int .i64 0, .int .i64 0, .string ByteArray.empty, .int .i64 0] (fun g13 => ?_)
    refine s_nil (xs_held [1, 2, 2] ?_)
    exact h_use hj11 g13 (fun _ h => h.re [0, 0, 0, 0, 0] [])
  ·
   refine s_alloc (.agg #[.int .i64 0, .int .i64 0, .int .i64 0, .string ByteArray.empty, .int .i64 0]) #[.int .i64 0, .int .i64 0, .int .i64 0, .string ByteArray.empty, .int .i64 0] (fun g14 => ?_)
   refine s_nil (xs_held [1, 2, 2] ?_)
   refine h_stepS 3 ?_
   refine s_vcall (fun _ h => ofstr_s ev) ?_
   rintro _ rfl
   refine s_nil (xs_held [1, 2, 2] ?_)
   exact h_use hj11 g14 (fun _ h => h.re [0, 0, 0, 0, 0] [])
/-- The value of a specification. -/
def ofS (L : List Vl) (s : Spc) : Vl := if 0 < s.obj ∧ 0 < L.length then (L[(Int.tmod s.obj (L.length : Int)).toNat]?).getD zVl else s.v
theorem large_step {X : List Spc} {i : Nat} {y : Spc} (h : ∀ s ∈ X.take i, (s.v.str.size : Int) ≤ 5000) (hy : X[i]? = some y) (h2 : (y.v.str.size : Int) ≤ 5000) : ∀ s ∈ X.take (i + 1), (s.v.str.size : Int) ≤ 5000 := fun s hs => by
  rw [List.take_add_one, hy] at hs
  rcases List.mem_append.1 hs with hs | hs
  · exact h s hs
  · rw [Option.toList_some, List.mem_singleton] at hs; rw [hs]; exact h2
theorem large0_s {Z : Zone} {mv : Value} {M : List Spc} (hM0 : Kn Z SpT mv M) (hM : M.length ≤ 9223372036854775807) : SF Tryz.prog 5 #[.slice none 0 0, mv] Z [] fun r Bs => ∃ x, r = .bool x ∧ (x = false → ∀ s ∈ M, (s.v.str.size : Int) ≤ 5000) ∧ Bs = [] := by
 refine sf_enter Tryz.func5 49 [(0, (.slice none 0 0)), (1, mv)] (fun w0 => ?_)
 refine k_fact (fun H h => (hM0.get h).len_le) (fun lA => ?_)
 refine k_sr ?_
 refine sp (.bool false) ?_
 refine s_nt ?_
 refine k_seq ?_
 refine k_sr ?_
 refine sp (.int .i64 0) ?_
 refine s_nt ?_
 refine k_block ?_
 refine k_loop (ι := Nat) (fun i => i ≤ 0) (fun i => [(0, (.slice none 0 0)), (1, mv), (5, .int .i64 (i : Int))]) (fun i => []) (fun i => 0) 0 (Nat.le_refl _) (sub_of rfl ⟨⟨rfl, rfl⟩, ⟨⟨rfl, rfl⟩, ⟨⟨rfl, rfl⟩, trivial⟩⟩⟩) (fun _ h => h.re [] []) ?_
 rintro i hi1
 show SK _ _ _ _ _ [(0, (.slice none 0 0)), (1, mv), (5, .int .i64 (i : Int))] _ []
 refine k_seq ?_
 refine k_sr ?_
 refine sp (.int .i64 (i : Int)) ?_
 refine sp (.slice none 0 0) ?_
 refine s_lt (t_len OpT_ok Tryz.underlying22 .nil) ?_
 refine s_lt (Lt.to t_cmp (congrArg Value.bool (decide_eq_false (by simp) : (decide ((i : Int) < ([].length : Int))) = false))) ?_
 refine sp (.bool false) ?_
 refine s_skip ?_
 refine s_skip ?_
 refine sp (.bool false) ?_
 refine s_nt ?_
 refine k_false ?_
 refine k_exit ?_
 refine xs_exit ?_
 refine xs_exit ?_
 refine xs_here ?_
 refine xs_then ?_
 refine k_seq ?_
 refine k_sr ?_
 refine sp (.int .i64 0) ?_
 refine s_nt ?_
 refine k_block ?_
 refine k_loop (ι := Nat) (fun j => j ≤ M.length ∧ ∀ s ∈ M.take j, (s.v.str.size : Int) ≤ 5000) (fun j => [(1, mv), (6, .int .i64 (j : Int))]) (fun j => []) (fun j => M.length - j) 0 ⟨by omega, by simp⟩ (sub_of rfl ⟨⟨rfl, rfl⟩, ⟨⟨rfl, rfl⟩, trivial⟩⟩) (fun _ h => h.re [] []) ?_
 rintro j hi2
 show SK _ _ _ _ _ [(1, mv), (6, .int .i64 (j : Int))] _ []
 refine k_seq ?_
 refine k_sr ?_
 refine sp (.int .i64 (j : Int)) ?_
 refine sp mv ?_
 refine s_lt (t_len SpT_ok Tryz.underlying52 (.zn hM0)) ?_
 refine s_lt t_cmp ?_
 refine s_nt ?_
 refine k_cond (decide ((j : Int) < (M.length : Int))) (fun c3 => ?_) (fun c3 => ?_)
 ·
  have p4 := of_decide_eq_true c3
  refine k_st ?_
  refine k_seq ?_
  refine k_block ?_
  refine k_sr ?_
  refine sp mv ?_
  refine sp (.int .i64 (j : Int)) ?_
  refine s_lt (t_index SpT_ok Tryz.underlying52 (.zn hM0) (j : Int) j (by omega) (by (try simp only [lnm]); omega) (by omega)) ?_
  refine sp (.pointer (some (elemAt SpT.size mv j))) ?_
  refine sp (.pointer (some ((elemAt SpT.size mv j).add 3))) ?_
  obtain ⟨y5, hy6⟩ : ∃ y, M[j]? = some y := ⟨_, List.getElem?_eq_getElem (by (try simp only [lnm]); omega)⟩
  refine s_lt (t_loadF 3 SpT_ok (.zn hM0) hy6) ?_
  refine s_lt (t_kern (.int .i64 (y5.v.str.size : Int))) ?_
  refine s_lt t_cmp ?_
  refine s_nt ?_
  refine k_cond (decide ((5000 : Int) < (y5.v.str.size : Int))) (fun c7 => ?_) (fun c7 => ?_)
  ·
   have p8 := of_decide_eq_true c7
   refine k_sr ?_
   refine sp (.bool true) ?_
   refine s_nt ?_
   refine k_ret ?_
   refine xs_retBlock ?_
   refine xs_ret ?_
   refine xs_ret ?_
   refine xs_retBlock ?_
   refine xs_ret ?_
   exact xs_fin [.bool true] [] (SI.tmp 4 SI.nil) (fun _ h => h.re [] []) ⟨true, rfl, (fun h => by cases h), rfl⟩
  ·
   have p9 := of_decide_eq_false c7
   refine k_skip ?_
   refine xs_block ?_
   refine xs_then ?_
   refine k_reg ?_
   refine sp (.int .i64 (j : Int)) ?_
   refine s_lt (t_add (j : Int) 1 (by (try simp only [lnm]); omega)) ?_
   refine sp (.int .i64 ((j : Int) + 1)) ?_
   refine s_nil ?_
   exact xs_round (j + 1) (by omega) ⟨by omega, large_step hi2.2 hy6 (by omega)⟩ (sub_of rfl ⟨⟨rfl, rfl⟩, ⟨⟨rfl, rfl⟩, trivial⟩⟩) (fun _ h => h.re [] [])
 ·
  have p10 := of_decide_eq_false c3
  refine k_exit ?_
  refine xs_exit ?_
  refine xs_exit ?_
  refine xs_here ?_
  refine xs_then ?_
  refine k_sr ?_
  refine sp (.bool false) ?_
  refine s_nt ?_
  refine k_ret ?_
  refine xs_fin [.bool false] [] (SI.tmp 4 SI.nil) (fun _ h => h.re [] []) ⟨false, rfl, fun _ => ?_, rfl⟩
  have hall := hi2.2; rw [List.take_of_length_le (by omega)] at hall; exact hall
end Go.Proofs.YtplkkhpokodbmaaGreatDoor
end
section
set_option linter.unusedSimpArgs false
set_option linter.unusedVariables false
set_option maxRecDepth 100000
set_option maxHeartbeats 2000000
namespace Go.Proofs.YtplkkhpokodbmaaGreatDoor
open Go.Hp Go.J Go.S
open Go.Mem (Ty KTy blk elemAt pre suf blk_pre blk_suf aget aset strK aggDesc)
open Go.Mem (adel apos aget_aset aget_adel)
def boxB : ByteArray := ⟨#[98, 111, 120]⟩
/-- A world after an operation: the heap's state, the objects. -/
def mstep (i : Nat) (o : Opc) (s : Hst × List Vl) : Hst × List Vl :=
  if o.kind = 0 then (hmake s.1 (newO 4 0 ByteArray.empty []), if hmakeE s.1 = 0 then s.2 ++ [hmakeV s.1 4] else s.2) else
  if o.kind = 1 then (hdata s.1 boxB, if hdataE s.1 boxB = 0 then s.2 ++ [hdataV s.1 boxB] else s.2) else
  if o.kind = 2 then (hmake s.1 (newO 5 (i : Int) ByteArray.empty []), if hmakeE s.1 = 0 then s.2 ++ [hmakeV s.1 5] else s.2) else
  if o.kind = 3 then (hset s.1 (ofS s.2 o.a) (ofS s.2 o.b) (ofS s.2 o.c), s.2) else
  (hsetMeta s.1 (ofS s.2 o.a) (ofS s.2 o.b), if o.kind ≤ 2 ∧ hsetMetaE s.1 (ofS s.2 o.a) (ofS s.2 o.b) = 0 then s.2 ++ [zVl] else s.2)
def mst (l : List Opc) : Nat → Hst × List Vl
  | 0 => (hp0, [])
  | i + 1 => match l[i]? with
    | some o => mstep i o (mst l i)
    | none => mst l i
def made (l : List Opc) : Hst × List Vl := mst l (min 100 l.length)
theorem lives_s {Z : Zone} : SF Tryz.prog 6 #[] Z [] fun r Bs => r = .bool true ∧ Bs = [] := by
 refine sf_enter Tryz.func6 49 [] (fun w0 => ?_)
 refine k_sr ?_
 refine sp (.bool false) ?_
 refine s_nr ?_
 refine s_pcall (fun _ h => hnew_s) ?_
 rintro _ _ ⟨hb1, rfl, rfl⟩
 refine sp (pB hb1 0) ?_
 refine s_nt ?_
 refine k_seq ?_
 refine k_sr ?_
 refine sp (pB hb1 0) ?_
 refine sp (.bool false) ?_
 refine s_nt ?_
 refine k_false ?_
 refine k_st ?_
 refine k_sr ?_
 refine sp (pB hb1 0) ?_
 refine s_call [0] (hnewtable_s (st := hp0) (by have := HSm.nil.len; omega)) ?_
 rintro _ _ ⟨rfl, rfl⟩
 have hi2 := hmake_inv (o := (newO 4 0 ByteArray.empty [])) HInv.nil (newO_inv _ _ _ (by decide))
 have hs3 := hmake_sm (o := (newO 4 0 ByteArray.empty [])) HSm.nil rfl (by decide)
 refine sp (.tuple #[.agg #[.int .i64 ((hmakeV hp0 4).kind), .int .i64 ((hmakeV hp0 4).p), .int .i64 ((hmakeV hp0 4).q), .string ((hmakeV hp0 4).str), .int .i64 ((hmakeV hp0 4).ref)], .int .i64 (hmakeE hp0)]) ?_
 refine sp (.agg #[.int .i64 ((hmakeV hp0 4).kind), .int .i64 ((hmakeV hp0 4).p), .int .i64 ((hmakeV hp0 4).q), .string ((hmakeV hp0 4).str), .int .i64 ((hmakeV hp0 4).ref)]) ?_
 refine sp (.int .i64 (hmakeE hp0)) ?_
 refine s_alloc (.agg #[.int .i64 0, .int .i64 0, .int .i64 0, .string ByteArray.empty, .int .i64 0]) #[.int .i64 0, .int .i64 0, .int .i64 0, .string ByteArray.empty, .int .i64 0] (fun g4 => ?_)
 refine s_store 0 #[.int .i64 ((hmakeV hp0 4).kind), .int .i64 ((hmakeV hp0 4).p), .int .i64 ((hmakeV hp0 4).q), .string ((hmakeV hp0 4).str), .int .i64 ((hmakeV hp0 4).ref)] ?_
 refine sp (.int .i64 (hmakeE hp0)) ?_
 refine s_nr ?_
 refine sp (pB hb1 0) ?_
 refine s_call [1] (hnewtable_s (st := (hmake hp0 (newO 4 0 ByteArray.empty []))) (by have := hs3.len; omega)) ?_
 rintro _ _ ⟨rfl, rfl⟩
 have hi5 := hmake_inv (o := (newO 4 0 ByteArray.empty [])) hi2 (newO_inv _ _ _ (by decide))
 have hs6 := hmake_sm (o := (newO 4 0 ByteArray.empty [])) hs3 rfl (by decide)
 refine sp (.tuple #[.agg #[.int .i64 ((hmakeV (hmake hp0 (newO 4 0 ByteArray.empty [])) 4).kind), .int .i64 ((hmakeV (hmake hp0 (newO 4 0 ByteArray.empty [])) 4).p), .int .i64 ((hmakeV (hmake hp0 (newO 4 0 ByteArray.empty [])) 4).q), .string ((hmakeV (hmake hp0 (newO 4 0 ByteArray.empty [])) 4).str), .int .i64 ((hmakeV (hmake hp0 (newO 4 0 ByteArray.empty [])) 4).ref)], .int .i64 (hmakeE (hmake hp0 (newO 4 0 ByteArray.empty [])))]) ?_
 refine sp (.agg #[.int .i64 ((hmakeV (hmake hp0 (newO 4 0 ByteArray.empty [])) 4).kind), .int .i64 ((hmakeV (hmake hp0 (newO 4 0 ByteArray.empty [])) 4).p), .int .i64 ((hmakeV (hmake hp0 (newO 4 0 ByteArray.empty [])) 4).q), .string ((hmakeV (hmake hp0 (newO 4 0 ByteArray.empty [])) 4).str), .int .i64 ((hmakeV (hmake hp0 (newO 4 0 ByteArray.empty [])) 4).ref)]) ?_
 refine sp (.int .i64 (hmakeE (hmake hp0 (newO 4 0 ByteArray.empty [])))) ?_
 refine s_alloc (.agg #[.int .i64 0, .int .i64 0, .int .i64 0, .string ByteArray.empty, .int .i64 0]) #[.int .i64 0, .int .i64 0, .int .i64 0, .string ByteArray.empty, .int .i64 0] (fun g7 => ?_)
 refine s_store 0 #[.int .i64 ((hmakeV (hmake hp0 (newO 4 0 ByteArray.empty [])) 4).kind), .int .i64 ((hmakeV (hmake hp0 (newO 4 0 ByteArray.empty [])) 4).p), .int .i64 ((hmakeV (hmake hp0 (newO 4 0 ByteArray.empty [])) 4).q), .string ((hmakeV (hmake hp0 (newO 4 0 ByteArray.empty [])) 4).str), .int .i64 ((hmakeV (hmake hp0 (newO 4 0 ByteArray.empty [])) 4).ref)] ?_
 refine sp (.int .i64 (hmakeE (hmake hp0 (newO 4 0 ByteArray.empty [])))) ?_
 refine s_nt ?_
 refine k_seq ?_
 refine k_seq ?_
 refine k_held [blkA g7 #[.int .i64 ((hmakeV (hmake hp0 (newO 4 0 ByteArray.empty [])) 4).kind), .int .i64 ((hmakeV (hmake hp0 (newO 4 0 ByteArray.empty [])) 4).p), .int .i64 ((hmakeV (hmake hp0 (newO 4 0 ByteArray.empty [])) 4).q), .string ((hmakeV (hmake hp0 (newO 4 0 ByteArray.empty [])) 4).str), .int .i64 ((hmakeV (hmake hp0 (newO 4 0 ByteArray.empty [])) 4).ref)] 26, blkA g4 #[.int .i64 ((hmakeV hp0 4).kind), .int .i64 ((hmakeV hp0 4).p), .int .i64 ((hmakeV hp0 4).q), .string ((hmakeV hp0 4).str), .int .i64 ((hmakeV hp0 4).ref)] 26] ?_
 refine hp_ 0 [0, 1] (pB g4 0) ?_
 refine h_l 1 rfl [0, 1] (fun _ => (t_load 1 (.int .i64 ((hmakeV hp0 4).kind)))) ?_
 refine h_l 2 rfl [0, 1] (fun _ => (Lt.to t_cmp (congrArg Value.bool ((by kernel_rfl) : (decide ((hmakeV hp0 4).kind ≠ 4)) = false)))) ?_
 refine hp_ 3 [0, 1] (.bool false) ?_
 refine hp_ 4 [0, 1] (pB hb1 0) ?_
 refine h_l 5 rfl [0, 1] (fun _ => (t_loadA 0 #[.int .i64 ((hmakeV (hmake hp0 (newO 4 0 ByteArray.empty [])) 4).kind), .int .i64 ((hmakeV (hmake hp0 (newO 4 0 ByteArray.empty [])) 4).p), .int .i64 ((hmakeV (hmake hp0 (newO 4 0 ByteArray.empty [])) 4).q), .string ((hmakeV (hmake hp0 (newO 4 0 ByteArray.empty [])) 4).str), .int .i64 ((hmakeV (hmake hp0 (newO 4 0 ByteArray.empty [])) 4).ref)])) ?_
 refine h_stepS 6 ?_
 refine s_vcall (fun _ h => lstr_s ⟨#[95, 95, 108, 101, 110]⟩) ?_
 rintro _ rfl
 refine s_nil (xs_held [0, 1] ?_)
 refine h_stepS 7 ?_
 refine s_vcall (fun _ h => lstr_s ⟨#[120]⟩) ?_
 rintro _ rfl
 refine s_nil (xs_held [0, 1] ?_)
 refine h_stepS 8 ?_
 refine s_call [1] (hset_s (st := (hmake (hmake hp0 (newO 4 0 ByteArray.empty [])) (newO 4 0 ByteArray.empty []))) hs6 (by omega) (hmakeV (hmake hp0 (newO 4 0 ByteArray.empty [])) 4) (strV ⟨#[95, 95, 108, 101, 110]⟩) (strV ⟨#[120]⟩)) ?_
 rintro _ _ ⟨rfl, rfl⟩
 have hi8 := hset_inv hi5 (hmakeV (hmake hp0 (newO 4 0 ByteArray.empty [])) 4) (strV ⟨#[95, 95, 108, 101, 110]⟩) (strV ⟨#[120]⟩)
 have hs9 := hset_sm hi5 hs6 (hmakeV (hmake hp0 (newO 4 0 ByteArray.empty [])) 4) (strV ⟨#[95, 95, 108, 101, 110]⟩) (strV ⟨#[120]⟩)
 refine s_nil (xs_held [1, 1] ?_)
 refine h_l 9 rfl [1, 1] (fun _ => (Lt.to t_cmp (congrArg Value.bool ((by kernel_rfl) : (decide ((hsetE (hmake (hmake hp0 (newO 4 0 ByteArray.empty [])) (newO 4 0 ByteArray.empty [])) (hmakeV (hmake hp0 (newO 4 0 ByteArray.empty [])) 4) (strV ⟨#[95, 95, 108, 101, 110]⟩) (strV ⟨#[120]⟩)) ≠ 0)) = false)))) ?_
 refine hp_ 10 [1, 1] (.bool false) ?_
 refine hp_ 11 [1, 1] (.bool false) ?_
 refine hp_ 12 [1, 1] (pB hb1 0) ?_
 refine h_l 13 rfl [1, 1] (fun _ => (t_loadA 1 #[.int .i64 ((hmakeV hp0 4).kind), .int .i64 ((hmakeV hp0 4).p), .int .i64 ((hmakeV hp0 4).q), .string ((hmakeV hp0 4).str), .int .i64 ((hmakeV hp0 4).ref)])) ?_
 refine h_l 14 rfl [1, 1] (fun _ => (t_loadA 0 #[.int .i64 ((hmakeV (hmake hp0 (newO 4 0 ByteArray.empty [])) 4).kind), .int .i64 ((hmakeV (hmake hp0 (newO 4 0 ByteArray.empty [])) 4).p), .int .i64 ((hmakeV (hmake hp0 (newO 4 0 ByteArray.empty [])) 4).q), .string ((hmakeV (hmake hp0 (newO 4 0 ByteArray.empty [])) 4).str), .int .i64 ((hmakeV (hmake hp0 (newO 4 0 ByteArray.empty [])) 4).ref)])) ?_
 refine h_stepS 15 ?_
 refine s_call [0] (hsetmeta_s (st := (hset (hmake (hmake hp0 (newO 4 0 ByteArray.empty [])) (newO 4 0 ByteArray.empty [])) (hmakeV (hmake hp0 (newO 4 0 ByteArray.empty [])) 4) (strV ⟨#[95, 95, 108, 101, 110]⟩) (strV ⟨#[120]⟩))) (hmakeV hp0 4) (hmakeV (hmake hp0 (newO 4 0 ByteArray.empty [])) 4)) ?_
 rintro _ _ ⟨rfl, rfl⟩
 have hi10 := hsetMeta_inv hi8 (hmakeV hp0 4) (hmakeV (hmake hp0 (newO 4 0 ByteArray.empty [])) 4)
 have hs11 := hsetMeta_sm hs9 (hmakeV hp0 4) (hmakeV (hmake hp0 (newO 4 0 ByteArray.empty [])) 4)
 refine s_nil (xs_held [1, 1] ?_)
 refine h_l 16 rfl [1, 1] (fun _ => (Lt.to t_cmp (congrArg Value.bool ((by kernel_rfl) : (decide ((hsetMetaE (hset (hmake (hmake hp0 (newO 4 0 ByteArray.empty [])) (newO 4 0 ByteArray.empty [])) (hmakeV (hmake hp0 (newO 4 0 ByteArray.empty [])) 4) (strV ⟨#[95, 95, 108, 101, 110]⟩) (strV ⟨#[120]⟩)) (hmakeV hp0 4) (hmakeV (hmake hp0 (newO 4 0 ByteArray.empty [])) 4)) ≠ 0)) = false)))) ?_
 refine hp_ 17 [1, 1] (.bool false) ?_
 refine h_doneS ?_
 refine xs_then ?_
 refine k_false ?_
 refine k_st ?_
 refine k_sr ?_
 refine sp (pB hb1 0) ?_
 refine s_lt (t_loadA 2 #[.int .i64 ((hmakeV hp0 4).kind), .int .i64 ((hmakeV hp0 4).p), .int .i64 ((hmakeV hp0 4).q), .string ((hmakeV hp0 4).str), .int .i64 ((hmakeV hp0 4).ref)]) ?_
 refine s_call [0] (hdl_s (st := (hsetMeta (hset (hmake (hmake hp0 (newO 4 0 ByteArray.empty [])) (newO 4 0 ByteArray.empty [])) (hmakeV (hmake hp0 (newO 4 0 ByteArray.empty [])) 4) (strV ⟨#[95, 95, 108, 101, 110]⟩) (strV ⟨#[120]⟩)) (hmakeV hp0 4) (hmakeV (hmake hp0 (newO 4 0 ByteArray.empty [])) 4))) hs11 (by omega) (hmakeV hp0 4) ⟨#[95, 95, 108, 101, 110]⟩) ?_
 rintro _ _ ⟨rfl, rfl⟩
 refine s_vcall (fun _ h => lstr_s ⟨#[120]⟩) ?_
 rintro _ rfl
 refine s_lt (Lt.to (t_eqS (fun w => (eqVlT (hdl (hsetMeta (hset (hmake (hmake hp0 (newO 4 0 ByteArray.empty [])) (newO 4 0 ByteArray.empty [])) (hmakeV (hmake hp0 (newO 4 0 ByteArray.empty [])) 4) (strV ⟨#[95, 95, 108, 101, 110]⟩) (strV ⟨#[120]⟩)) (hmakeV hp0 4) (hmakeV (hmake hp0 (newO 4 0 ByteArray.empty [])) 4)) (hmakeV hp0 4) ⟨#[95, 95, 108, 101, 110]⟩) (strV ⟨#[120]⟩) w).1)) (congrArg Value.bool ((by kernel_rfl) : (decide ((hdl (hsetMeta (hset (hmake (hmake hp0 (newO 4 0 ByteArray.empty [])) (newO 4 0 ByteArray.empty [])) (hmakeV (hmake hp0 (newO 4 0 ByteArray.empty [])) 4) (strV ⟨#[95, 95, 108, 101, 110]⟩) (strV ⟨#[120]⟩)) (hmakeV hp0 4) (hmakeV (hmake hp0 (newO 4 0 ByteArray.empty [])) 4)) (hmakeV hp0 4) ⟨#[95, 95, 108, 101, 110]⟩) = (strV ⟨#[120]⟩))) = true))) ?_
 refine sp (.bool true) ?_
 refine sp (pB hb1 0) ?_
 refine s_lt (t_loadA 1 #[.int .i64 ((hmakeV (hmake hp0 (newO 4 0 ByteArray.empty [])) 4).kind), .int .i64 ((hmakeV (hmake hp0 (newO 4 0 ByteArray.empty [])) 4).p), .int .i64 ((hmakeV (hmake hp0 (newO 4 0 ByteArray.empty [])) 4).q), .string ((hmakeV (hmake hp0 (newO 4 0 ByteArray.empty [])) 4).str), .int .i64 ((hmakeV (hmake hp0 (newO 4 0 ByteArray.empty [])) 4).ref)]) ?_
 refine s_call [0] (hdl_s (st := (hsetMeta (hset (hmake (hmake hp0 (newO 4 0 ByteArray.empty [])) (newO 4 0 ByteArray.empty [])) (hmakeV (hmake hp0 (newO 4 0 ByteArray.empty [])) 4) (strV ⟨#[95, 95, 108, 101, 110]⟩) (strV ⟨#[120]⟩)) (hmakeV hp0 4) (hmakeV (hmake hp0 (newO 4 0 ByteArray.empty [])) 4))) hs11 (by omega) (hmakeV (hmake hp0 (newO 4 0 ByteArray.empty [])) 4) ⟨#[95, 95, 108, 101, 110]⟩) ?_
 rintro _ _ ⟨rfl, rfl⟩
 refine s_lt (t_kern (.agg #[.int .i64 0, .int .i64 0, .int .i64 0, .string ByteArray.empty, .int .i64 0])) ?_
 refine s_lt (Lt.to (t_eqS (fun w => (eqVlT (hdl (hsetMeta (hset (hmake (hmake hp0 (newO 4 0 ByteArray.empty [])) (newO 4 0 ByteArray.empty [])) (hmakeV (hmake hp0 (newO 4 0 ByteArray.empty [])) 4) (strV ⟨#[95, 95, 108, 101, 110]⟩) (strV ⟨#[120]⟩)) (hmakeV hp0 4) (hmakeV (hmake hp0 (newO 4 0 ByteArray.empty [])) 4)) (hmakeV (hmake hp0 (newO 4 0 ByteArray.empty [])) 4) ⟨#[95, 95, 108, 101, 110]⟩) zVl w).1)) (congrArg Value.bool ((by kernel_rfl) : (decide ((hdl (hsetMeta (hset (hmake (hmake hp0 (newO 4 0 ByteArray.empty [])) (newO 4 0 ByteArray.empty [])) (hmakeV (hmake hp0 (newO 4 0 ByteArray.empty [])) 4) (strV ⟨#[95, 95, 108, 101, 110]⟩) (strV ⟨#[120]⟩)) (hmakeV hp0 4) (hmakeV (hmake hp0 (newO 4 0 ByteArray.empty [])) 4)) (hmakeV (hmake hp0 (newO 4 0 ByteArray.empty [])) 4) ⟨#[95, 95, 108, 101, 110]⟩) = zVl)) = true))) ?_
 refine sp (.bool true) ?_
 refine sp (.bool true) ?_
 refine s_nt ?_
 refine k_ret ?_
 exact xs_fin [.bool true] [] (SI.tmp 0 SI.nil) (fun _ h => h.re [] [0, 0, 0]) ⟨rfl, rfl⟩
end Go.Proofs.YtplkkhpokodbmaaGreatDoor
end
section
set_option linter.unusedSimpArgs false
set_option linter.unusedVariables false
set_option maxRecDepth 100000
set_option maxHeartbeats 2000000
namespace Go.Proofs.YtplkkhpokodbmaaGreatDoor
open Go.Hp Go.J Go.S
open Go.Mem (Ty KTy blk elemAt pre suf blk_pre blk_suf aget aset strK aggDesc)
open Go.Mem (adel apos aget_aset aget_adel)
def strW (s : ByteArray) : Value := .string s
def typeB (n : Int) : ByteArray := if n = 8 then ⟨#[117, 115, 101, 114, 100, 97, 116, 97]⟩ else if n = 7 then ⟨#[116, 104, 114, 101, 97, 100]⟩ else if n = 6 then ⟨#[102, 117, 110, 99, 116, 105, 111, 110]⟩ else if n = 5 then ⟨#[102, 117, 110, 99, 116, 105, 111, 110]⟩ else if n = 4 then ⟨#[116, 97, 98, 108, 101]⟩ else if n = 3 then ⟨#[115, 116, 114, 105, 110, 103]⟩ else if n = 2 then ⟨#[110, 117, 109, 98, 101, 114]⟩ else if n = 1 then ⟨#[98, 111, 111, 108, 101, 97, 110]⟩ else if n = 0 then ⟨#[110, 105, 108]⟩ else ByteArray.empty
def namesL : List (Int × ByteArray) := (aset (aset (aset (aset (aset (aset (aset (aset (aset [] 0 ⟨#[110, 105, 108]⟩) 1 ⟨#[98, 111, 111, 108, 101, 97, 110]⟩) 2 ⟨#[110, 117, 109, 98, 101, 114]⟩) 3 ⟨#[115, 116, 114, 105, 110, 103]⟩) 4 ⟨#[116, 97, 98, 108, 101]⟩) 5 ⟨#[102, 117, 110, 99, 116, 105, 111, 110]⟩) 6 ⟨#[102, 117, 110, 99, 116, 105, 111, 110]⟩) 7 ⟨#[116, 104, 114, 101, 97, 100]⟩) 8 ⟨#[117, 115, 101, 114, 100, 97, 116, 97]⟩)
theorem names_get (n : Int) : ((aget namesL n).map strW).getD (.string ByteArray.empty) = .string (typeB n) := by
  by_cases h8 : n = 8
  · subst h8; rfl
  by_cases h7 : n = 7
  · subst h7; rfl
  by_cases h6 : n = 6
  · subst h6; rfl
  by_cases h5 : n = 5
  · subst h5; rfl
  by_cases h4 : n = 4
  · subst h4; rfl
  by_cases h3 : n = 3
  · subst h3; rfl
  by_cases h2 : n = 2
  · subst h2; rfl
  by_cases h1 : n = 1
  · subst h1; rfl
  by_cases h0 : n = 0
  · subst h0; rfl
  simp [namesL, typeB, aget_aset, h0, h1, h2, h3, h4, h5, h6, h7, h8, Ne.symm h0, Ne.symm h1, Ne.symm h2, Ne.symm h3, Ne.symm h4, Ne.symm h5, Ne.symm h6, Ne.symm h7, Ne.symm h8]
  rfl
theorem typeB_size (n : Int) : (typeB n).size ≤ 10 := by
  unfold typeB
  repeat' split
  all_goals decide
theorem cat_le {a b : ByteArray} {n m : Nat} (ha : a.size ≤ n) (hb : b.size ≤ m) : (a ++ b).size ≤ n + m := by rw [ByteArray.size_append]; omega
theorem cat_ok {a b : ByteArray} {n m : Nat} (ha : a.size ≤ n) (hb : b.size ≤ m) (h : n + m ≤ 100000) : ((a.size : Int) + b.size) ≤ 9223372036854775807 := by omega
theorem names_s {Z : Zone} : SF Tryz.prog 114 #[] Z [] fun r Bs => ∃ b, r = .map (some b) ∧ Bs = [mpA iK strW b namesL] := by
 refine sf_enter Tryz.func114 3 [] (fun w0 => ?_)
 refine k_sr ?_
 refine sp (.map none) ?_
 refine s_nr ?_
 refine s_makeMap iK strW (fun b1 => ?_)
 refine s_insert 0 intOk Tryz.underlying130 0 (⟨#[110, 105, 108]⟩ : ByteArray) ?_
 refine s_insert 0 intOk Tryz.underlying130 1 (⟨#[98, 111, 111, 108, 101, 97, 110]⟩ : ByteArray) ?_
 refine s_insert 0 intOk Tryz.underlying130 2 (⟨#[110, 117, 109, 98, 101, 114]⟩ : ByteArray) ?_
 refine s_insert 0 intOk Tryz.underlying130 3 (⟨#[115, 116, 114, 105, 110, 103]⟩ : ByteArray) ?_
 refine s_insert 0 intOk Tryz.underlying130 4 (⟨#[116, 97, 98, 108, 101]⟩ : ByteArray) ?_
 refine s_insert 0 intOk Tryz.underlying130 5 (⟨#[102, 117, 110, 99, 116, 105, 111, 110]⟩ : ByteArray) ?_
 refine s_insert 0 intOk Tryz.underlying130 6 (⟨#[102, 117, 110, 99, 116, 105, 111, 110]⟩ : ByteArray) ?_
 refine s_insert 0 intOk Tryz.underlying130 7 (⟨#[116, 104, 114, 101, 97, 100]⟩ : ByteArray) ?_
 refine s_insert 0 intOk Tryz.underlying130 8 (⟨#[117, 115, 101, 114, 100, 97, 116, 97]⟩ : ByteArray) ?_
 refine sp (.map (some b1)) ?_
 refine sp (.map (some b1)) ?_
 refine s_nt ?_
 refine k_ret ?_
 exact xs_fin [.map (some b1)] [mpA iK strW b1 namesL] (SI.tmp 0 SI.nil) (fun _ h => h.re [0] []) ⟨b1, rfl, rfl⟩
theorem type_s {Z : Zone} (v : Vl) : SF Tryz.prog 88 #[v.v] Z [] fun r Bs => r = .string (typeB v.kind) ∧ Bs = [] := by
 refine sf_enter Tryz.func88 7 [(0, .agg #[.int .i64 v.kind, .int .i64 v.p, .int .i64 v.q, .string v.str, .int .i64 v.ref])] (fun w0 => ?_)
 refine k_sr ?_
 refine s_box #[.int .i64 v.kind, .int .i64 v.p, .int .i64 v.q, .string v.str, .int .i64 v.ref] (fun g1 => ?_)
 refine sp (.string ByteArray.empty) ?_
 refine s_nt ?_
 refine k_seq ?_
 refine k_held [blkA g1 #[.int .i64 v.kind, .int .i64 v.p, .int .i64 v.q, .string v.str, .int .i64 v.ref] 26] ?_
 refine hp_ 1 [0] (pB g1 0) ?_
 refine h_l 2 rfl [0] (fun _ => (t_load 0 (.int .i64 v.kind))) ?_
 refine h_stepS 0 ?_
 refine s_pcall (fun _ h => names_s) ?_
 rintro _ _ ⟨nb2, rfl, rfl⟩
 refine s_nil (xs_held [1] ?_)
 refine h_stepS 3 ?_
 refine s_lt (Lt.to (t_lookup 0 intOk Tryz.underlying130 (.string ByteArray.empty) v.kind) (names_get _)) ?_
 refine s_nil (xs_held [1] ?_)
 refine hp_ 4 [1] (.string (typeB v.kind)) ?_
 refine h_doneS ?_
 refine xs_then ?_
 refine k_ret ?_
 exact xs_fin [.string (typeB v.kind)] [] (SI.tmp 2 SI.nil) (fun _ h => h.re [] [0, 0]) ⟨rfl, rfl⟩
theorem rtype_s {Z : Zone} (v : Vl) : SF Tryz.prog 54 #[v.v] Z [] fun r Bs => r = .string (typeB v.kind) ∧ Bs = [] := by
 refine sf_enter Tryz.func54 22 [(0, .agg #[.int .i64 v.kind, .int .i64 v.p, .int .i64 v.q, .string v.str, .int .i64 v.ref])] (fun w0 => ?_)
 refine k_sr ?_
 refine s_box #[.int .i64 v.kind, .int .i64 v.p, .int .i64 v.q, .string v.str, .int .i64 v.ref] (fun g1 => ?_)
 refine sp (.string ByteArray.empty) ?_
 refine s_nt ?_
 refine k_seq ?_
 refine k_sr ?_
 refine sp (pB g1 0) ?_
 refine s_lt (t_load 0 (.int .i64 v.kind)) ?_
 refine s_nt ?_
 refine k_block ?_
 refine k_sr ?_
 refine s_lt t_cmp ?_
 refine sp (.bool (decide (v.kind = 0))) ?_
 refine s_nt ?_
 refine k_cond (decide (v.kind = 0)) (fun c2 => ?_) (fun c2 => ?_)
 ·
  have p3 := of_decide_eq_true c2
  refine k_sr ?_
  refine sp (.string ⟨#[110, 105, 108]⟩) ?_
  refine s_nt ?_
  refine k_ret ?_
  refine xs_retBlock ?_
  refine xs_ret ?_
  refine xs_fin [.string ⟨#[110, 105, 108]⟩] [] (SI.tmp 2 SI.nil) (fun _ h => h.re [] [0]) ⟨congrArg Value.string ?_, rfl⟩
  unfold typeB; simp_all
 ·
  have p4 := of_decide_eq_false c2
  refine k_sr ?_
  refine s_lt t_cmp ?_
  refine sp (.bool (decide (v.kind = 1))) ?_
  refine s_nt ?_
  refine k_cond (decide (v.kind = 1)) (fun c5 => ?_) (fun c5 => ?_)
  ·
   have p6 := of_decide_eq_true c5
   refine k_sr ?_
   refine sp (.string ⟨#[98, 111, 111, 108, 101, 97, 110]⟩) ?_
   refine s_nt ?_
   refine k_ret ?_
   refine xs_retBlock ?_
   refine xs_ret ?_
   refine xs_fin [.string ⟨#[98, 111, 111, 108, 101, 97, 110]⟩] [] (SI.tmp 2 SI.nil) (fun _ h => h.re [] [0]) ⟨congrArg Value.string ?_, rfl⟩
   unfold typeB; simp_all
  ·
   have p7 := of_decide_eq_false c5
   refine k_sr ?_
   refine s_lt t_cmp ?_
   refine sp (.bool (decide (v.kind = 2))) ?_
   refine s_nt ?_
   refine k_cond (decide (v.kind = 2)) (fun c8 => ?_) (fun c8 => ?_)
   ·
    have p9 := of_decide_eq_true c8
    refine k_sr ?_
    refine sp (.string ⟨#[110, 117, 109, 98, 101, 114]⟩) ?_
    refine s_nt ?_
    refine k_ret ?_
    refine xs_retBlock ?_
    refine xs_ret ?_
    refine xs_fin [.string ⟨#[110, 117, 109, 98, 101, 114]⟩] [] (SI.tmp 2 SI.nil) (fun _ h => h.re [] [0]) ⟨congrArg Value.string ?_, rfl⟩
    unfold typeB; simp_all
   ·
    have p10 := of_decide_eq_false c8
    refine k_sr ?_
    refine s_lt t_cmp ?_
    refine sp (.bool (decide (v.kind = 3))) ?_
    refine s_nt ?_
    refine k_cond (decide (v.kind = 3)) (fun c11 => ?_) (fun c11 => ?_)
    ·
     have p12 := of_decide_eq_true c11
     refine k_sr ?_
     refine sp (.string ⟨#[115, 116, 114, 105, 110, 103]⟩) ?_
     refine s_nt ?_
     refine k_ret ?_
     refine xs_retBlock ?_
     refine xs_ret ?_
     refine xs_fin [.string ⟨#[115, 116, 114, 105, 110, 103]⟩] [] (SI.tmp 2 SI.nil) (fun _ h => h.re [] [0]) ⟨congrArg Value.string ?_, rfl⟩
     unfold typeB; simp_all
    ·
     have p13 := of_decide_eq_false c11
     refine k_sr ?_
     refine s_lt t_cmp ?_
     refine sp (.bool (decide (v.kind = 4))) ?_
     refine s_nt ?_
     refine k_cond (decide (v.kind = 4)) (fun c14 => ?_) (fun c14 => ?_)
     ·
      have p15 := of_decide_eq_true c14
      refine k_sr ?_
      refine sp (.string ⟨#[116, 97, 98, 108, 101]⟩) ?_
      refine s_nt ?_
      refine k_ret ?_
      refine xs_retBlock ?_
      refine xs_ret ?_
      refine xs_fin [.string ⟨#[116, 97, 98, 108, 101]⟩] [] (SI.tmp 2 SI.nil) (fun _ h => h.re [] [0]) ⟨congrArg Value.string ?_, rfl⟩
      unfold typeB; simp_all
     ·
      have p16 := of_decide_eq_false c14
      refine k_seq ?_
      refine k_sr ?_
      refine s_lt t_cmp ?_
      refine sp (.bool (decide (v.kind = 5))) ?_
      refine s_nt ?_
      refine k_cond (decide (v.kind = 5)) (fun c17 => ?_) (fun c17 => ?_)
      ·
       have p18 := of_decide_eq_true c17
       refine k_st ?_
       refine k_true (hv := congrArg Value.bool c17) ?_
       refine k_sr ?_
       refine sp (.string ⟨#[102, 117, 110, 99, 116, 105, 111, 110]⟩) ?_
       refine s_nt ?_
       refine k_ret ?_
       refine xs_retBlock ?_
       refine xs_ret ?_
       refine xs_fin [.string ⟨#[102, 117, 110, 99, 116, 105, 111, 110]⟩] [] (SI.tmp 2 SI.nil) (fun _ h => h.re [] [0]) ⟨congrArg Value.string ?_, rfl⟩
       unfold typeB; simp_all
      ·
       have p19 := of_decide_eq_false c17
       refine k_reg ?_
       refine s_lt t_cmp ?_
       refine sp (.bool (decide (v.kind = 6))) ?_
       refine s_nt ?_
       refine k_cond (decide (v.kind = 6)) (fun c20 => ?_) (fun c20 => ?_)
       ·
        have p21 := of_decide_eq_true c20
        refine k_sr ?_
        refine sp (.string ⟨#[102, 117, 110, 99, 116, 105, 111, 110]⟩) ?_
        refine s_nt ?_
        refine k_ret ?_
        refine xs_retBlock ?_
        refine xs_ret ?_
        refine xs_fin [.string ⟨#[102, 117, 110, 99, 116, 105, 111, 110]⟩] [] (SI.tmp 2 SI.nil) (fun _ h => h.re [] [0]) ⟨congrArg Value.string ?_, rfl⟩
        unfold typeB; simp_all
       ·
        have p22 := of_decide_eq_false c20
        refine k_sr ?_
        refine s_lt t_cmp ?_
        refine sp (.bool (decide (v.kind = 7))) ?_
        refine s_nt ?_
        refine k_cond (decide (v.kind = 7)) (fun c23 => ?_) (fun c23 => ?_)
        ·
         have p24 := of_decide_eq_true c23
         refine k_sr ?_
         refine sp (.string ⟨#[116, 104, 114, 101, 97, 100]⟩) ?_
         refine s_nt ?_
         refine k_ret ?_
         refine xs_retBlock ?_
         refine xs_ret ?_
         refine xs_fin [.string ⟨#[116, 104, 114, 101, 97, 100]⟩] [] (SI.tmp 2 SI.nil) (fun _ h => h.re [] [0]) ⟨congrArg Value.string ?_, rfl⟩
         unfold typeB; simp_all
        ·
         have p25 := of_decide_eq_false c23
         refine k_sr ?_
         refine s_lt t_cmp ?_
         refine sp (.bool (decide (v.kind = 8))) ?_
         refine s_nt ?_
         refine k_cond (decide (v.kind = 8)) (fun c26 => ?_) (fun c26 => ?_)
         ·
          have p27 := of_decide_eq_true c26
          refine k_sr ?_
          refine sp (.string ⟨#[117, 115, 101, 114, 100, 97, 116, 97]⟩) ?_
          refine s_nt ?_
          refine k_ret ?_
          refine xs_retBlock ?_
          refine xs_ret ?_
          refine xs_fin [.string ⟨#[117, 115, 101, 114, 100, 97, 116, 97]⟩] [] (SI.tmp 2 SI.nil) (fun _ h => h.re [] [0]) ⟨congrArg Value.string ?_, rfl⟩
          unfold typeB; simp_all
         ·
          have p28 := of_decide_eq_false c26
          refine k_skip ?_
          refine xs_block ?_
          refine xs_then ?_
          refine k_sr ?_
          refine sp (.string ByteArray.empty) ?_
          refine s_nt ?_
          refine k_ret ?_
          refine xs_fin [.string ByteArray.empty] [] (SI.tmp 2 SI.nil) (fun _ h => h.re [] [0]) ⟨congrArg Value.string ?_, rfl⟩
          unfold typeB; simp_all
def attB (n : Int) : ByteArray := (⟨#[97, 116, 116, 101, 109, 112, 116, 32, 116, 111, 32, 105, 110, 100, 101, 120, 32, 97, 32]⟩ ++ typeB n) ++ ⟨#[32, 118, 97, 108, 117, 101]⟩
def lenB (n : Int) : ByteArray := (⟨#[97, 116, 116, 101, 109, 112, 116, 32, 116, 111, 32, 103, 101, 116, 32, 108, 101, 110, 103, 116, 104, 32, 111, 102, 32, 97, 32]⟩ ++ typeB n) ++ ⟨#[32, 118, 97, 108, 117, 101]⟩
theorem attempt_s {Z : Zone} (v : Vl) : SF Tryz.prog 49 #[.string ⟨#[105, 110, 100, 101, 120]⟩, v.v] Z [] fun r Bs => r = .string (attB v.kind) ∧ Bs = [] := by
 refine sf_enter Tryz.func49 12 [(0, .string ⟨#[105, 110, 100, 101, 120]⟩), (1, .agg #[.int .i64 v.kind, .int .i64 v.p, .int .i64 v.q, .string v.str, .int .i64 v.ref])] (fun w0 => ?_)
 refine k_sr ?_
 refine s_box #[.int .i64 v.kind, .int .i64 v.p, .int .i64 v.q, .string v.str, .int .i64 v.ref] (fun g1 => ?_)
 refine sp (.string ByteArray.empty) ?_
 refine s_nr ?_
 refine sp (.string ⟨#[105, 110, 100, 101, 120]⟩) ?_
 refine s_lt (Lt.to (v' := .string ⟨#[97, 116, 116, 101, 109, 112, 116, 32, 116, 111, 32, 105, 110, 100, 101, 120]⟩) (t_cat ⟨#[97, 116, 116, 101, 109, 112, 116, 32, 116, 111, 32]⟩ ⟨#[105, 110, 100, 101, 120]⟩ (cat_ok (by decide : (⟨#[97, 116, 116, 101, 109, 112, 116, 32, 116, 111, 32]⟩ : ByteArray).size ≤ 11) (by decide : (⟨#[105, 110, 100, 101, 120]⟩ : ByteArray).size ≤ 5) (by decide))) (by kernel_rfl)) ?_
 refine s_lt (Lt.to (v' := .string ⟨#[97, 116, 116, 101, 109, 112, 116, 32, 116, 111, 32, 105, 110, 100, 101, 120, 32, 97, 32]⟩) (t_cat ⟨#[97, 116, 116, 101, 109, 112, 116, 32, 116, 111, 32, 105, 110, 100, 101, 120]⟩ ⟨#[32, 97, 32]⟩ (cat_ok (by decide : (⟨#[97, 116, 116, 101, 109, 112, 116, 32, 116, 111, 32, 105, 110, 100, 101, 120]⟩ : ByteArray).size ≤ 16) (by decide : (⟨#[32, 97, 32]⟩ : ByteArray).size ≤ 3) (by decide))) (by kernel_rfl)) ?_
 refine s_lt (t_loadA 0 #[.int .i64 v.kind, .int .i64 v.p, .int .i64 v.q, .string v.str, .int .i64 v.ref]) ?_
 refine s_vcall (fun _ h => type_s v) ?_
 rintro _ rfl
 refine s_lt (t_cat ⟨#[97, 116, 116, 101, 109, 112, 116, 32, 116, 111, 32, 105, 110, 100, 101, 120, 32, 97, 32]⟩ (typeB v.kind) (cat_ok (by decide : (⟨#[97, 116, 116, 101, 109, 112, 116, 32, 116, 111, 32, 105, 110, 100, 101, 120, 32, 97, 32]⟩ : ByteArray).size ≤ 19) (typeB_size _) (by decide))) ?_
 refine s_lt (t_cat (⟨#[97, 116, 116, 101, 109, 112, 116, 32, 116, 111, 32, 105, 110, 100, 101, 120, 32, 97, 32]⟩ ++ (typeB v.kind)) ⟨#[32, 118, 97, 108, 117, 101]⟩ (cat_ok (cat_le (by decide : (⟨#[97, 116, 116, 101, 109, 112, 116, 32, 116, 111, 32, 105, 110, 100, 101, 120, 32, 97, 32]⟩ : ByteArray).size ≤ 19) (typeB_size _)) (by decide : (⟨#[32, 118, 97, 108, 117, 101]⟩ : ByteArray).size ≤ 6) (by decide))) ?_
 refine sp (.string ((⟨#[97, 116, 116, 101, 109, 112, 116, 32, 116, 111, 32, 105, 110, 100, 101, 120, 32, 97, 32]⟩ ++ (typeB v.kind)) ++ ⟨#[32, 118, 97, 108, 117, 101]⟩)) ?_
 refine s_nt ?_
 refine k_ret ?_
 exact xs_fin [.string ((⟨#[97, 116, 116, 101, 109, 112, 116, 32, 116, 111, 32, 105, 110, 100, 101, 120, 32, 97, 32]⟩ ++ (typeB v.kind)) ++ ⟨#[32, 118, 97, 108, 117, 101]⟩)] [] (SI.tmp 4 SI.nil) (fun _ h => h.re [] [0]) ⟨rfl, rfl⟩
theorem attempt2_s {Z : Zone} (v : Vl) : SF Tryz.prog 49 #[.string ⟨#[103, 101, 116, 32, 108, 101, 110, 103, 116, 104, 32, 111, 102]⟩, v.v] Z [] fun r Bs => r = .string (lenB v.kind) ∧ Bs = [] := by
 refine sf_enter Tryz.func49 12 [(0, .string ⟨#[103, 101, 116, 32, 108, 101, 110, 103, 116, 104, 32, 111, 102]⟩), (1, .agg #[.int .i64 v.kind, .int .i64 v.p, .int .i64 v.q, .string v.str, .int .i64 v.ref])] (fun w0 => ?_)
 refine k_sr ?_
 refine s_box #[.int .i64 v.kind, .int .i64 v.p, .int .i64 v.q, .string v.str, .int .i64 v.ref] (fun g1 => ?_)
 refine sp (.string ByteArray.empty) ?_
 refine s_nr ?_
 refine sp (.string ⟨#[103, 101, 116, 32, 108, 101, 110, 103, 116, 104, 32, 111, 102]⟩) ?_
 refine s_lt (Lt.to (v' := .string ⟨#[97, 116, 116, 101, 109, 112, 116, 32, 116, 111, 32, 103, 101, 116, 32, 108, 101, 110, 103, 116, 104, 32, 111, 102]⟩) (t_cat ⟨#[97, 116, 116, 101, 109, 112, 116, 32, 116, 111, 32]⟩ ⟨#[103, 101, 116, 32, 108, 101, 110, 103, 116, 104, 32, 111, 102]⟩ (cat_ok (by decide : (⟨#[97, 116, 116, 101, 109, 112, 116, 32, 116, 111, 32]⟩ : ByteArray).size ≤ 11) (by decide : (⟨#[103, 101, 116, 32, 108, 101, 110, 103, 116, 104, 32, 111, 102]⟩ : ByteArray).size ≤ 13) (by decide))) (by kernel_rfl)) ?_
 refine s_lt (Lt.to (v' := .string ⟨#[97, 116, 116, 101, 109, 112, 116, 32, 116, 111, 32, 103, 101, 116, 32, 108, 101, 110, 103, 116, 104, 32, 111, 102, 32, 97, 32]⟩) (t_cat ⟨#[97, 116, 116, 101, 109, 112, 116, 32, 116, 111, 32, 103, 101, 116, 32, 108, 101, 110, 103, 116, 104, 32, 111, 102]⟩ ⟨#[32, 97, 32]⟩ (cat_ok (by decide : (⟨#[97, 116, 116, 101, 109, 112, 116, 32, 116, 111, 32, 103, 101, 116, 32, 108, 101, 110, 103, 116, 104, 32, 111, 102]⟩ : ByteArray).size ≤ 24) (by decide : (⟨#[32, 97, 32]⟩ : ByteArray).size ≤ 3) (by decide))) (by kernel_rfl)) ?_
 refine s_lt (t_loadA 0 #[.int .i64 v.kind, .int .i64 v.p, .int .i64 v.q, .string v.str, .int .i64 v.ref]) ?_
 refine s_vcall (fun _ h => type_s v) ?_
 rintro _ rfl
 refine s_lt (t_cat ⟨#[97, 116, 116, 101, 109, 112, 116, 32, 116, 111, 32, 103, 101, 116, 32, 108, 101, 110, 103, 116, 104, 32, 111, 102, 32, 97, 32]⟩ (typeB v.kind) (cat_ok (by decide : (⟨#[97, 116, 116, 101, 109, 112, 116, 32, 116, 111, 32, 103, 101, 116, 32, 108, 101, 110, 103, 116, 104, 32, 111, 102, 32, 97, 32]⟩ : ByteArray).size ≤ 27) (typeB_size _) (by decide))) ?_
 refine s_lt (t_cat (⟨#[97, 116, 116, 101, 109, 112, 116, 32, 116, 111, 32, 103, 101, 116, 32, 108, 101, 110, 103, 116, 104, 32, 111, 102, 32, 97, 32]⟩ ++ (typeB v.kind)) ⟨#[32, 118, 97, 108, 117, 101]⟩ (cat_ok (cat_le (by decide : (⟨#[97, 116, 116, 101, 109, 112, 116, 32, 116, 111, 32, 103, 101, 116, 32, 108, 101, 110, 103, 116, 104, 32, 111, 102, 32, 97, 32]⟩ : ByteArray).size ≤ 27) (typeB_size _)) (by decide : (⟨#[32, 118, 97, 108, 117, 101]⟩ : ByteArray).size ≤ 6) (by decide))) ?_
 refine sp (.string ((⟨#[97, 116, 116, 101, 109, 112, 116, 32, 116, 111, 32, 103, 101, 116, 32, 108, 101, 110, 103, 116, 104, 32, 111, 102, 32, 97, 32]⟩ ++ (typeB v.kind)) ++ ⟨#[32, 118, 97, 108, 117, 101]⟩)) ?_
 refine s_nt ?_
 refine k_ret ?_
 exact xs_fin [.string ((⟨#[97, 116, 116, 101, 109, 112, 116, 32, 116, 111, 32, 103, 101, 116, 32, 108, 101, 110, 103, 116, 104, 32, 111, 102, 32, 97, 32]⟩ ++ (typeB v.kind)) ++ ⟨#[32, 118, 97, 108, 117, 101]⟩)] [] (SI.tmp 4 SI.nil) (fun _ h => h.re [] [0]) ⟨rfl, rfl⟩
theorem rindex_s {Z : Zone} (v : Vl) : SF Tryz.prog 63 #[v.v] Z [] fun r Bs => r = .string (attB v.kind) ∧ Bs = [] := by
 refine sf_enter Tryz.func63 7 [(0, .agg #[.int .i64 v.kind, .int .i64 v.p, .int .i64 v.q, .string v.str, .int .i64 v.ref])] (fun w0 => ?_)
 refine k_sr ?_
 refine s_box #[.int .i64 v.kind, .int .i64 v.p, .int .i64 v.q, .string v.str, .int .i64 v.ref] (fun g1 => ?_)
 refine sp (.string ByteArray.empty) ?_
 refine s_nr ?_
 refine s_lt (t_loadA 0 #[.int .i64 v.kind, .int .i64 v.p, .int .i64 v.q, .string v.str, .int .i64 v.ref]) ?_
 refine s_vcall (fun _ h => rtype_s v) ?_
 rintro _ rfl
 refine s_lt (t_cat ⟨#[97, 116, 116, 101, 109, 112, 116, 32, 116, 111, 32, 105, 110, 100, 101, 120, 32, 97, 32]⟩ (typeB v.kind) (cat_ok (by decide : (⟨#[97, 116, 116, 101, 109, 112, 116, 32, 116, 111, 32, 105, 110, 100, 101, 120, 32, 97, 32]⟩ : ByteArray).size ≤ 19) (typeB_size _) (by decide))) ?_
 refine s_lt (t_cat (⟨#[97, 116, 116, 101, 109, 112, 116, 32, 116, 111, 32, 105, 110, 100, 101, 120, 32, 97, 32]⟩ ++ (typeB v.kind)) ⟨#[32, 118, 97, 108, 117, 101]⟩ (cat_ok (cat_le (by decide : (⟨#[97, 116, 116, 101, 109, 112, 116, 32, 116, 111, 32, 105, 110, 100, 101, 120, 32, 97, 32]⟩ : ByteArray).size ≤ 19) (typeB_size _)) (by decide : (⟨#[32, 118, 97, 108, 117, 101]⟩ : ByteArray).size ≤ 6) (by decide))) ?_
 refine sp (.string ((⟨#[97, 116, 116, 101, 109, 112, 116, 32, 116, 111, 32, 105, 110, 100, 101, 120, 32, 97, 32]⟩ ++ (typeB v.kind)) ++ ⟨#[32, 118, 97, 108, 117, 101]⟩)) ?_
 refine s_nt ?_
 refine k_ret ?_
 exact xs_fin [.string ((⟨#[97, 116, 116, 101, 109, 112, 116, 32, 116, 111, 32, 105, 110, 100, 101, 120, 32, 97, 32]⟩ ++ (typeB v.kind)) ++ ⟨#[32, 118, 97, 108, 117, 101]⟩)] [] (SI.tmp 2 SI.nil) (fun _ h => h.re [] [0]) ⟨rfl, rfl⟩
def libB (s : ByteArray) : Bool := (decide (s = ⟨#[98, 121, 116, 101]⟩) || (decide (s = ⟨#[99, 104, 97, 114]⟩) || (decide (s = ⟨#[102, 105, 110, 100]⟩) || (decide (s = ⟨#[102, 111, 114, 109, 97, 116]⟩) || (decide (s = ⟨#[103, 109, 97, 116, 99, 104]⟩) || (decide (s = ⟨#[103, 115, 117, 98]⟩) || (decide (s = ⟨#[108, 101, 110]⟩) || (decide (s = ⟨#[108, 111, 119, 101, 114]⟩) || (decide (s = ⟨#[109, 97, 116, 99, 104]⟩) || (decide (s = ⟨#[114, 101, 112]⟩) || (decide (s = ⟨#[114, 101, 118, 101, 114, 115, 101]⟩) || (decide (s = ⟨#[115, 117, 98]⟩) || decide (s = ⟨#[117, 112, 112, 101, 114]⟩)))))))))))))
theorem lib_size {s : ByteArray} (h : libB s = true) : s.size ≤ 10 := by
  simp only [libB, Bool.or_eq_true, decide_eq_true_eq] at h
  rcases h with rfl | rfl | rfl | rfl | rfl | rfl | rfl | rfl | rfl | rfl | rfl | rfl | rfl <;> decide
/-- The function of strings of a name. -/
def methV (k : Vl) : Vl := if k.kind = 3 ∧ libB k.str = true then ⟨6, 0, 0, ⟨#[115, 116, 114, 105, 110, 103, 46]⟩ ++ k.str, 0⟩ else zVl
theorem lib_s {Z : Zone} (s : ByteArray) : SF Tryz.prog 62 #[.string s] Z [] fun r Bs => r = .bool (libB s) ∧ Bs = [] := by
 refine sf_enter Tryz.func62 18 [(0, .string s)] (fun w0 => ?_)
 refine k_sr ?_
 refine sp (.bool false) ?_
 refine s_nt ?_
 refine k_seq ?_
 refine k_sr ?_
 refine sp (.string s) ?_
 refine s_nt ?_
 refine k_block ?_
 refine k_seq ?_
 refine k_sr ?_
 refine s_lt t_cmpS ?_
 refine sp (.bool (decide (s = ⟨#[98, 121, 116, 101]⟩))) ?_
 refine s_nt ?_
 refine k_cond (decide (s = ⟨#[98, 121, 116, 101]⟩)) (fun c1 => ?_) (fun c1 => ?_)
 ·
  have p2 := of_decide_eq_true c1
  refine k_st ?_
  refine k_true (hv := congrArg Value.bool c1) ?_
  refine k_sr ?_
  refine sp (.bool true) ?_
  refine s_nt ?_
  refine k_ret ?_
  refine xs_retBlock ?_
  refine xs_ret ?_
  refine xs_fin [.bool true] [] (SI.tmp 2 SI.nil) (fun _ h => h.re [] []) ⟨congrArg Value.bool ?_, rfl⟩
  unfold libB; first | rfl | simp_all
 ·
  have p3 := of_decide_eq_false c1
  refine k_sr ?_
  refine s_lt t_cmpS ?_
  refine sp (.bool (decide (s = ⟨#[99, 104, 97, 114]⟩))) ?_
  refine s_nt ?_
  refine k_cond (decide (s = ⟨#[99, 104, 97, 114]⟩)) (fun c4 => ?_) (fun c4 => ?_)
  ·
   have p5 := of_decide_eq_true c4
   refine k_st ?_
   refine k_true (hv := congrArg Value.bool c4) ?_
   refine k_sr ?_
   refine sp (.bool true) ?_
   refine s_nt ?_
   refine k_ret ?_
   refine xs_retBlock ?_
   refine xs_ret ?_
   refine xs_fin [.bool true] [] (SI.tmp 2 SI.nil) (fun _ h => h.re [] []) ⟨congrArg Value.bool ?_, rfl⟩
   unfold libB; first | rfl | simp_all
  ·
   have p6 := of_decide_eq_false c4
   refine k_sr ?_
   refine s_lt t_cmpS ?_
   refine sp (.bool (decide (s = ⟨#[102, 105, 110, 100]⟩))) ?_
   refine s_nt ?_
   refine k_cond (decide (s = ⟨#[102, 105, 110, 100]⟩)) (fun c7 => ?_) (fun c7 => ?_)
   ·
    have p8 := of_decide_eq_true c7
    refine k_st ?_
    refine k_true (hv := congrArg Value.bool c7) ?_
    refine k_sr ?_
    refine sp (.bool true) ?_
    refine s_nt ?_
    refine k_ret ?_
    refine xs_retBlock ?_
    refine xs_ret ?_
    refine xs_fin [.bool true] [] (SI.tmp 2 SI.nil) (fun _ h => h.re [] []) ⟨congrArg Value.bool ?_, rfl⟩
    unfold libB; first | rfl | simp_all
   ·
    have p9 := of_decide_eq_false c7
    refine k_sr ?_
    refine s_lt t_cmpS ?_
    refine sp (.bool (decide (s = ⟨#[102, 111, 114, 109, 97, 116]⟩))) ?_
    refine s_nt ?_
    refine k_cond (decide (s = ⟨#[102, 111, 114, 109, 97, 116]⟩)) (fun c10 => ?_) (fun c10 => ?_)
    ·
     have p11 := of_decide_eq_true c10
     refine k_st ?_
     refine k_true (hv := congrArg Value.bool c10) ?_
     refine k_sr ?_
     refine sp (.bool true) ?_
     refine s_nt ?_
     refine k_ret ?_
     refine xs_retBlock ?_
     refine xs_ret ?_
     refine xs_fin [.bool true] [] (SI.tmp 2 SI.nil) (fun _ h => h.re [] []) ⟨congrArg Value.bool ?_, rfl⟩
     unfold libB; first | rfl | simp_all
    ·
     have p12 := of_decide_eq_false c10
     refine k_sr ?_
     refine s_lt t_cmpS ?_
     refine sp (.bool (decide (s = ⟨#[103, 109, 97, 116, 99, 104]⟩))) ?_
     refine s_nt ?_
     refine k_cond (decide (s = ⟨#[103, 109, 97, 116, 99, 104]⟩)) (fun c13 => ?_) (fun c13 => ?_)
     ·
      have p14 := of_decide_eq_true c13
      refine k_st ?_
      refine k_true (hv := congrArg Value.bool c13) ?_
      refine k_sr ?_
      refine sp (.bool true) ?_
      refine s_nt ?_
      refine k_ret ?_
      refine xs_retBlock ?_
      refine xs_ret ?_
      refine xs_fin [.bool true] [] (SI.tmp 2 SI.nil) (fun _ h => h.re [] []) ⟨congrArg Value.bool ?_, rfl⟩
      unfold libB; first | rfl | simp_all
     ·
      have p15 := of_decide_eq_false c13
      refine k_sr ?_
      refine s_lt t_cmpS ?_
      refine sp (.bool (decide (s = ⟨#[103, 115, 117, 98]⟩))) ?_
      refine s_nt ?_
      refine k_cond (decide (s = ⟨#[103, 115, 117, 98]⟩)) (fun c16 => ?_) (fun c16 => ?_)
      ·
       have p17 := of_decide_eq_true c16
       refine k_st ?_
       refine k_true (hv := congrArg Value.bool c16) ?_
       refine k_sr ?_
       refine sp (.bool true) ?_
       refine s_nt ?_
       refine k_ret ?_
       refine xs_retBlock ?_
       refine xs_ret ?_
       refine xs_fin [.bool true] [] (SI.tmp 2 SI.nil) (fun _ h => h.re [] []) ⟨congrArg Value.bool ?_, rfl⟩
       unfold libB; first | rfl | simp_all
      ·
       have p18 := of_decide_eq_false c16
       refine k_sr ?_
       refine s_lt t_cmpS ?_
       refine sp (.bool (decide (s = ⟨#[108, 101, 110]⟩))) ?_
       refine s_nt ?_
       refine k_cond (decide (s = ⟨#[108, 101, 110]⟩)) (fun c19 => ?_) (fun c19 => ?_)
       ·
        have p20 := of_decide_eq_true c19
        refine k_st ?_
        refine k_true (hv := congrArg Value.bool c19) ?_
        refine k_sr ?_
        refine sp (.bool true) ?_
        refine s_nt ?_
        refine k_ret ?_
        refine xs_retBlock ?_
        refine xs_ret ?_
        refine xs_fin [.bool true] [] (SI.tmp 2 SI.nil) (fun _ h => h.re [] []) ⟨congrArg Value.bool ?_, rfl⟩
        unfold libB; first | rfl | simp_all
       ·
        have p21 := of_decide_eq_false c19
        refine k_sr ?_
        refine s_lt t_cmpS ?_
        refine sp (.bool (decide (s = ⟨#[108, 111, 119, 101, 114]⟩))) ?_
        refine s_nt ?_
        refine k_cond (decide (s = ⟨#[108, 111, 119, 101, 114]⟩)) (fun c22 => ?_) (fun c22 => ?_)
        ·
         have p23 := of_decide_eq_true c22
         refine k_st ?_
         refine k_true (hv := congrArg Value.bool c22) ?_
         refine k_sr ?_
         refine sp (.bool true) ?_
         refine s_nt ?_
         refine k_ret ?_
         refine xs_retBlock ?_
         refine xs_ret ?_
         refine xs_fin [.bool true] [] (SI.tmp 2 SI.nil) (fun _ h => h.re [] []) ⟨congrArg Value.bool ?_, rfl⟩
         unfold libB; first | rfl | simp_all
        ·
         have p24 := of_decide_eq_false c22
         refine k_sr ?_
         refine s_lt t_cmpS ?_
         refine sp (.bool (decide (s = ⟨#[109, 97, 116, 99, 104]⟩))) ?_
         refine s_nt ?_
         refine k_cond (decide (s = ⟨#[109, 97, 116, 99, 104]⟩)) (fun c25 => ?_) (fun c25 => ?_)
         ·
          have p26 := of_decide_eq_true c25
          refine k_st ?_
          refine k_true (hv := congrArg Value.bool c25) ?_
          refine k_sr ?_
          refine sp (.bool true) ?_
          refine s_nt ?_
          refine k_ret ?_
          refine xs_retBlock ?_
          refine xs_ret ?_
          refine xs_fin [.bool true] [] (SI.tmp 2 SI.nil) (fun _ h => h.re [] []) ⟨congrArg Value.bool ?_, rfl⟩
          unfold libB; first | rfl | simp_all
         ·
          have p27 := of_decide_eq_false c25
          refine k_sr ?_
          refine s_lt t_cmpS ?_
          refine sp (.bool (decide (s = ⟨#[114, 101, 112]⟩))) ?_
          refine s_nt ?_
          refine k_cond (decide (s = ⟨#[114, 101, 112]⟩)) (fun c28 => ?_) (fun c28 => ?_)
          ·
           have p29 := of_decide_eq_true c28
           refine k_st ?_
           refine k_true (hv := congrArg Value.bool c28) ?_
           refine k_sr ?_
           refine sp (.bool true) ?_
           refine s_nt ?_
           refine k_ret ?_
           refine xs_retBlock ?_
           refine xs_ret ?_
           refine xs_fin [.bool true] [] (SI.tmp 2 SI.nil) (fun _ h => h.re [] []) ⟨congrArg Value.bool ?_, rfl⟩
           unfold libB; first | rfl | simp_all
          ·
           have p30 := of_decide_eq_false c28
           refine k_sr ?_
           refine s_lt t_cmpS ?_
           refine sp (.bool (decide (s = ⟨#[114, 101, 118, 101, 114, 115, 101]⟩))) ?_
           refine s_nt ?_
           refine k_cond (decide (s = ⟨#[114, 101, 118, 101, 114, 115, 101]⟩)) (fun c31 => ?_) (fun c31 => ?_)
           ·
            have p32 := of_decide_eq_true c31
            refine k_st ?_
            refine k_true (hv := congrArg Value.bool c31) ?_
            refine k_sr ?_
            refine sp (.bool true) ?_
            refine s_nt ?_
            refine k_ret ?_
            refine xs_retBlock ?_
            refine xs_ret ?_
            refine xs_fin [.bool true] [] (SI.tmp 2 SI.nil) (fun _ h => h.re [] []) ⟨congrArg Value.bool ?_, rfl⟩
            unfold libB; first | rfl | simp_all
           ·
            have p33 := of_decide_eq_false c31
            refine k_sr ?_
            refine s_lt t_cmpS ?_
            refine sp (.bool (decide (s = ⟨#[115, 117, 98]⟩))) ?_
            refine s_nt ?_
            refine k_cond (decide (s = ⟨#[115, 117, 98]⟩)) (fun c34 => ?_) (fun c34 => ?_)
            ·
             have p35 := of_decide_eq_true c34
             refine k_st ?_
             refine k_true (hv := congrArg Value.bool c34) ?_
             refine k_sr ?_
             refine sp (.bool true) ?_
             refine s_nt ?_
             refine k_ret ?_
             refine xs_retBlock ?_
             refine xs_ret ?_
             refine xs_fin [.bool true] [] (SI.tmp 2 SI.nil) (fun _ h => h.re [] []) ⟨congrArg Value.bool ?_, rfl⟩
             unfold libB; first | rfl | simp_all
            ·
             have p36 := of_decide_eq_false c34
             refine k_reg ?_
             refine s_lt t_cmpS ?_
             refine sp (.bool (decide (s = ⟨#[117, 112, 112, 101, 114]⟩))) ?_
             refine s_nt ?_
             refine k_cond (decide (s = ⟨#[117, 112, 112, 101, 114]⟩)) (fun c37 => ?_) (fun c37 => ?_)
             ·
              have p38 := of_decide_eq_true c37
              refine k_sr ?_
              refine sp (.bool true) ?_
              refine s_nt ?_
              refine k_ret ?_
              refine xs_retBlock ?_
              refine xs_ret ?_
              refine xs_fin [.bool true] [] (SI.tmp 2 SI.nil) (fun _ h => h.re [] []) ⟨congrArg Value.bool ?_, rfl⟩
              unfold libB; first | rfl | simp_all
             ·
              have p39 := of_decide_eq_false c37
              refine k_skip ?_
              refine xs_block ?_
              refine xs_then ?_
              refine k_sr ?_
              refine sp (.bool false) ?_
              refine s_nt ?_
              refine k_ret ?_
              refine xs_fin [.bool false] [] (SI.tmp 2 SI.nil) (fun _ h => h.re [] []) ⟨congrArg Value.bool ?_, rfl⟩
              unfold libB; first | rfl | simp_all
structure Nd where
  kind : Int
  val : Vl
  fn : Vl
  args : List Vl
  after : Int
  str : ByteArray
def Nd.w (x : Nd) (av : Value) : Value := .agg #[.int .i64 x.kind, .int .i64 x.val.kind, .int .i64 x.val.p, .int .i64 x.val.q, .string x.val.str, .int .i64 x.val.ref, .int .i64 x.fn.kind, .int .i64 x.fn.p, .int .i64 x.fn.q, .string x.fn.str, .int .i64 x.fn.ref, av, .int .i64 x.after, .string x.str]
def giveN (v : Vl) : Nd := ⟨1, v, zVl, [], 0, ByteArray.empty⟩
def failN (s : ByteArray) : Nd := ⟨3, zVl, zVl, [], 0, s⟩
def zNd : Nd := ⟨0, zVl, zVl, [], 0, ByteArray.empty⟩
theorem given_s {Z : Zone} (v : Vl) : SF Tryz.prog 38 #[v.v] Z [] fun r Bs => r = (giveN v).w (.slice none 0 0) ∧ Bs = [] := by
 refine sf_enter Tryz.func38 5 [(0, .agg #[.int .i64 v.kind, .int .i64 v.p, .int .i64 v.q, .string v.str, .int .i64 v.ref])] (fun w0 => ?_)
 refine k_sr ?_
 refine s_box #[.int .i64 v.kind, .int .i64 v.p, .int .i64 v.q, .string v.str, .int .i64 v.ref] (fun g1 => ?_)
 refine s_alloc (.agg #[.int .i64 0, .int .i64 0, .int .i64 0, .int .i64 0, .string ByteArray.empty, .int .i64 0, .int .i64 0, .int .i64 0, .int .i64 0, .string ByteArray.empty, .int .i64 0, (.slice none 0 0), .int .i64 0, .string ByteArray.empty]) #[.int .i64 0, .int .i64 0, .int .i64 0, .int .i64 0, .string ByteArray.empty, .int .i64 0, .int .i64 0, .int .i64 0, .int .i64 0, .string ByteArray.empty, .int .i64 0, (.slice none 0 0), .int .i64 0, .string ByteArray.empty] (fun g2 => ?_)
 refine s_nr ?_
 refine s_lt (t_loadA 1 #[.int .i64 v.kind, .int .i64 v.p, .int .i64 v.q, .string v.str, .int .i64 v.ref]) ?_
 refine s_lt (t_kern (.agg #[.int .i64 1, .int .i64 v.kind, .int .i64 v.p, .int .i64 v.q, .string v.str, .int .i64 v.ref, .int .i64 0, .int .i64 0, .int .i64 0, .string ByteArray.empty, .int .i64 0, (.slice none 0 0), .int .i64 0, .string ByteArray.empty])) ?_
 refine s_store 0 #[.int .i64 1, .int .i64 v.kind, .int .i64 v.p, .int .i64 v.q, .string v.str, .int .i64 v.ref, .int .i64 0, .int .i64 0, .int .i64 0, .string ByteArray.empty, .int .i64 0, (.slice none 0 0), .int .i64 0, .string ByteArray.empty] ?_
 refine s_nt ?_
 refine k_ret ?_
 exact xs_fin [.agg #[.int .i64 1, .int .i64 v.kind, .int .i64 v.p, .int .i64 v.q, .string v.str, .int .i64 v.ref, .int .i64 0, .int .i64 0, .int .i64 0, .string ByteArray.empty, .int .i64 0, (.slice none 0 0), .int .i64 0, .string ByteArray.empty]] [] (SI.agg 2 41 0 SI.nil) (fun _ h => h.re [] [0, 0]) ⟨rfl, rfl⟩
theorem give_s {Z : Zone} (v : Vl) : SF Tryz.prog 50 #[v.v] Z [] fun r Bs => r = (giveN v).w (.slice none 0 0) ∧ Bs = [] := by
 refine sf_enter Tryz.func50 5 [(0, .agg #[.int .i64 v.kind, .int .i64 v.p, .int .i64 v.q, .string v.str, .int .i64 v.ref])] (fun w0 => ?_)
 refine k_sr ?_
 refine s_box #[.int .i64 v.kind, .int .i64 v.p, .int .i64 v.q, .string v.str, .int .i64 v.ref] (fun g1 => ?_)
 refine s_alloc (.agg #[.int .i64 0, .int .i64 0, .int .i64 0, .int .i64 0, .string ByteArray.empty, .int .i64 0, .int .i64 0, .int .i64 0, .int .i64 0, .string ByteArray.empty, .int .i64 0, (.slice none 0 0), .int .i64 0, .string ByteArray.empty]) #[.int .i64 0, .int .i64 0, .int .i64 0, .int .i64 0, .string ByteArray.empty, .int .i64 0, .int .i64 0, .int .i64 0, .int .i64 0, .string ByteArray.empty, .int .i64 0, (.slice none 0 0), .int .i64 0, .string ByteArray.empty] (fun g2 => ?_)
 refine s_nr ?_
 refine s_lt (t_loadA 1 #[.int .i64 v.kind, .int .i64 v.p, .int .i64 v.q, .string v.str, .int .i64 v.ref]) ?_
 refine s_lt (t_kern (.agg #[.int .i64 1, .int .i64 v.kind, .int .i64 v.p, .int .i64 v.q, .string v.str, .int .i64 v.ref, .int .i64 0, .int .i64 0, .int .i64 0, .string ByteArray.empty, .int .i64 0, (.slice none 0 0), .int .i64 0, .string ByteArray.empty])) ?_
 refine s_store 0 #[.int .i64 1, .int .i64 v.kind, .int .i64 v.p, .int .i64 v.q, .string v.str, .int .i64 v.ref, .int .i64 0, .int .i64 0, .int .i64 0, .string ByteArray.empty, .int .i64 0, (.slice none 0 0), .int .i64 0, .string ByteArray.empty] ?_
 refine s_nt ?_
 refine k_ret ?_
 exact xs_fin [.agg #[.int .i64 1, .int .i64 v.kind, .int .i64 v.p, .int .i64 v.q, .string v.str, .int .i64 v.ref, .int .i64 0, .int .i64 0, .int .i64 0, .string ByteArray.empty, .int .i64 0, (.slice none 0 0), .int .i64 0, .string ByteArray.empty]] [] (SI.agg 2 41 0 SI.nil) (fun _ h => h.re [] [0, 0]) ⟨rfl, rfl⟩
theorem failed_s {Z : Zone} (s : ByteArray) : SF Tryz.prog 48 #[.string s] Z [] fun r Bs => r = (failN s).w (.slice none 0 0) ∧ Bs = [] := by
 refine sf_enter Tryz.func48 5 [(0, .string s)] (fun w0 => ?_)
 refine k_sr ?_
 refine s_alloc (.agg #[.int .i64 0, .int .i64 0, .int .i64 0, .int .i64 0, .string ByteArray.empty, .int .i64 0, .int .i64 0, .int .i64 0, .int .i64 0, .string ByteArray.empty, .int .i64 0, (.slice none 0 0), .int .i64 0, .string ByteArray.empty]) #[.int .i64 0, .int .i64 0, .int .i64 0, .int .i64 0, .string ByteArray.empty, .int .i64 0, .int .i64 0, .int .i64 0, .int .i64 0, .string ByteArray.empty, .int .i64 0, (.slice none 0 0), .int .i64 0, .string ByteArray.empty] (fun g1 => ?_)
 refine s_nr ?_
 refine sp (.string s) ?_
 refine s_lt (t_kern (.agg #[.int .i64 3, .int .i64 0, .int .i64 0, .int .i64 0, .string ByteArray.empty, .int .i64 0, .int .i64 0, .int .i64 0, .int .i64 0, .string ByteArray.empty, .int .i64 0, (.slice none 0 0), .int .i64 0, .string s])) ?_
 refine s_store 0 #[.int .i64 3, .int .i64 0, .int .i64 0, .int .i64 0, .string ByteArray.empty, .int .i64 0, .int .i64 0, .int .i64 0, .int .i64 0, .string ByteArray.empty, .int .i64 0, (.slice none 0 0), .int .i64 0, .string s] ?_
 refine s_nt ?_
 refine k_ret ?_
 exact xs_fin [.agg #[.int .i64 3, .int .i64 0, .int .i64 0, .int .i64 0, .string ByteArray.empty, .int .i64 0, .int .i64 0, .int .i64 0, .int .i64 0, .string ByteArray.empty, .int .i64 0, (.slice none 0 0), .int .i64 0, .string s]] [] (SI.agg 2 41 0 SI.nil) (fun _ h => h.re [] [0]) ⟨rfl, rfl⟩
theorem fail_s {Z : Zone} (s : ByteArray) : SF Tryz.prog 53 #[.string s] Z [] fun r Bs => r = (failN s).w (.slice none 0 0) ∧ Bs = [] := by
 refine sf_enter Tryz.func53 5 [(0, .string s)] (fun w0 => ?_)
 refine k_sr ?_
 refine s_alloc (.agg #[.int .i64 0, .int .i64 0, .int .i64 0, .int .i64 0, .string ByteArray.empty, .int .i64 0, .int .i64 0, .int .i64 0, .int .i64 0, .string ByteArray.empty, .int .i64 0, (.slice none 0 0), .int .i64 0, .string ByteArray.empty]) #[.int .i64 0, .int .i64 0, .int .i64 0, .int .i64 0, .string ByteArray.empty, .int .i64 0, .int .i64 0, .int .i64 0, .int .i64 0, .string ByteArray.empty, .int .i64 0, (.slice none 0 0), .int .i64 0, .string ByteArray.empty] (fun g1 => ?_)
 refine s_nr ?_
 refine sp (.string s) ?_
 refine s_lt (t_kern (.agg #[.int .i64 3, .int .i64 0, .int .i64 0, .int .i64 0, .string ByteArray.empty, .int .i64 0, .int .i64 0, .int .i64 0, .int .i64 0, .string ByteArray.empty, .int .i64 0, (.slice none 0 0), .int .i64 0, .string s])) ?_
 refine s_store 0 #[.int .i64 3, .int .i64 0, .int .i64 0, .int .i64 0, .string ByteArray.empty, .int .i64 0, .int .i64 0, .int .i64 0, .int .i64 0, .string ByteArray.empty, .int .i64 0, (.slice none 0 0), .int .i64 0, .string s] ?_
 refine s_nt ?_
 refine k_ret ?_
 exact xs_fin [.agg #[.int .i64 3, .int .i64 0, .int .i64 0, .int .i64 0, .string ByteArray.empty, .int .i64 0, .int .i64 0, .int .i64 0, .int .i64 0, .string ByteArray.empty, .int .i64 0, (.slice none 0 0), .int .i64 0, .string s]] [] (SI.agg 2 41 0 SI.nil) (fun _ h => h.re [] [0]) ⟨rfl, rfl⟩
/-- A closure's call, its arguments as a list. -/
theorem s_callL {P : Program} {w0 : World} {ops : Array Oper} {Q : Exit → Act → World → Prop} {n : Nat} {E : Env} {Z : Zone} {As : List Asr} {o : Oper} {rest : List Oper} {f : FuncId} {x : Operand} {xs : Array Operand} {ts : Array TypeId} {first cap : Array Value} {vals : List Value} {R : Value → List Asr → Prop} {d : Nat} {As0 : List Asr} (is : List Nat) (hc : SF P f vals.toArray Z As0 R)
    (h : ∀ v Bs, R v Bs → SL P w0 ops Q n rest ((d, v) :: E) Z Bs) (hp : rearr As is = As0 := by rfl)
    (ho : o.op = .call { callee := .value x, args := xs, argTypes := ts } := by rfl) (hf : ev E x = .func (.func f) first cap := by rfl) (hx : (first.toList ++ (xs.toList.map (ev E))) ++ cap.toList = vals := by rfl) (hd : o.dst = some d := by rfl) (hfn : isFn P f = true := by kernel_rfl) (hk : okOp ops n E o = true := by kernel_rfl) : SL P w0 ops Q n (o :: rest) E Z As :=
  s_callC is hc h hp ho hf (by apply Array.toList_inj.1; simpa using hx) hd hfn hk
theorem t_clo {P : Program} {E : Env} {Z : Zone} {As : List Asr} {o : Oper} (f : FuncId) (vs us : List Value) {xs ys : Array Operand} (ho : o.op = .makeFunc (.func f) xs ys := by rfl) (hx : xs.toList.map (ev E) = vs := by rfl) (hy : ys.toList.map (ev E) = us := by rfl) : Lt P E o Z As (.func (.func f) vs.toArray us.toArray) := t_pure _ fun w => by
  unfold execOp
  simp only [ho]
  have a : xs.map (ev E) = vs.toArray := by apply Array.toList_inj.1; simpa using hx
  have b : ys.map (ev E) = us.toArray := by apply Array.toList_inj.1; simpa using hy
  rw [a, b]; rfl
section
variable {S : Vl → Vl → Nd × Bool} {C : Vl → Vl → Nd} {H : Vl → Vl} {i : Nat} {q : Vl}
end
end Go.Proofs.YtplkkhpokodbmaaGreatDoor
end
