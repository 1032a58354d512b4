/-
  Tables of the reference. Each law says its conditions.
-/
import Derived.Test.YtplkkhpokodbmaaGreatDoorG3
import Derived.Test.YtplkkhpokodbmaaGreatDoorG2
section
set_option linter.unusedSimpArgs false
set_option linter.unusedVariables false
set_option maxRecDepth 100000
set_option maxHeartbeats 2000000
namespace Go.Proofs.YtplkkhpokodbmaaGreatDoor
open Go.Hp Go.J Go.S
open Go.Mem (Ty KTy blk elemAt pre suf blk_pre blk_suf aget aset strK aggDesc)
open Go.Mem (adel apos aget_aset aget_adel)
/-- A table of the reference in memory. -/
def rtA (b : Nat) (L : List Vl) (S : List Slt) : Asr := exA fun lv => exA fun r => stA True [blkA b #[lv, .pointer (some ⟨r, 0, none⟩)] 127, own VlT lv L, rmA r S]
theorem rt_open {b : Nat} {L : List Vl} {S : List Slt} {Z : Zone} {F : List Asr} {H : Heap} (h : Holds Z (rtA b L S :: F) H) : ∃ (lv : Value) (r : Nat), True ∧ Holds Z (blkA b #[lv, .pointer (some ⟨r, 0, none⟩)] 127 :: own VlT lv L :: rmA r S :: F) H := by
  obtain ⟨lv, h⟩ := h.open_ex
  obtain ⟨r, h⟩ := h.open_ex
  exact ⟨lv, r, h.open_st⟩
theorem rt_shut {b : Nat} {L : List Vl} {S : List Slt} {Z : Zone} {F : List Asr} {H : Heap} {lv : Value} {r : Nat} (h : Holds Z (blkA b #[lv, .pointer (some ⟨r, 0, none⟩)] 127 :: own VlT lv L :: rmA r S :: F) H) : Holds Z (rtA b L S :: F) H :=
  Holds.shut_ex lv (Holds.shut_ex r (Holds.shut_st trivial h))
theorem rt_inv {b : Nat} {L : List Vl} {S : List Slt} {Z : Zone} {F : List Asr} {H : Heap} (h : Holds Z (rtA b L S :: F) H) : OInv S := by
  obtain ⟨_, _, _, h⟩ := rt_open h; exact rm_inv (h.re [2] [])
theorem whole_not {k : Vl} (h : k.kind ≠ 2 ∨ validB k = false) : whole k = 0 := by
  unfold whole; rcases h with h | h <;> simp [h]
theorem whole_yes {k : Vl} (h1 : k.kind = 2) (h2 : validB k = true) : whole k = if k.q = 1 then k.p else 0 := by
  unfold whole; simp [h1, h2]
theorem num_valid {k : Vl} (h1 : k.kind = 2) (h2 : validB k = true) : validN k.p k.q = true := by
  unfold validB at h2
  rw [h1, if_neg (by decide), if_neg (by decide), if_pos rfl, Bool.and_eq_true] at h2
  exact h2.2
theorem oget_valid0 {S : List Slt} (h : OInv S) {k : Vl} (hk : validB k = false) : oget S k = zVl := oget_bad h (by simp [okKey, hk])
theorem tget_ref {T : Tb} (h : OInv T.rest) {k : Vl} (hb : ¬ (1 ≤ whole k ∧ whole k ≤ (T.list.length : Int))) : tget T k = oget T.rest k := by
  cases hv : validB k with
  | false => rw [tget_bad hv, oget_valid0 h hv]
  | true => exact tget_out hv hb
theorem whole_valid {k : Vl} (h : 1 ≤ whole k) : validB k = true := by
  cases hv : validB k with
  | true => rfl
  | false => rw [whole_not (.inr hv)] at h; omega
theorem rwhole_s {Z : Zone} (p q : Int) : SF Tryz.prog 126 #[.agg #[.int .i64 p, .int .i64 q]] Z [] fun r Bs => r = .tuple #[.int .i64 (if validN p q = true ∧ q = 1 then p else 0), .bool (validN p q && decide (q = 1))] ∧ Bs = [] := by
 refine sf_enter Tryz.func126 13 [(0, .agg #[.int .i64 p, .int .i64 q])] (fun w0 => ?_)
 refine k_sr ?_
 refine s_box #[.int .i64 p, .int .i64 q] (fun g1 => ?_)
 refine sp (.int .i64 0) ?_
 refine sp (.bool false) ?_
 refine s_nt ?_
 refine k_seq ?_
 refine k_sr ?_
 refine s_lt (t_loadA 0 #[.int .i64 p, .int .i64 q]) ?_
 refine s_vcall (fun _ h => rvnum_s p q) ?_
 rintro _ rfl
 refine sp (.bool (validN p q)) ?_
 refine s_fork 6 (validN p q) (fun c2 => ?_) (fun c2 => ?_)
 ·
  refine sp (pB g1 1) ?_
  refine s_lt (t_load 0 (.int .i64 q)) ?_
  refine s_lt t_cmp ?_
  refine sp (.bool (decide (q = 1))) ?_
  refine s_nt ?_
  refine k_cond (decide (q = 1)) (fun c3 => ?_) (fun c3 => ?_)
  ·
   have p4 := of_decide_eq_true c3
   refine k_sr ?_
   refine sp (pB g1 0) ?_
   refine s_lt (t_load 0 (.int .i64 p)) ?_
   refine sp (.int .i64 p) ?_
   refine sp (.bool true) ?_
   refine s_nt ?_
   refine k_ret ?_
   refine xs_ret ?_
   refine xs_fin [.int .i64 p, .bool true] [] (SI.tmp 2 (SI.tmp 3 SI.nil)) (fun _ h => h.re [] [0]) ⟨?_, rfl⟩
   show Value.tuple _ = Value.tuple _; first | (simp [c2, c3, c2, p4]; done) | simp_all
  ·
   have p5 := of_decide_eq_false c3
   refine k_st ?_
   refine k_sr ?_
   refine sp (.int .i64 0) ?_
   refine sp (.bool false) ?_
   refine s_nt ?_
   refine k_ret ?_
   refine xs_fin [.int .i64 0, .bool false] [] (SI.tmp 2 (SI.tmp 3 SI.nil)) (fun _ h => h.re [] [0]) ⟨?_, rfl⟩
   show Value.tuple _ = Value.tuple _; first | (simp [c2, c3, c2, p5]; done) | simp_all
 ·
  refine s_skip ?_
  refine s_skip ?_
  refine s_skip ?_
  refine sp (.bool false) ?_
  refine s_nt ?_
  refine k_false ?_
  refine k_st ?_
  refine k_sr ?_
  refine sp (.int .i64 0) ?_
  refine sp (.bool false) ?_
  refine s_nt ?_
  refine k_ret ?_
  refine xs_fin [.int .i64 0, .bool false] [] (SI.tmp 2 (SI.tmp 3 SI.nil)) (fun _ h => h.re [] [0]) ⟨?_, rfl⟩
  show Value.tuple _ = Value.tuple _; first | (simp [c2, c2]; done) | simp_all
theorem rwhole2_s {Z : Zone} (k : Vl) : SF Tryz.prog 108 #[k.v] Z [] fun r Bs => r = .int .i64 (whole k) ∧ Bs = [] := by
 refine sf_enter Tryz.func108 20 [(0, .agg #[.int .i64 k.kind, .int .i64 k.p, .int .i64 k.q, .string k.str, .int .i64 k.ref])] (fun w0 => ?_)
 refine k_sr ?_
 refine s_box #[.int .i64 k.kind, .int .i64 k.p, .int .i64 k.q, .string k.str, .int .i64 k.ref] (fun g1 => ?_)
 refine sp (.int .i64 0) ?_
 refine s_nt ?_
 refine k_seq ?_
 refine k_cut (ι := Unit) (fun _ => True) (fun _ => [(1, pB g1 0), (12, .bool ((decide (k.kind ≠ 2)) || (!(validB k))))]) (fun _ => [blkA g1 #[.int .i64 k.kind, .int .i64 k.p, .int .i64 k.q, .string k.str, .int .i64 k.ref] 26]) ?_ (fun _ _ => ?_)
 ·
  refine k_reg ?_
  refine sp (pB g1 0) ?_
  refine s_lt (t_load 0 (.int .i64 k.kind)) ?_
  refine s_lt t_cmp ?_
  refine sp (.bool (decide (k.kind ≠ 2))) ?_
  refine s_fork 8 (decide (k.kind ≠ 2)) (fun c2 => ?_) (fun c2 => ?_)
  ·
   have p3 := of_decide_eq_true c2
   refine s_skip ?_
   refine s_skip ?_
   refine s_skip ?_
   refine sp (.bool true) ?_
   refine s_nil ?_
   exact xs_cut () trivial (sub_of rfl ⟨⟨rfl, rfl⟩, ⟨⟨rfl, show Value.bool true = Value.bool ((decide (k.kind ≠ 2)) || (!(validB k))) by first | (simp only [c2, bls]; done) | simp [c2]⟩, trivial⟩⟩) (fun _ h => h.re [0] [])
  ·
   have p4 := Decidable.not_not.1 (of_decide_eq_false c2)
   refine s_lt (t_loadA 0 #[.int .i64 k.kind, .int .i64 k.p, .int .i64 k.q, .string k.str, .int .i64 k.ref]) ?_
   refine s_vcall (fun _ h => rvalid_s k) ?_
   rintro _ rfl
   refine sp (.bool (!(validB k))) ?_
   refine sp (.bool (!(validB k))) ?_
   refine s_nil ?_
   exact xs_cut () trivial (sub_of rfl ⟨⟨rfl, rfl⟩, ⟨⟨rfl, show Value.bool (!(validB k)) = Value.bool ((decide (k.kind ≠ 2)) || (!(validB k))) by first | (simp only [c2, bls]; done) | simp [c2]⟩, trivial⟩⟩) (fun _ h => h.re [0] [])
 ·
  refine k_cond ((decide (k.kind ≠ 2)) || (!(validB k))) (fun c5 => ?_) (fun c5 => ?_)
  ·
   have p6 := c5
   simp only [Bool.and_eq_true, Bool.or_eq_true, Bool.and_eq_false_iff, Bool.or_eq_false_iff, Bool.not_eq_true', Bool.not_eq_false', decide_eq_true_eq, decide_eq_false_iff_not] at p6
   refine k_sr ?_
   refine sp (.int .i64 0) ?_
   refine s_nt ?_
   refine k_ret ?_
   refine xs_ret ?_
   refine xs_fin [.int .i64 0] [] (SI.tmp 2 SI.nil) (fun _ h => h.re [] [0]) ⟨congrArg (Value.int .i64) ?_, rfl⟩
   exact (whole_not (by first | exact p6 | exact .inl p6 | exact .inr p6)).symm
  ·
   obtain ⟨c7, c8⟩ := or_f c5
   have p9 := Decidable.not_not.1 (of_decide_eq_false c7)
   have c10 := not_f c8
   refine k_st ?_
   refine k_sr ?_
   refine sp (pB g1 1) ?_
   refine s_lt (t_loadA 0 #[.int .i64 k.p, .int .i64 k.q]) ?_
   refine s_vcall (fun _ h => rwhole_s k.p k.q) ?_
   rintro _ rfl
   refine sp (.tuple #[.int .i64 (if validN k.p k.q = true ∧ k.q = 1 then k.p else 0), .bool (validN k.p k.q && decide (k.q = 1))]) ?_
   refine sp (.int .i64 (if validN k.p k.q = true ∧ k.q = 1 then k.p else 0)) ?_
   refine sp (.bool (validN k.p k.q && decide (k.q = 1))) ?_
   refine sp (.int .i64 (if validN k.p k.q = true ∧ k.q = 1 then k.p else 0)) ?_
   refine sp (.bool (validN k.p k.q && decide (k.q = 1))) ?_
   refine s_nr ?_
   refine sp (.int .i64 (if validN k.p k.q = true ∧ k.q = 1 then k.p else 0)) ?_
   refine sp (.int .i64 (if validN k.p k.q = true ∧ k.q = 1 then k.p else 0)) ?_
   refine s_nt ?_
   refine k_ret ?_
   refine xs_fin [.int .i64 (if validN k.p k.q = true ∧ k.q = 1 then k.p else 0)] [] (SI.tmp 2 SI.nil) (fun _ h => h.re [] [0]) ⟨congrArg (Value.int .i64) ?_, rfl⟩
   have h2 : k.kind = 2 := Decidable.not_not.1 (of_decide_eq_false c7)
   rw [whole_yes h2 c10, num_valid h2 c10]; simp
theorem rtnew_s {Z : Zone} : SF Tryz.prog 80 #[] Z [] fun r Bs => ∃ b, r = .pointer (some ⟨b, 0, none⟩) ∧ Bs = [rtA b [] []] := by
 refine sf_enter Tryz.func80 4 [] (fun w0 => ?_)
 refine k_sr ?_
 refine sp (.pointer none) ?_
 refine s_nr ?_
 refine s_pcall (fun _ h => rmnew_s) ?_
 rintro _ _ ⟨r1, rfl, rfl⟩
 refine s_lt (t_kern (.agg #[(.slice none 0 0), pB r1 0])) ?_
 refine s_box #[(.slice none 0 0), pB r1 0] (fun g2 => ?_)
 refine sp (pB g2 0) ?_
 refine s_nt ?_
 refine k_ret ?_
 refine xs_fin [pB g2 0] [rtA g2 [] []] (SI.tmp 0 SI.nil) (fun _ h => rt_shut (b := g2) (lv := .slice none 0 0) (r := r1) ((Holds.nilS (T := VlT) h).re [1, 0, 0] [])) ⟨g2, rfl, rfl⟩
theorem rtget_s {Z : Zone} {F : List Asr} {b : Nat} {L : List Vl} {S : List Slt} (hl : L.length ≤ 1000000) (hs : S.length ≤ 1000000) (k : Vl) : SF Tryz.prog 98 #[.pointer (some ⟨b, 0, none⟩), k.v] Z (rtA b L S :: F) fun r Bs => r = (tget ⟨L, S⟩ k).v ∧ Bs = rtA b L S :: F := by
 refine sf_enter Tryz.func98 36 [(0, pB b 0), (1, .agg #[.int .i64 k.kind, .int .i64 k.p, .int .i64 k.q, .string k.str, .int .i64 k.ref])] (fun w0 => ?_)
 refine k_fact (fun H h => rt_inv (h.re [0] [])) (fun hinv0 => ?_)
 have hol := okeys_len S
 refine k_sr ?_
 refine s_box #[.int .i64 k.kind, .int .i64 k.p, .int .i64 k.q, .string k.str, .int .i64 k.ref] (fun g1 => ?_)
 refine s_alloc (.agg #[.int .i64 0, .int .i64 0, .int .i64 0, .string ByteArray.empty, .int .i64 0]) #[.int .i64 0, .int .i64 0, .int .i64 0, .string ByteArray.empty, .int .i64 0] (fun g2 => ?_)
 refine s_nt ?_
 refine k_seq ?_
 refine k_sr ?_
 refine sp (pB b 0) ?_
 refine sp (.bool false) ?_
 refine s_nt ?_
 refine k_false ?_
 refine k_st ?_
 refine k_seq ?_
 refine k_sr ?_
 refine s_lt (t_loadA 1 #[.int .i64 k.kind, .int .i64 k.p, .int .i64 k.q, .string k.str, .int .i64 k.ref]) ?_
 refine s_vcall (fun _ h => rwhole2_s k) ?_
 rintro _ rfl
 refine sp (.int .i64 (whole k)) ?_
 refine s_nr ?_
 refine sp (.int .i64 (whole k)) ?_
 refine s_lt t_cmp ?_
 refine sp (.bool (decide ((1 : Int) ≤ (whole k)))) ?_
 refine s_fork 13 (decide ((1 : Int) ≤ (whole k))) (fun c3 => ?_) (fun c3 => ?_)
 ·
  have p4 := of_decide_eq_true c3
  refine sp (.int .i64 (whole k)) ?_
  refine sp (pB b 0) ?_
  refine sp (pB b 0) ?_
  refine sp (pB b 0) ?_
  refine s_mem2 (fun H h => rt_open (h.re [2] [])) (fun lv5 r6 hw => ?_)
  refine s_lt (t_load 0 lv5) ?_
  refine s_lt (t_len VlT_ok Tryz.underlying33 (.own 1)) ?_
  refine s_lt t_cmp ?_
  refine sp (.bool (decide ((whole k) ≤ (L.length : Int)))) ?_
  refine s_nt ?_
  refine k_cond (decide ((whole k) ≤ (L.length : Int))) (fun c7 => ?_) (fun c7 => ?_)
  ·
   have p8 := of_decide_eq_true c7
   refine k_sr ?_
   refine sp (pB b 0) ?_
   refine sp (pB b 0) ?_
   refine sp (pB b 0) ?_
   refine s_lt (t_load 0 lv5) ?_
   refine sp (.int .i64 (whole k)) ?_
   refine s_lt (t_sub (whole k) 1 (by (try simp only [lnm]); omega)) ?_
   refine s_lt (t_index VlT_ok Tryz.underlying33 (.own 1) ((whole k) - 1) ((((whole k) - 1)).toNat) (by omega) (by (try simp only [lnm]); omega) (by omega)) ?_
   obtain ⟨y9, hy10⟩ : ∃ y, L[(((whole k) - 1)).toNat]? = some y := ⟨_, List.getElem?_eq_getElem (by (try simp only [lnm]); omega)⟩
   refine s_lt (t_loadE VlT_ok (.own 1) hy10) ?_
   refine s_store 3 #[.int .i64 y9.kind, .int .i64 y9.p, .int .i64 y9.q, .string y9.str, .int .i64 y9.ref] ?_
   refine s_nt ?_
   refine k_ret ?_
   refine xs_ret ?_
   refine xs_mem (fun _ h => rt_shut (h.re [0, 0, 0] [])) ?_
   refine xs_fin [.agg #[.int .i64 y9.kind, .int .i64 y9.p, .int .i64 y9.q, .string y9.str, .int .i64 y9.ref]] (rtA b L S :: F) (SI.agg 4 26 1 SI.nil) (fun _ h => h.re [0] [1, 1]) ⟨?_, rfl⟩
   rw [tget_in (T := ⟨L, S⟩) (whole_valid (by omega)) (by omega) (by show _ ≤ (L.length : Int); omega) hy10]; rfl
  ·
   have p11 := of_decide_eq_false c7
   refine k_st ?_
   refine k_seq ?_
   refine k_draw ?_
   refine sp (pB b 0) ?_
   refine sp (pB b 0) ?_
   refine sp (pB b 1) ?_
   refine s_lt (t_load 0 (pB r6 0)) ?_
   refine s_lt (t_loadA 4 #[.int .i64 k.kind, .int .i64 k.p, .int .i64 k.q, .string k.str, .int .i64 k.ref]) ?_
   refine s_call [2] (rmget_s (S := S) (by (try simp only [lnm]); omega) k) ?_
   rintro _ _ ⟨rfl, rfl⟩
   refine s_store 3 #[.int .i64 ((oget S k).kind), .int .i64 ((oget S k).p), .int .i64 ((oget S k).q), .string ((oget S k).str), .int .i64 ((oget S k).ref)] ?_
   refine s_nil ?_
   refine x_dynS (fun _ h => by kernel_rfl) ?_
   refine xs_then ?_
   refine k_ret ?_
   refine xs_mem (fun _ h => rt_shut (h.re [1, 1, 0] [])) ?_
   refine xs_fin [.agg #[.int .i64 ((oget S k).kind), .int .i64 ((oget S k).p), .int .i64 ((oget S k).q), .string ((oget S k).str), .int .i64 ((oget S k).ref)]] (rtA b L S :: F) (SI.agg 4 26 1 SI.nil) (fun _ h => h.re [0] [1, 1]) ⟨?_, rfl⟩
   rw [tget_ref (T := ⟨L, S⟩) hinv0 (by show ¬ (_ ∧ _ ≤ (L.length : Int)); omega)]; rfl
 ·
  have p12 := of_decide_eq_false c3
  refine s_skip ?_
  refine s_skip ?_
  refine s_skip ?_
  refine s_skip ?_
  refine s_skip ?_
  refine s_skip ?_
  refine s_skip ?_
  refine sp (.bool false) ?_
  refine s_nt ?_
  refine k_false ?_
  refine k_st ?_
  refine k_seq ?_
  refine k_draw ?_
  refine sp (pB b 0) ?_
  refine sp (pB b 0) ?_
  refine sp (pB b 1) ?_
  refine s_mem2 (fun H h => rt_open (h.re [2] [])) (fun lv13 r14 hw => ?_)
  refine s_lt (t_load 0 (pB r14 0)) ?_
  refine s_lt (t_loadA 4 #[.int .i64 k.kind, .int .i64 k.p, .int .i64 k.q, .string k.str, .int .i64 k.ref]) ?_
  refine s_call [2] (rmget_s (S := S) (by (try simp only [lnm]); omega) k) ?_
  rintro _ _ ⟨rfl, rfl⟩
  refine s_store 3 #[.int .i64 ((oget S k).kind), .int .i64 ((oget S k).p), .int .i64 ((oget S k).q), .string ((oget S k).str), .int .i64 ((oget S k).ref)] ?_
  refine s_nil ?_
  refine x_dynS (fun _ h => by kernel_rfl) ?_
  refine xs_then ?_
  refine k_ret ?_
  refine xs_mem (fun _ h => rt_shut (h.re [1, 1, 0] [])) ?_
  refine xs_fin [.agg #[.int .i64 ((oget S k).kind), .int .i64 ((oget S k).p), .int .i64 ((oget S k).q), .string ((oget S k).str), .int .i64 ((oget S k).ref)]] (rtA b L S :: F) (SI.agg 4 26 1 SI.nil) (fun _ h => h.re [0] [1, 1]) ⟨?_, rfl⟩
  rw [tget_ref (T := ⟨L, S⟩) hinv0 (by show ¬ (_ ∧ _ ≤ (L.length : Int)); omega)]; rfl
theorem rtlen_s {Z : Zone} {F : List Asr} {b : Nat} {L : List Vl} {S : List Slt} : SF Tryz.prog 95 #[.pointer (some ⟨b, 0, none⟩)] Z (rtA b L S :: F) fun r Bs => r = .int .i64 (L.length : Int) ∧ Bs = rtA b L S :: F := by
 refine sf_enter Tryz.func95 10 [(0, pB b 0)] (fun w0 => ?_)
 refine k_sr ?_
 refine sp (.int .i64 0) ?_
 refine s_nt ?_
 refine k_seq ?_
 refine k_sr ?_
 refine sp (pB b 0) ?_
 refine sp (.bool false) ?_
 refine s_nt ?_
 refine k_false ?_
 refine k_st ?_
 refine k_sr ?_
 refine sp (pB b 0) ?_
 refine sp (pB b 0) ?_
 refine sp (pB b 0) ?_
 refine s_mem2 (fun H h => rt_open (h.re [0] [])) (fun lv1 r2 hw => ?_)
 refine s_lt (t_load 0 lv1) ?_
 refine s_lt (t_len VlT_ok Tryz.underlying33 (.own 1)) ?_
 refine sp (.int .i64 (L.length : Int)) ?_
 refine s_nt ?_
 refine k_ret ?_
 refine xs_mem (fun _ h => rt_shut (h.re [0, 0, 0] [])) ?_
 refine xs_fin [.int .i64 (L.length : Int)] (rtA b L S :: F) (SI.tmp 2 SI.nil) (fun _ h => h.re [0] []) ⟨?_, rfl⟩
 rfl
theorem rtpurge_s {Z : Zone} {F : List Asr} {b : Nat} {L : List Vl} {S : List Slt} (hl : L.length ≤ 1000000) (hs : S.length ≤ 100000) {n : Nat} {x : Int} (hn : n ≤ L.length) (hx : x = (n : Int) + 1) : SF Tryz.prog 112 #[.pointer (some ⟨b, 0, none⟩), .int .i64 x] Z (rtA b L S :: F) fun r Bs => r = .tuple #[] ∧ Bs = rtA b L (if staleB S n L.length then purge S L.length else S) :: F := by
 refine sf_enter Tryz.func112 90 [(0, pB b 0), (1, .int .i64 x)] (fun w0 => ?_)
 refine k_fact (fun H h => rt_inv (h.re [0] [])) (fun hinv0 => ?_)
 have hol := okeys_len S
 refine k_sr ?_
 refine sp (.bool false) ?_
 refine s_nt ?_
 refine k_seq ?_
 refine k_sr ?_
 refine sp (.int .i64 x) ?_
 refine sp (.int .i64 x) ?_
 refine s_nt ?_
 refine k_block ?_
 refine k_loop (ι := Nat) (fun j => n ≤ j ∧ j ≤ L.length) (fun j => [(0, pB b 0), (4, .bool (staleB S n j)), (5, .int .i64 ((j : Int) + 1))]) (fun j => rtA b L S :: F) (fun j => L.length - j) n ⟨Nat.le_refl _, hn⟩ (sub_of rfl ⟨⟨rfl, rfl⟩, ⟨⟨rfl, congrArg Value.bool (staleB_self S n).symm⟩, ⟨⟨rfl, congrArg (Value.int .i64) hx⟩, trivial⟩⟩⟩) (fun _ h => h.re [0] []) ?_
 rintro j hi1
 show SK _ _ _ _ _ [(0, .pointer (some ⟨b, 0, none⟩)), (4, .bool (staleB S n j)), (5, .int .i64 ((j : Int) + 1))] _ (rtA b L S :: F)
 refine k_seq ?_
 refine k_sr ?_
 refine sp (.int .i64 ((j : Int) + 1)) ?_
 refine sp (pB b 0) ?_
 refine sp (pB b 0) ?_
 refine sp (pB b 0) ?_
 refine s_mem2 (fun H h => rt_open (h.re [0] [])) (fun lv2 r3 hw => ?_)
 refine s_lt (t_load 0 lv2) ?_
 refine s_lt (t_len VlT_ok Tryz.underlying33 (.own 1)) ?_
 refine s_lt t_cmp ?_
 refine s_nt ?_
 refine k_cond (decide (((j : Int) + 1) ≤ (L.length : Int))) (fun c4 => ?_) (fun c4 => ?_)
 ·
  have p5 := of_decide_eq_true c4
  refine k_st ?_
  refine k_seq ?_
  refine k_block ?_
  refine k_cut (ι := Unit) (fun _ => True) (fun _ => [(0, pB b 0), (4, .bool (staleB S n j)), (5, .int .i64 ((j : Int) + 1)), (9, .int .i64 ((onext S (ofI ((j : Int) + 1))).2.2.2))]) (fun _ => blkA b #[lv2, pB r3 0] 127 :: own VlT lv2 L :: rmA r3 S :: F) ?_ (fun _ _ => ?_)
  ·
   refine k_held [blkA b #[lv2, pB r3 0] 127, own VlT lv2 L] ?_
   refine hp_ 0 [0, 0] (pB b 0) ?_
   refine hp_ 1 [0, 0] (pB b 0) ?_
   refine hp_ 2 [0, 0] (pB b 1) ?_
   refine h_l 3 rfl [0, 0] (fun _ => (t_load 0 (pB r3 0))) ?_
   refine hp_ 4 [0, 0] (.int .i64 ((j : Int) + 1)) ?_
   refine h_stepS3 5 12 13 ?_ ?_ ?_
   ·
    refine s_vcall (fun _ h => rkey_s ((j : Int) + 1)) ?_
    rintro _ rfl
    refine s_nil (xs_held [0, 0] ?_)
    refine h_stepS3 6 12 13 ?_ ?_ ?_
    ·
     refine s_call [2] (rmnext_s (S := S) (by (try simp only [lnm]); omega) (ofI ((j : Int) + 1))) ?_
     rintro _ _ ⟨rfl, rfl⟩
     refine s_nil (xs_held [1, 1] ?_)
     refine hp_ 7 [1, 1] (.tuple #[.agg #[.int .i64 (((onext S (ofI ((j : Int) + 1))).1).kind), .int .i64 (((onext S (ofI ((j : Int) + 1))).1).p), .int .i64 (((onext S (ofI ((j : Int) + 1))).1).q), .string (((onext S (ofI ((j : Int) + 1))).1).str), .int .i64 (((onext S (ofI ((j : Int) + 1))).1).ref)], .agg #[.int .i64 (((onext S (ofI ((j : Int) + 1))).2.1).kind), .int .i64 (((onext S (ofI ((j : Int) + 1))).2.1).p), .int .i64 (((onext S (ofI ((j : Int) + 1))).2.1).q), .string (((onext S (ofI ((j : Int) + 1))).2.1).str), .int .i64 (((onext S (ofI ((j : Int) + 1))).2.1).ref)], .bool ((onext S (ofI ((j : Int) + 1))).2.2.1), .int .i64 ((onext S (ofI ((j : Int) + 1))).2.2.2)]) ?_
     refine hp_ 8 [1, 1] (.agg #[.int .i64 (((onext S (ofI ((j : Int) + 1))).1).kind), .int .i64 (((onext S (ofI ((j : Int) + 1))).1).p), .int .i64 (((onext S (ofI ((j : Int) + 1))).1).q), .string (((onext S (ofI ((j : Int) + 1))).1).str), .int .i64 (((onext S (ofI ((j : Int) + 1))).1).ref)]) ?_
     refine hp_ 9 [1, 1] (.agg #[.int .i64 (((onext S (ofI ((j : Int) + 1))).2.1).kind), .int .i64 (((onext S (ofI ((j : Int) + 1))).2.1).p), .int .i64 (((onext S (ofI ((j : Int) + 1))).2.1).q), .string (((onext S (ofI ((j : Int) + 1))).2.1).str), .int .i64 (((onext S (ofI ((j : Int) + 1))).2.1).ref)]) ?_
     refine hp_ 10 [1, 1] (.bool ((onext S (ofI ((j : Int) + 1))).2.2.1)) ?_
     refine hp_ 11 [1, 1] (.int .i64 ((onext S (ofI ((j : Int) + 1))).2.2.2)) ?_
     refine h_stepS2 12 13 ?_ ?_
     ·
      refine s_alloc (.agg #[.int .i64 0, .int .i64 0, .int .i64 0, .string ByteArray.empty, .int .i64 0]) #[.int .i64 0, .int .i64 0, .int .i64 0, .string ByteArray.empty, .int .i64 0] (fun g6 => ?_)
      refine s_nil (xs_held [2, 2] ?_)
      refine h_stepS 13 ?_
      refine s_alloc (.agg #[.int .i64 0, .int .i64 0, .int .i64 0, .string ByteArray.empty, .int .i64 0]) #[.int .i64 0, .int .i64 0, .int .i64 0, .string ByteArray.empty, .int .i64 0] (fun g7 => ?_)
      refine s_nil (xs_held [3, 3] ?_)
      refine h_stepS 14 ?_
      refine s_store 1 #[.int .i64 (((onext S (ofI ((j : Int) + 1))).1).kind), .int .i64 (((onext S (ofI ((j : Int) + 1))).1).p), .int .i64 (((onext S (ofI ((j : Int) + 1))).1).q), .string (((onext S (ofI ((j : Int) + 1))).1).str), .int .i64 (((onext S (ofI ((j : Int) + 1))).1).ref)] ?_
      refine s_nil (xs_held [3, 3] ?_)
      refine h_stepS 15 ?_
      refine s_store 0 #[.int .i64 (((onext S (ofI ((j : Int) + 1))).2.1).kind), .int .i64 (((onext S (ofI ((j : Int) + 1))).2.1).p), .int .i64 (((onext S (ofI ((j : Int) + 1))).2.1).q), .string (((onext S (ofI ((j : Int) + 1))).2.1).str), .int .i64 (((onext S (ofI ((j : Int) + 1))).2.1).ref)] ?_
      refine s_nil (xs_held [3, 3] ?_)
      refine hp_ 16 [3, 3] (.bool ((onext S (ofI ((j : Int) + 1))).2.2.1)) ?_
      refine hp_ 17 [3, 3] (.int .i64 ((onext S (ofI ((j : Int) + 1))).2.2.2)) ?_
      refine h_doneS ?_
      exact xcut () (fun _ h => h.re [3, 3, 2] [3, 3])
     ·
      refine s_alloc (.agg #[.int .i64 0, .int .i64 0, .int .i64 0, .string ByteArray.empty, .int .i64 0]) #[.int .i64 0, .int .i64 0, .int .i64 0, .string ByteArray.empty, .int .i64 0] (fun g8 => ?_)
      refine s_nil (xs_held [2, 2] ?_)
      refine h_stepS 12 ?_
      refine s_alloc (.agg #[.int .i64 0, .int .i64 0, .int .i64 0, .string ByteArray.empty, .int .i64 0]) #[.int .i64 0, .int .i64 0, .int .i64 0, .string ByteArray.empty, .int .i64 0] (fun g9 => ?_)
      refine s_nil (xs_held [3, 3] ?_)
      refine h_stepS 14 ?_
      refine s_store 0 #[.int .i64 (((onext S (ofI ((j : Int) + 1))).1).kind), .int .i64 (((onext S (ofI ((j : Int) + 1))).1).p), .int .i64 (((onext S (ofI ((j : Int) + 1))).1).q), .string (((onext S (ofI ((j : Int) + 1))).1).str), .int .i64 (((onext S (ofI ((j : Int) + 1))).1).ref)] ?_
      refine s_nil (xs_held [3, 3] ?_)
      refine h_stepS 15 ?_
      refine s_store 1 #[.int .i64 (((onext S (ofI ((j : Int) + 1))).2.1).kind), .int .i64 (((onext S (ofI ((j : Int) + 1))).2.1).p), .int .i64 (((onext S (ofI ((j : Int) + 1))).2.1).q), .string (((onext S (ofI ((j : Int) + 1))).2.1).str), .int .i64 (((onext S (ofI ((j : Int) + 1))).2.1).ref)] ?_
      refine s_nil (xs_held [3, 3] ?_)
      refine hp_ 16 [3, 3] (.bool ((onext S (ofI ((j : Int) + 1))).2.2.1)) ?_
      refine hp_ 17 [3, 3] (.int .i64 ((onext S (ofI ((j : Int) + 1))).2.2.2)) ?_
      refine h_doneS ?_
      exact xcut () (fun _ h => h.re [3, 3, 2] [3, 3])
    ·
     refine s_alloc (.agg #[.int .i64 0, .int .i64 0, .int .i64 0, .string ByteArray.empty, .int .i64 0]) #[.int .i64 0, .int .i64 0, .int .i64 0, .string ByteArray.empty, .int .i64 0] (fun g10 => ?_)
     refine s_nil (xs_held [1, 1] ?_)
     refine h_stepS2 6 13 ?_ ?_
     ·
      refine s_call [3] (rmnext_s (S := S) (by (try simp only [lnm]); omega) (ofI ((j : Int) + 1))) ?_
      rintro _ _ ⟨rfl, rfl⟩
      refine s_nil (xs_held [2, 2] ?_)
      refine hp_ 7 [2, 2] (.tuple #[.agg #[.int .i64 (((onext S (ofI ((j : Int) + 1))).1).kind), .int .i64 (((onext S (ofI ((j : Int) + 1))).1).p), .int .i64 (((onext S (ofI ((j : Int) + 1))).1).q), .string (((onext S (ofI ((j : Int) + 1))).1).str), .int .i64 (((onext S (ofI ((j : Int) + 1))).1).ref)], .agg #[.int .i64 (((onext S (ofI ((j : Int) + 1))).2.1).kind), .int .i64 (((onext S (ofI ((j : Int) + 1))).2.1).p), .int .i64 (((onext S (ofI ((j : Int) + 1))).2.1).q), .string (((onext S (ofI ((j : Int) + 1))).2.1).str), .int .i64 (((onext S (ofI ((j : Int) + 1))).2.1).ref)], .bool ((onext S (ofI ((j : Int) + 1))).2.2.1), .int .i64 ((onext S (ofI ((j : Int) + 1))).2.2.2)]) ?_
      refine hp_ 8 [2, 2] (.agg #[.int .i64 (((onext S (ofI ((j : Int) + 1))).1).kind), .int .i64 (((onext S (ofI ((j : Int) + 1))).1).p), .int .i64 (((onext S (ofI ((j : Int) + 1))).1).q), .string (((onext S (ofI ((j : Int) + 1))).1).str), .int .i64 (((onext S (ofI ((j : Int) + 1))).1).ref)]) ?_
      refine hp_ 9 [2, 2] (.agg #[.int .i64 (((onext S (ofI ((j : Int) + 1))).2.1).kind), .int .i64 (((onext S (ofI ((j : Int) + 1))).2.1).p), .int .i64 (((onext S (ofI ((j : Int) + 1))).2.1).q), .string (((onext S (ofI ((j : Int) + 1))).2.1).str), .int .i64 (((onext S (ofI ((j : Int) + 1))).2.1).ref)]) ?_
      refine hp_ 10 [2, 2] (.bool ((onext S (ofI ((j : Int) + 1))).2.2.1)) ?_
      refine hp_ 11 [2, 2] (.int .i64 ((onext S (ofI ((j : Int) + 1))).2.2.2)) ?_
      refine h_stepS 13 ?_
      refine s_alloc (.agg #[.int .i64 0, .int .i64 0, .int .i64 0, .string ByteArray.empty, .int .i64 0]) #[.int .i64 0, .int .i64 0, .int .i64 0, .string ByteArray.empty, .int .i64 0] (fun g11 => ?_)
      refine s_nil (xs_held [3, 3] ?_)
      refine h_stepS 14 ?_
      refine s_store 2 #[.int .i64 (((onext S (ofI ((j : Int) + 1))).1).kind), .int .i64 (((onext S (ofI ((j : Int) + 1))).1).p), .int .i64 (((onext S (ofI ((j : Int) + 1))).1).q), .string (((onext S (ofI ((j : Int) + 1))).1).str), .int .i64 (((onext S (ofI ((j : Int) + 1))).1).ref)] ?_
      refine s_nil (xs_held [3, 3] ?_)
      refine h_stepS 15 ?_
      refine s_store 0 #[.int .i64 (((onext S (ofI ((j : Int) + 1))).2.1).kind), .int .i64 (((onext S (ofI ((j : Int) + 1))).2.1).p), .int .i64 (((onext S (ofI ((j : Int) + 1))).2.1).q), .string (((onext S (ofI ((j : Int) + 1))).2.1).str), .int .i64 (((onext S (ofI ((j : Int) + 1))).2.1).ref)] ?_
      refine s_nil (xs_held [3, 3] ?_)
      refine hp_ 16 [3, 3] (.bool ((onext S (ofI ((j : Int) + 1))).2.2.1)) ?_
      refine hp_ 17 [3, 3] (.int .i64 ((onext S (ofI ((j : Int) + 1))).2.2.2)) ?_
      refine h_doneS ?_
      exact xcut () (fun _ h => h.re [3, 3, 1] [3, 3])
     ·
      refine s_alloc (.agg #[.int .i64 0, .int .i64 0, .int .i64 0, .string ByteArray.empty, .int .i64 0]) #[.int .i64 0, .int .i64 0, .int .i64 0, .string ByteArray.empty, .int .i64 0] (fun g12 => ?_)
      refine s_nil (xs_held [2, 2] ?_)
      refine h_stepS 6 ?_
      refine s_call [4] (rmnext_s (S := S) (by (try simp only [lnm]); omega) (ofI ((j : Int) + 1))) ?_
      rintro _ _ ⟨rfl, rfl⟩
      refine s_nil (xs_held [3, 3] ?_)
      refine hp_ 7 [3, 3] (.tuple #[.agg #[.int .i64 (((onext S (ofI ((j : Int) + 1))).1).kind), .int .i64 (((onext S (ofI ((j : Int) + 1))).1).p), .int .i64 (((onext S (ofI ((j : Int) + 1))).1).q), .string (((onext S (ofI ((j : Int) + 1))).1).str), .int .i64 (((onext S (ofI ((j : Int) + 1))).1).ref)], .agg #[.int .i64 (((onext S (ofI ((j : Int) + 1))).2.1).kind), .int .i64 (((onext S (ofI ((j : Int) + 1))).2.1).p), .int .i64 (((onext S (ofI ((j : Int) + 1))).2.1).q), .string (((onext S (ofI ((j : Int) + 1))).2.1).str), .int .i64 (((onext S (ofI ((j : Int) + 1))).2.1).ref)], .bool ((onext S (ofI ((j : Int) + 1))).2.2.1), .int .i64 ((onext S (ofI ((j : Int) + 1))).2.2.2)]) ?_
      refine hp_ 8 [3, 3] (.agg #[.int .i64 (((onext S (ofI ((j : Int) + 1))).1).kind), .int .i64 (((onext S (ofI ((j : Int) + 1))).1).p), .int .i64 (((onext S (ofI ((j : Int) + 1))).1).q), .string (((onext S (ofI ((j : Int) + 1))).1).str), .int .i64 (((onext S (ofI ((j : Int) + 1))).1).ref)]) ?_
      refine hp_ 9 [3, 3] (.agg #[.int .i64 (((onext S (ofI ((j : Int) + 1))).2.1).kind), .int .i64 (((onext S (ofI ((j : Int) + 1))).2.1).p), .int .i64 (((onext S (ofI ((j : Int) + 1))).2.1).q), .string (((onext S (ofI ((j : Int) + 1))).2.1).str), .int .i64 (((onext S (ofI ((j : Int) + 1))).2.1).ref)]) ?_
      refine hp_ 10 [3, 3] (.bool ((onext S (ofI ((j : Int) + 1))).2.2.1)) ?_
      refine hp_ 11 [3, 3] (.int .i64 ((onext S (ofI ((j : Int) + 1))).2.2.2)) ?_
      refine h_stepS 14 ?_
      refine s_store 2 #[.int .i64 (((onext S (ofI ((j : Int) + 1))).1).kind), .int .i64 (((onext S (ofI ((j : Int) + 1))).1).p), .int .i64 (((onext S (ofI ((j : Int) + 1))).1).q), .string (((onext S (ofI ((j : Int) + 1))).1).str), .int .i64 (((onext S (ofI ((j : Int) + 1))).1).ref)] ?_
      refine s_nil (xs_held [3, 3] ?_)
      refine h_stepS 15 ?_
      refine s_store 1 #[.int .i64 (((onext S (ofI ((j : Int) + 1))).2.1).kind), .int .i64 (((onext S (ofI ((j : Int) + 1))).2.1).p), .int .i64 (((onext S (ofI ((j : Int) + 1))).2.1).q), .string (((onext S (ofI ((j : Int) + 1))).2.1).str), .int .i64 (((onext S (ofI ((j : Int) + 1))).2.1).ref)] ?_
      refine s_nil (xs_held [3, 3] ?_)
      refine hp_ 16 [3, 3] (.bool ((onext S (ofI ((j : Int) + 1))).2.2.1)) ?_
      refine hp_ 17 [3, 3] (.int .i64 ((onext S (ofI ((j : Int) + 1))).2.2.2)) ?_
      refine h_doneS ?_
      exact xcut () (fun _ h => h.re [3, 3, 0] [3, 3])
    ·
     refine s_alloc (.agg #[.int .i64 0, .int .i64 0, .int .i64 0, .string ByteArray.empty, .int .i64 0]) #[.int .i64 0, .int .i64 0, .int .i64 0, .string ByteArray.empty, .int .i64 0] (fun g13 => ?_)
     refine s_nil (xs_held [1, 1] ?_)
     refine h_stepS2 6 12 ?_ ?_
     ·
      refine s_call [3] (rmnext_s (S := S) (by (try simp only [lnm]); omega) (ofI ((j : Int) + 1))) ?_
      rintro _ _ ⟨rfl, rfl⟩
      refine s_nil (xs_held [2, 2] ?_)
      refine hp_ 7 [2, 2] (.tuple #[.agg #[.int .i64 (((onext S (ofI ((j : Int) + 1))).1).kind), .int .i64 (((onext S (ofI ((j : Int) + 1))).1).p), .int .i64 (((onext S (ofI ((j : Int) + 1))).1).q), .string (((onext S (ofI ((j : Int) + 1))).1).str), .int .i64 (((onext S (ofI ((j : Int) + 1))).1).ref)], .agg #[.int .i64 (((onext S (ofI ((j : Int) + 1))).2.1).kind), .int .i64 (((onext S (ofI ((j : Int) + 1))).2.1).p), .int .i64 (((onext S (ofI ((j : Int) + 1))).2.1).q), .string (((onext S (ofI ((j : Int) + 1))).2.1).str), .int .i64 (((onext S (ofI ((j : Int) + 1))).2.1).ref)], .bool ((onext S (ofI ((j : Int) + 1))).2.2.1), .int .i64 ((onext S (ofI ((j : Int) + 1))).2.2.2)]) ?_
      refine hp_ 8 [2, 2] (.agg #[.int .i64 (((onext S (ofI ((j : Int) + 1))).1).kind), .int .i64 (((onext S (ofI ((j : Int) + 1))).1).p), .int .i64 (((onext S (ofI ((j : Int) + 1))).1).q), .string (((onext S (ofI ((j : Int) + 1))).1).str), .int .i64 (((onext S (ofI ((j : Int) + 1))).1).ref)]) ?_
      refine hp_ 9 [2, 2] (.agg #[.int .i64 (((onext S (ofI ((j : Int) + 1))).2.1).kind), .int .i64 (((onext S (ofI ((j : Int) + 1))).2.1).p), .int .i64 (((onext S (ofI ((j : Int) + 1))).2.1).q), .string (((onext S (ofI ((j : Int) + 1))).2.1).str), .int .i64 (((onext S (ofI ((j : Int) + 1))).2.1).ref)]) ?_
      refine hp_ 10 [2, 2] (.bool ((onext S (ofI ((j : Int) + 1))).2.2.1)) ?_
      refine hp_ 11 [2, 2] (.int .i64 ((onext S (ofI ((j : Int) + 1))).2.2.2)) ?_
      refine h_stepS 12 ?_
      refine s_alloc (.agg #[.int .i64 0, .int .i64 0, .int .i64 0, .string ByteArray.empty, .int .i64 0]) #[.int .i64 0, .int .i64 0, .int .i64 0, .string ByteArray.empty, .int .i64 0] (fun g14 => ?_)
      refine s_nil (xs_held [3, 3] ?_)
      refine h_stepS 14 ?_
      refine s_store 0 #[.int .i64 (((onext S (ofI ((j : Int) + 1))).1).kind), .int .i64 (((onext S (ofI ((j : Int) + 1))).1).p), .int .i64 (((onext S (ofI ((j : Int) + 1))).1).q), .string (((onext S (ofI ((j : Int) + 1))).1).str), .int .i64 (((onext S (ofI ((j : Int) + 1))).1).ref)] ?_
      refine s_nil (xs_held [3, 3] ?_)
      refine h_stepS 15 ?_
      refine s_store 2 #[.int .i64 (((onext S (ofI ((j : Int) + 1))).2.1).kind), .int .i64 (((onext S (ofI ((j : Int) + 1))).2.1).p), .int .i64 (((onext S (ofI ((j : Int) + 1))).2.1).q), .string (((onext S (ofI ((j : Int) + 1))).2.1).str), .int .i64 (((onext S (ofI ((j : Int) + 1))).2.1).ref)] ?_
      refine s_nil (xs_held [3, 3] ?_)
      refine hp_ 16 [3, 3] (.bool ((onext S (ofI ((j : Int) + 1))).2.2.1)) ?_
      refine hp_ 17 [3, 3] (.int .i64 ((onext S (ofI ((j : Int) + 1))).2.2.2)) ?_
      refine h_doneS ?_
      exact xcut () (fun _ h => h.re [3, 3, 1] [3, 3])
     ·
      refine s_alloc (.agg #[.int .i64 0, .int .i64 0, .int .i64 0, .string ByteArray.empty, .int .i64 0]) #[.int .i64 0, .int .i64 0, .int .i64 0, .string ByteArray.empty, .int .i64 0] (fun g15 => ?_)
      refine s_nil (xs_held [2, 2] ?_)
      refine h_stepS 6 ?_
      refine s_call [4] (rmnext_s (S := S) (by (try simp only [lnm]); omega) (ofI ((j : Int) + 1))) ?_
      rintro _ _ ⟨rfl, rfl⟩
      refine s_nil (xs_held [3, 3] ?_)
      refine hp_ 7 [3, 3] (.tuple #[.agg #[.int .i64 (((onext S (ofI ((j : Int) + 1))).1).kind), .int .i64 (((onext S (ofI ((j : Int) + 1))).1).p), .int .i64 (((onext S (ofI ((j : Int) + 1))).1).q), .string (((onext S (ofI ((j : Int) + 1))).1).str), .int .i64 (((onext S (ofI ((j : Int) + 1))).1).ref)], .agg #[.int .i64 (((onext S (ofI ((j : Int) + 1))).2.1).kind), .int .i64 (((onext S (ofI ((j : Int) + 1))).2.1).p), .int .i64 (((onext S (ofI ((j : Int) + 1))).2.1).q), .string (((onext S (ofI ((j : Int) + 1))).2.1).str), .int .i64 (((onext S (ofI ((j : Int) + 1))).2.1).ref)], .bool ((onext S (ofI ((j : Int) + 1))).2.2.1), .int .i64 ((onext S (ofI ((j : Int) + 1))).2.2.2)]) ?_
      refine hp_ 8 [3, 3] (.agg #[.int .i64 (((onext S (ofI ((j : Int) + 1))).1).kind), .int .i64 (((onext S (ofI ((j : Int) + 1))).1).p), .int .i64 (((onext S (ofI ((j : Int) + 1))).1).q), .string (((onext S (ofI ((j : Int) + 1))).1).str), .int .i64 (((onext S (ofI ((j : Int) + 1))).1).ref)]) ?_
      refine hp_ 9 [3, 3] (.agg #[.int .i64 (((onext S (ofI ((j : Int) + 1))).2.1).kind), .int .i64 (((onext S (ofI ((j : Int) + 1))).2.1).p), .int .i64 (((onext S (ofI ((j : Int) + 1))).2.1).q), .string (((onext S (ofI ((j : Int) + 1))).2.1).str), .int .i64 (((onext S (ofI ((j : Int) + 1))).2.1).ref)]) ?_
      refine hp_ 10 [3, 3] (.bool ((onext S (ofI ((j : Int) + 1))).2.2.1)) ?_
      refine hp_ 11 [3, 3] (.int .i64 ((onext S (ofI ((j : Int) + 1))).2.2.2)) ?_
      refine h_stepS 14 ?_
      refine s_store 1 #[.int .i64 (((onext S (ofI ((j : Int) + 1))).1).kind), .int .i64 (((onext S (ofI ((j : Int) + 1))).1).p), .int .i64 (((onext S (ofI ((j : Int) + 1))).1).q), .string (((onext S (ofI ((j : Int) + 1))).1).str), .int .i64 (((onext S (ofI ((j : Int) + 1))).1).ref)] ?_
      refine s_nil (xs_held [3, 3] ?_)
      refine h_stepS 15 ?_
      refine s_store 2 #[.int .i64 (((onext S (ofI ((j : Int) + 1))).2.1).kind), .int .i64 (((onext S (ofI ((j : Int) + 1))).2.1).p), .int .i64 (((onext S (ofI ((j : Int) + 1))).2.1).q), .string (((onext S (ofI ((j : Int) + 1))).2.1).str), .int .i64 (((onext S (ofI ((j : Int) + 1))).2.1).ref)] ?_
      refine s_nil (xs_held [3, 3] ?_)
      refine hp_ 16 [3, 3] (.bool ((onext S (ofI ((j : Int) + 1))).2.2.1)) ?_
      refine hp_ 17 [3, 3] (.int .i64 ((onext S (ofI ((j : Int) + 1))).2.2.2)) ?_
      refine h_doneS ?_
      exact xcut () (fun _ h => h.re [3, 3, 0] [3, 3])
   ·
    refine s_alloc (.agg #[.int .i64 0, .int .i64 0, .int .i64 0, .string ByteArray.empty, .int .i64 0]) #[.int .i64 0, .int .i64 0, .int .i64 0, .string ByteArray.empty, .int .i64 0] (fun g16 => ?_)
    refine s_nil (xs_held [1, 1] ?_)
    refine h_stepS2 5 13 ?_ ?_
    ·
     refine s_vcall (fun _ h => rkey_s ((j : Int) + 1)) ?_
     rintro _ rfl
     refine s_nil (xs_held [1, 1] ?_)
     refine h_stepS2 6 13 ?_ ?_
     ·
      refine s_call [3] (rmnext_s (S := S) (by (try simp only [lnm]); omega) (ofI ((j : Int) + 1))) ?_
      rintro _ _ ⟨rfl, rfl⟩
      refine s_nil (xs_held [2, 2] ?_)
      refine hp_ 7 [2, 2] (.tuple #[.agg #[.int .i64 (((onext S (ofI ((j : Int) + 1))).1).kind), .int .i64 (((onext S (ofI ((j : Int) + 1))).1).p), .int .i64 (((onext S (ofI ((j : Int) + 1))).1).q), .string (((onext S (ofI ((j : Int) + 1))).1).str), .int .i64 (((onext S (ofI ((j : Int) + 1))).1).ref)], .agg #[.int .i64 (((onext S (ofI ((j : Int) + 1))).2.1).kind), .int .i64 (((onext S (ofI ((j : Int) + 1))).2.1).p), .int .i64 (((onext S (ofI ((j : Int) + 1))).2.1).q), .string (((onext S (ofI ((j : Int) + 1))).2.1).str), .int .i64 (((onext S (ofI ((j : Int) + 1))).2.1).ref)], .bool ((onext S (ofI ((j : Int) + 1))).2.2.1), .int .i64 ((onext S (ofI ((j : Int) + 1))).2.2.2)]) ?_
      refine hp_ 8 [2, 2] (.agg #[.int .i64 (((onext S (ofI ((j : Int) + 1))).1).kind), .int .i64 (((onext S (ofI ((j : Int) + 1))).1).p), .int .i64 (((onext S (ofI ((j : Int) + 1))).1).q), .string (((onext S (ofI ((j : Int) + 1))).1).str), .int .i64 (((onext S (ofI ((j : Int) + 1))).1).ref)]) ?_
      refine hp_ 9 [2, 2] (.agg #[.int .i64 (((onext S (ofI ((j : Int) + 1))).2.1).kind), .int .i64 (((onext S (ofI ((j : Int) + 1))).2.1).p), .int .i64 (((onext S (ofI ((j : Int) + 1))).2.1).q), .string (((onext S (ofI ((j : Int) + 1))).2.1).str), .int .i64 (((onext S (ofI ((j : Int) + 1))).2.1).ref)]) ?_
      refine hp_ 10 [2, 2] (.bool ((onext S (ofI ((j : Int) + 1))).2.2.1)) ?_
      refine hp_ 11 [2, 2] (.int .i64 ((onext S (ofI ((j : Int) + 1))).2.2.2)) ?_
      refine h_stepS 13 ?_
      refine s_alloc (.agg #[.int .i64 0, .int .i64 0, .int .i64 0, .string ByteArray.empty, .int .i64 0]) #[.int .i64 0, .int .i64 0, .int .i64 0, .string ByteArray.empty, .int .i64 0] (fun g17 => ?_)
      refine s_nil (xs_held [3, 3] ?_)
      refine h_stepS 14 ?_
      refine s_store 2 #[.int .i64 (((onext S (ofI ((j : Int) + 1))).1).kind), .int .i64 (((onext S (ofI ((j : Int) + 1))).1).p), .int .i64 (((onext S (ofI ((j : Int) + 1))).1).q), .string (((onext S (ofI ((j : Int) + 1))).1).str), .int .i64 (((onext S (ofI ((j : Int) + 1))).1).ref)] ?_
      refine s_nil (xs_held [3, 3] ?_)
      refine h_stepS 15 ?_
      refine s_store 0 #[.int .i64 (((onext S (ofI ((j : Int) + 1))).2.1).kind), .int .i64 (((onext S (ofI ((j : Int) + 1))).2.1).p), .int .i64 (((onext S (ofI ((j : Int) + 1))).2.1).q), .string (((onext S (ofI ((j : Int) + 1))).2.1).str), .int .i64 (((onext S (ofI ((j : Int) + 1))).2.1).ref)] ?_
      refine s_nil (xs_held [3, 3] ?_)
      refine hp_ 16 [3, 3] (.bool ((onext S (ofI ((j : Int) + 1))).2.2.1)) ?_
      refine hp_ 17 [3, 3] (.int .i64 ((onext S (ofI ((j : Int) + 1))).2.2.2)) ?_
      refine h_doneS ?_
      exact xcut () (fun _ h => h.re [3, 3, 1] [3, 3])
     ·
      refine s_alloc (.agg #[.int .i64 0, .int .i64 0, .int .i64 0, .string ByteArray.empty, .int .i64 0]) #[.int .i64 0, .int .i64 0, .int .i64 0, .string ByteArray.empty, .int .i64 0] (fun g18 => ?_)
      refine s_nil (xs_held [2, 2] ?_)
      refine h_stepS 6 ?_
      refine s_call [4] (rmnext_s (S := S) (by (try simp only [lnm]); omega) (ofI ((j : Int) + 1))) ?_
      rintro _ _ ⟨rfl, rfl⟩
      refine s_nil (xs_held [3, 3] ?_)
      refine hp_ 7 [3, 3] (.tuple #[.agg #[.int .i64 (((onext S (ofI ((j : Int) + 1))).1).kind), .int .i64 (((onext S (ofI ((j : Int) + 1))).1).p), .int .i64 (((onext S (ofI ((j : Int) + 1))).1).q), .string (((onext S (ofI ((j : Int) + 1))).1).str), .int .i64 (((onext S (ofI ((j : Int) + 1))).1).ref)], .agg #[.int .i64 (((onext S (ofI ((j : Int) + 1))).2.1).kind), .int .i64 (((onext S (ofI ((j : Int) + 1))).2.1).p), .int .i64 (((onext S (ofI ((j : Int) + 1))).2.1).q), .string (((onext S (ofI ((j : Int) + 1))).2.1).str), .int .i64 (((onext S (ofI ((j : Int) + 1))).2.1).ref)], .bool ((onext S (ofI ((j : Int) + 1))).2.2.1), .int .i64 ((onext S (ofI ((j : Int) + 1))).2.2.2)]) ?_
      refine hp_ 8 [3, 3] (.agg #[.int .i64 (((onext S (ofI ((j : Int) + 1))).1).kind), .int .i64 (((onext S (ofI ((j : Int) + 1))).1).p), .int .i64 (((onext S (ofI ((j : Int) + 1))).1).q), .string (((onext S (ofI ((j : Int) + 1))).1).str), .int .i64 (((onext S (ofI ((j : Int) + 1))).1).ref)]) ?_
      refine hp_ 9 [3, 3] (.agg #[.int .i64 (((onext S (ofI ((j : Int) + 1))).2.1).kind), .int .i64 (((onext S (ofI ((j : Int) + 1))).2.1).p), .int .i64 (((onext S (ofI ((j : Int) + 1))).2.1).q), .string (((onext S (ofI ((j : Int) + 1))).2.1).str), .int .i64 (((onext S (ofI ((j : Int) + 1))).2.1).ref)]) ?_
      refine hp_ 10 [3, 3] (.bool ((onext S (ofI ((j : Int) + 1))).2.2.1)) ?_
      refine hp_ 11 [3, 3] (.int .i64 ((onext S (ofI ((j : Int) + 1))).2.2.2)) ?_
      refine h_stepS 14 ?_
      refine s_store 2 #[.int .i64 (((onext S (ofI ((j : Int) + 1))).1).kind), .int .i64 (((onext S (ofI ((j : Int) + 1))).1).p), .int .i64 (((onext S (ofI ((j : Int) + 1))).1).q), .string (((onext S (ofI ((j : Int) + 1))).1).str), .int .i64 (((onext S (ofI ((j : Int) + 1))).1).ref)] ?_
      refine s_nil (xs_held [3, 3] ?_)
      refine h_stepS 15 ?_
      refine s_store 1 #[.int .i64 (((onext S (ofI ((j : Int) + 1))).2.1).kind), .int .i64 (((onext S (ofI ((j : Int) + 1))).2.1).p), .int .i64 (((onext S (ofI ((j : Int) + 1))).2.1).q), .string (((onext S (ofI ((j : Int) + 1))).2.1).str), .int .i64 (((onext S (ofI ((j : Int) + 1))).2.1).ref)] ?_
      refine s_nil (xs_held [3, 3] ?_)
      refine hp_ 16 [3, 3] (.bool ((onext S (ofI ((j : Int) + 1))).2.2.1)) ?_
      refine hp_ 17 [3, 3] (.int .i64 ((onext S (ofI ((j : Int) + 1))).2.2.2)) ?_
      refine h_doneS ?_
      exact xcut () (fun _ h => h.re [3, 3, 0] [3, 3])
    ·
     refine s_alloc (.agg #[.int .i64 0, .int .i64 0, .int .i64 0, .string ByteArray.empty, .int .i64 0]) #[.int .i64 0, .int .i64 0, .int .i64 0, .string ByteArray.empty, .int .i64 0] (fun g19 => ?_)
     refine s_nil (xs_held [2, 2] ?_)
     refine h_stepS 5 ?_
     refine s_vcall (fun _ h => rkey_s ((j : Int) + 1)) ?_
     rintro _ rfl
     refine s_nil (xs_held [2, 2] ?_)
     refine h_stepS 6 ?_
     refine s_call [4] (rmnext_s (S := S) (by (try simp only [lnm]); omega) (ofI ((j : Int) + 1))) ?_
     rintro _ _ ⟨rfl, rfl⟩
     refine s_nil (xs_held [3, 3] ?_)
     refine hp_ 7 [3, 3] (.tuple #[.agg #[.int .i64 (((onext S (ofI ((j : Int) + 1))).1).kind), .int .i64 (((onext S (ofI ((j : Int) + 1))).1).p), .int .i64 (((onext S (ofI ((j : Int) + 1))).1).q), .string (((onext S (ofI ((j : Int) + 1))).1).str), .int .i64 (((onext S (ofI ((j : Int) + 1))).1).ref)], .agg #[.int .i64 (((onext S (ofI ((j : Int) + 1))).2.1).kind), .int .i64 (((onext S (ofI ((j : Int) + 1))).2.1).p), .int .i64 (((onext S (ofI ((j : Int) + 1))).2.1).q), .string (((onext S (ofI ((j : Int) + 1))).2.1).str), .int .i64 (((onext S (ofI ((j : Int) + 1))).2.1).ref)], .bool ((onext S (ofI ((j : Int) + 1))).2.2.1), .int .i64 ((onext S (ofI ((j : Int) + 1))).2.2.2)]) ?_
     refine hp_ 8 [3, 3] (.agg #[.int .i64 (((onext S (ofI ((j : Int) + 1))).1).kind), .int .i64 (((onext S (ofI ((j : Int) + 1))).1).p), .int .i64 (((onext S (ofI ((j : Int) + 1))).1).q), .string (((onext S (ofI ((j : Int) + 1))).1).str), .int .i64 (((onext S (ofI ((j : Int) + 1))).1).ref)]) ?_
     refine hp_ 9 [3, 3] (.agg #[.int .i64 (((onext S (ofI ((j : Int) + 1))).2.1).kind), .int .i64 (((onext S (ofI ((j : Int) + 1))).2.1).p), .int .i64 (((onext S (ofI ((j : Int) + 1))).2.1).q), .string (((onext S (ofI ((j : Int) + 1))).2.1).str), .int .i64 (((onext S (ofI ((j : Int) + 1))).2.1).ref)]) ?_
     refine hp_ 10 [3, 3] (.bool ((onext S (ofI ((j : Int) + 1))).2.2.1)) ?_
     refine hp_ 11 [3, 3] (.int .i64 ((onext S (ofI ((j : Int) + 1))).2.2.2)) ?_
     refine h_stepS 14 ?_
     refine s_store 2 #[.int .i64 (((onext S (ofI ((j : Int) + 1))).1).kind), .int .i64 (((onext S (ofI ((j : Int) + 1))).1).p), .int .i64 (((onext S (ofI ((j : Int) + 1))).1).q), .string (((onext S (ofI ((j : Int) + 1))).1).str), .int .i64 (((onext S (ofI ((j : Int) + 1))).1).ref)] ?_
     refine s_nil (xs_held [3, 3] ?_)
     refine h_stepS 15 ?_
     refine s_store 1 #[.int .i64 (((onext S (ofI ((j : Int) + 1))).2.1).kind), .int .i64 (((onext S (ofI ((j : Int) + 1))).2.1).p), .int .i64 (((onext S (ofI ((j : Int) + 1))).2.1).q), .string (((onext S (ofI ((j : Int) + 1))).2.1).str), .int .i64 (((onext S (ofI ((j : Int) + 1))).2.1).ref)] ?_
     refine s_nil (xs_held [3, 3] ?_)
     refine hp_ 16 [3, 3] (.bool ((onext S (ofI ((j : Int) + 1))).2.2.1)) ?_
     refine hp_ 17 [3, 3] (.int .i64 ((onext S (ofI ((j : Int) + 1))).2.2.2)) ?_
     refine h_doneS ?_
     exact xcut () (fun _ h => h.re [3, 3, 0] [3, 3])
   ·
    refine s_alloc (.agg #[.int .i64 0, .int .i64 0, .int .i64 0, .string ByteArray.empty, .int .i64 0]) #[.int .i64 0, .int .i64 0, .int .i64 0, .string ByteArray.empty, .int .i64 0] (fun g20 => ?_)
    refine s_nil (xs_held [1, 1] ?_)
    refine h_stepS2 5 12 ?_ ?_
    ·
     refine s_vcall (fun _ h => rkey_s ((j : Int) + 1)) ?_
     rintro _ rfl
     refine s_nil (xs_held [1, 1] ?_)
     refine h_stepS2 6 12 ?_ ?_
     ·
      refine s_call [3] (rmnext_s (S := S) (by (try simp only [lnm]); omega) (ofI ((j : Int) + 1))) ?_
      rintro _ _ ⟨rfl, rfl⟩
      refine s_nil (xs_held [2, 2] ?_)
      refine hp_ 7 [2, 2] (.tuple #[.agg #[.int .i64 (((onext S (ofI ((j : Int) + 1))).1).kind), .int .i64 (((onext S (ofI ((j : Int) + 1))).1).p), .int .i64 (((onext S (ofI ((j : Int) + 1))).1).q), .string (((onext S (ofI ((j : Int) + 1))).1).str), .int .i64 (((onext S (ofI ((j : Int) + 1))).1).ref)], .agg #[.int .i64 (((onext S (ofI ((j : Int) + 1))).2.1).kind), .int .i64 (((onext S (ofI ((j : Int) + 1))).2.1).p), .int .i64 (((onext S (ofI ((j : Int) + 1))).2.1).q), .string (((onext S (ofI ((j : Int) + 1))).2.1).str), .int .i64 (((onext S (ofI ((j : Int) + 1))).2.1).ref)], .bool ((onext S (ofI ((j : Int) + 1))).2.2.1), .int .i64 ((onext S (ofI ((j : Int) + 1))).2.2.2)]) ?_
      refine hp_ 8 [2, 2] (.agg #[.int .i64 (((onext S (ofI ((j : Int) + 1))).1).kind), .int .i64 (((onext S (ofI ((j : Int) + 1))).1).p), .int .i64 (((onext S (ofI ((j : Int) + 1))).1).q), .string (((onext S (ofI ((j : Int) + 1))).1).str), .int .i64 (((onext S (ofI ((j : Int) + 1))).1).ref)]) ?_
      refine hp_ 9 [2, 2] (.agg #[.int .i64 (((onext S (ofI ((j : Int) + 1))).2.1).kind), .int .i64 (((onext S (ofI ((j : Int) + 1))).2.1).p), .int .i64 (((onext S (ofI ((j : Int) + 1))).2.1).q), .string (((onext S (ofI ((j : Int) + 1))).2.1).str), .int .i64 (((onext S (ofI ((j : Int) + 1))).2.1).ref)]) ?_
      refine hp_ 10 [2, 2] (.bool ((onext S (ofI ((j : Int) + 1))).2.2.1)) ?_
      refine hp_ 11 [2, 2] (.int .i64 ((onext S (ofI ((j : Int) + 1))).2.2.2)) ?_
      refine h_stepS 12 ?_
      refine s_alloc (.agg #[.int .i64 0, .int .i64 0, .int .i64 0, .string ByteArray.empty, .int .i64 0]) #[.int .i64 0, .int .i64 0, .int .i64 0, .string ByteArray.empty, .int .i64 0] (fun g21 => ?_)
      refine s_nil (xs_held [3, 3] ?_)
      refine h_stepS 14 ?_
      refine s_store 0 #[.int .i64 (((onext S (ofI ((j : Int) + 1))).1).kind), .int .i64 (((onext S (ofI ((j : Int) + 1))).1).p), .int .i64 (((onext S (ofI ((j : Int) + 1))).1).q), .string (((onext S (ofI ((j : Int) + 1))).1).str), .int .i64 (((onext S (ofI ((j : Int) + 1))).1).ref)] ?_
      refine s_nil (xs_held [3, 3] ?_)
      refine h_stepS 15 ?_
      refine s_store 2 #[.int .i64 (((onext S (ofI ((j : Int) + 1))).2.1).kind), .int .i64 (((onext S (ofI ((j : Int) + 1))).2.1).p), .int .i64 (((onext S (ofI ((j : Int) + 1))).2.1).q), .string (((onext S (ofI ((j : Int) + 1))).2.1).str), .int .i64 (((onext S (ofI ((j : Int) + 1))).2.1).ref)] ?_
      refine s_nil (xs_held [3, 3] ?_)
      refine hp_ 16 [3, 3] (.bool ((onext S (ofI ((j : Int) + 1))).2.2.1)) ?_
      refine hp_ 17 [3, 3] (.int .i64 ((onext S (ofI ((j : Int) + 1))).2.2.2)) ?_
      refine h_doneS ?_
      exact xcut () (fun _ h => h.re [3, 3, 1] [3, 3])
     ·
      refine s_alloc (.agg #[.int .i64 0, .int .i64 0, .int .i64 0, .string ByteArray.empty, .int .i64 0]) #[.int .i64 0, .int .i64 0, .int .i64 0, .string ByteArray.empty, .int .i64 0] (fun g22 => ?_)
      refine s_nil (xs_held [2, 2] ?_)
      refine h_stepS 6 ?_
      refine s_call [4] (rmnext_s (S := S) (by (try simp only [lnm]); omega) (ofI ((j : Int) + 1))) ?_
      rintro _ _ ⟨rfl, rfl⟩
      refine s_nil (xs_held [3, 3] ?_)
      refine hp_ 7 [3, 3] (.tuple #[.agg #[.int .i64 (((onext S (ofI ((j : Int) + 1))).1).kind), .int .i64 (((onext S (ofI ((j : Int) + 1))).1).p), .int .i64 (((onext S (ofI ((j : Int) + 1))).1).q), .string (((onext S (ofI ((j : Int) + 1))).1).str), .int .i64 (((onext S (ofI ((j : Int) + 1))).1).ref)], .agg #[.int .i64 (((onext S (ofI ((j : Int) + 1))).2.1).kind), .int .i64 (((onext S (ofI ((j : Int) + 1))).2.1).p), .int .i64 (((onext S (ofI ((j : Int) + 1))).2.1).q), .string (((onext S (ofI ((j : Int) + 1))).2.1).str), .int .i64 (((onext S (ofI ((j : Int) + 1))).2.1).ref)], .bool ((onext S (ofI ((j : Int) + 1))).2.2.1), .int .i64 ((onext S (ofI ((j : Int) + 1))).2.2.2)]) ?_
      refine hp_ 8 [3, 3] (.agg #[.int .i64 (((onext S (ofI ((j : Int) + 1))).1).kind), .int .i64 (((onext S (ofI ((j : Int) + 1))).1).p), .int .i64 (((onext S (ofI ((j : Int) + 1))).1).q), .string (((onext S (ofI ((j : Int) + 1))).1).str), .int .i64 (((onext S (ofI ((j : Int) + 1))).1).ref)]) ?_
      refine hp_ 9 [3, 3] (.agg #[.int .i64 (((onext S (ofI ((j : Int) + 1))).2.1).kind), .int .i64 (((onext S (ofI ((j : Int) + 1))).2.1).p), .int .i64 (((onext S (ofI ((j : Int) + 1))).2.1).q), .string (((onext S (ofI ((j : Int) + 1))).2.1).str), .int .i64 (((onext S (ofI ((j : Int) + 1))).2.1).ref)]) ?_
      refine hp_ 10 [3, 3] (.bool ((onext S (ofI ((j : Int) + 1))).2.2.1)) ?_
      refine hp_ 11 [3, 3] (.int .i64 ((onext S (ofI ((j : Int) + 1))).2.2.2)) ?_
      refine h_stepS 14 ?_
      refine s_store 1 #[.int .i64 (((onext S (ofI ((j : Int) + 1))).1).kind), .int .i64 (((onext S (ofI ((j : Int) + 1))).1).p), .int .i64 (((onext S (ofI ((j : Int) + 1))).1).q), .string (((onext S (ofI ((j : Int) + 1))).1).str), .int .i64 (((onext S (ofI ((j : Int) + 1))).1).ref)] ?_
      refine s_nil (xs_held [3, 3] ?_)
      refine h_stepS 15 ?_
      refine s_store 2 #[.int .i64 (((onext S (ofI ((j : Int) + 1))).2.1).kind), .int .i64 (((onext S (ofI ((j : Int) + 1))).2.1).p), .int .i64 (((onext S (ofI ((j : Int) + 1))).2.1).q), .string (((onext S (ofI ((j : Int) + 1))).2.1).str), .int .i64 (((onext S (ofI ((j : Int) + 1))).2.1).ref)] ?_
      refine s_nil (xs_held [3, 3] ?_)
      refine hp_ 16 [3, 3] (.bool ((onext S (ofI ((j : Int) + 1))).2.2.1)) ?_
      refine hp_ 17 [3, 3] (.int .i64 ((onext S (ofI ((j : Int) + 1))).2.2.2)) ?_
      refine h_doneS ?_
      exact xcut () (fun _ h => h.re [3, 3, 0] [3, 3])
    ·
     refine s_alloc (.agg #[.int .i64 0, .int .i64 0, .int .i64 0, .string ByteArray.empty, .int .i64 0]) #[.int .i64 0, .int .i64 0, .int .i64 0, .string ByteArray.empty, .int .i64 0] (fun g23 => ?_)
     refine s_nil (xs_held [2, 2] ?_)
     refine h_stepS 5 ?_
     refine s_vcall (fun _ h => rkey_s ((j : Int) + 1)) ?_
     rintro _ rfl
     refine s_nil (xs_held [2, 2] ?_)
     refine h_stepS 6 ?_
     refine s_call [4] (rmnext_s (S := S) (by (try simp only [lnm]); omega) (ofI ((j : Int) + 1))) ?_
     rintro _ _ ⟨rfl, rfl⟩
     refine s_nil (xs_held [3, 3] ?_)
     refine hp_ 7 [3, 3] (.tuple #[.agg #[.int .i64 (((onext S (ofI ((j : Int) + 1))).1).kind), .int .i64 (((onext S (ofI ((j : Int) + 1))).1).p), .int .i64 (((onext S (ofI ((j : Int) + 1))).1).q), .string (((onext S (ofI ((j : Int) + 1))).1).str), .int .i64 (((onext S (ofI ((j : Int) + 1))).1).ref)], .agg #[.int .i64 (((onext S (ofI ((j : Int) + 1))).2.1).kind), .int .i64 (((onext S (ofI ((j : Int) + 1))).2.1).p), .int .i64 (((onext S (ofI ((j : Int) + 1))).2.1).q), .string (((onext S (ofI ((j : Int) + 1))).2.1).str), .int .i64 (((onext S (ofI ((j : Int) + 1))).2.1).ref)], .bool ((onext S (ofI ((j : Int) + 1))).2.2.1), .int .i64 ((onext S (ofI ((j : Int) + 1))).2.2.2)]) ?_
     refine hp_ 8 [3, 3] (.agg #[.int .i64 (((onext S (ofI ((j : Int) + 1))).1).kind), .int .i64 (((onext S (ofI ((j : Int) + 1))).1).p), .int .i64 (((onext S (ofI ((j : Int) + 1))).1).q), .string (((onext S (ofI ((j : Int) + 1))).1).str), .int .i64 (((onext S (ofI ((j : Int) + 1))).1).ref)]) ?_
     refine hp_ 9 [3, 3] (.agg #[.int .i64 (((onext S (ofI ((j : Int) + 1))).2.1).kind), .int .i64 (((onext S (ofI ((j : Int) + 1))).2.1).p), .int .i64 (((onext S (ofI ((j : Int) + 1))).2.1).q), .string (((onext S (ofI ((j : Int) + 1))).2.1).str), .int .i64 (((onext S (ofI ((j : Int) + 1))).2.1).ref)]) ?_
     refine hp_ 10 [3, 3] (.bool ((onext S (ofI ((j : Int) + 1))).2.2.1)) ?_
     refine hp_ 11 [3, 3] (.int .i64 ((onext S (ofI ((j : Int) + 1))).2.2.2)) ?_
     refine h_stepS 14 ?_
     refine s_store 1 #[.int .i64 (((onext S (ofI ((j : Int) + 1))).1).kind), .int .i64 (((onext S (ofI ((j : Int) + 1))).1).p), .int .i64 (((onext S (ofI ((j : Int) + 1))).1).q), .string (((onext S (ofI ((j : Int) + 1))).1).str), .int .i64 (((onext S (ofI ((j : Int) + 1))).1).ref)] ?_
     refine s_nil (xs_held [3, 3] ?_)
     refine h_stepS 15 ?_
     refine s_store 2 #[.int .i64 (((onext S (ofI ((j : Int) + 1))).2.1).kind), .int .i64 (((onext S (ofI ((j : Int) + 1))).2.1).p), .int .i64 (((onext S (ofI ((j : Int) + 1))).2.1).q), .string (((onext S (ofI ((j : Int) + 1))).2.1).str), .int .i64 (((onext S (ofI ((j : Int) + 1))).2.1).ref)] ?_
     refine s_nil (xs_held [3, 3] ?_)
     refine hp_ 16 [3, 3] (.bool ((onext S (ofI ((j : Int) + 1))).2.2.1)) ?_
     refine hp_ 17 [3, 3] (.int .i64 ((onext S (ofI ((j : Int) + 1))).2.2.2)) ?_
     refine h_doneS ?_
     exact xcut () (fun _ h => h.re [3, 3, 0] [3, 3])
  ·
   refine k_reg ?_
   refine sp (.bool (staleB S n j)) ?_
   refine sp (.bool (staleB S n j)) ?_
   refine s_fork 37 (staleB S n j) (fun c24 => ?_) (fun c24 => ?_)
   ·
    refine s_skip ?_
    refine s_skip ?_
    refine sp (.bool true) ?_
    refine sp (.bool true) ?_
    refine s_nil ?_
    refine xs_block ?_
    refine xs_then ?_
    refine k_reg ?_
    refine sp (.int .i64 ((j : Int) + 1)) ?_
    refine s_lt (t_add ((j : Int) + 1) 1 (by (try simp only [lnm]); omega)) ?_
    refine sp (.int .i64 (((j : Int) + 1) + 1)) ?_
    refine s_nil ?_
    have hst : true = staleB S n (j + 1) := by rw [← stale_step S hi1.1]; first | rfl | simp [c4, c24]
    refine xs_mem (fun _ h => rt_shut (h.re [0, 0, 0] [])) ?_
    exact xs_round (j + 1) (by omega) ⟨by omega, by omega⟩ (sub_of rfl ⟨⟨rfl, rfl⟩, ⟨⟨rfl, congrArg Value.bool hst⟩, ⟨⟨rfl, rfl⟩, trivial⟩⟩⟩) (fun _ h => h.re [0] [])
   ·
    refine sp (.int .i64 ((onext S (ofI ((j : Int) + 1))).2.2.2)) ?_
    refine s_lt t_cmp ?_
    refine sp (.bool (decide ((onext S (ofI ((j : Int) + 1))).2.2.2 = 0))) ?_
    refine sp (.bool (decide ((onext S (ofI ((j : Int) + 1))).2.2.2 = 0))) ?_
    refine s_nil ?_
    refine xs_block ?_
    refine xs_then ?_
    refine k_reg ?_
    refine sp (.int .i64 ((j : Int) + 1)) ?_
    refine s_lt (t_add ((j : Int) + 1) 1 (by (try simp only [lnm]); omega)) ?_
    refine sp (.int .i64 (((j : Int) + 1) + 1)) ?_
    refine s_nil ?_
    have hst : (decide ((onext S (ofI ((j : Int) + 1))).2.2.2 = 0)) = staleB S n (j + 1) := by rw [← stale_step S hi1.1]; first | rfl | simp [c4, c24]
    refine xs_mem (fun _ h => rt_shut (h.re [0, 0, 0] [])) ?_
    exact xs_round (j + 1) (by omega) ⟨by omega, by omega⟩ (sub_of rfl ⟨⟨rfl, rfl⟩, ⟨⟨rfl, congrArg Value.bool hst⟩, ⟨⟨rfl, rfl⟩, trivial⟩⟩⟩) (fun _ h => h.re [0] [])
 ·
  have p25 := of_decide_eq_false c4
  refine k_exit ?_
  refine xs_exit ?_
  refine xs_exit ?_
  refine xs_here ?_
  refine xs_then ?_
  refine k_seq ?_
  refine k_sr ?_
  refine sp (.bool (staleB S n j)) ?_
  refine sp (.bool (!(staleB S n j))) ?_
  refine s_nt ?_
  refine k_cond (!(staleB S n j)) (fun c26 => ?_) (fun c26 => ?_)
  ·
   have c27 := not_t c26
   refine k_ret ?_
   refine xs_ret ?_
   refine xs_mem (fun _ h => rt_shut (h.re [0, 0, 0] [])) ?_
   have hj : j = L.length := by omega
   have hT : (if staleB S n L.length then purge S L.length else S) = S := by rw [if_neg (by rw [← hj, c27]; decide)]
   refine xs_fin [] (rtA b L S :: F) SI.nil (fun _ h => h.re [0] []) ⟨rfl, ?_⟩
   rw [hT]
  ·
   have c28 := not_f c26
   refine k_st ?_
   refine k_sr ?_
   refine s_pcall (fun _ h => rmnew_s) ?_
   rintro _ _ ⟨r29, rfl, rfl⟩
   refine sp (pB r29 0) ?_
   refine s_nr ?_
   refine sp (pB b 0) ?_
   refine sp (pB b 0) ?_
   refine sp (pB b 1) ?_
   refine s_lt (t_load 1 (pB r3 0)) ?_
   refine s_call [3] (rmkeys_s (S := S) (by (try simp only [lnm]); omega)) ?_
   rintro v30 _ rfl
   refine s_fact (fun H h => ((Acc.own (T := VlT) (L := (okeys S)) 0 rfl) H h).form) (fun hf31 => ?_)
   refine sp v30 ?_
   refine s_nt ?_
   refine k_seq ?_
   refine k_sr ?_
   refine sp (.int .i64 0) ?_
   refine s_nt ?_
   refine k_block ?_
   refine k_mem (fun _ h => rt_shut (h.re [3, 3, 1] [])) ?_
   refine k_loop (ι := Nat) (fun i => i ≤ (okeys S).length) (fun i => [(0, pB b 0), (10, pB r29 0), (11, v30), (12, .int .i64 (i : Int))]) (fun i => rtA b L S :: own VlT v30 (okeys S) :: rmA r29 (purgeS S L.length i) :: F) (fun i => (okeys S).length - i) 0 (Nat.zero_le _) (sub_of rfl ⟨⟨rfl, rfl⟩, ⟨⟨rfl, rfl⟩, ⟨⟨rfl, rfl⟩, ⟨⟨rfl, rfl⟩, trivial⟩⟩⟩⟩) (fun _ h => h.re [0, 0, 0] []) ?_
   rintro i hi32
   show SK _ _ _ _ _ [(0, .pointer (some ⟨b, 0, none⟩)), (10, .pointer (some ⟨r29, 0, none⟩)), (11, v30), (12, .int .i64 (i : Int))] _ (rtA b L S :: own VlT v30 (okeys S) :: rmA r29 (purgeS S L.length i) :: F)
   have hpl := purgeS_len S L.length i
   refine k_seq ?_
   refine k_sr ?_
   refine sp (.int .i64 (i : Int)) ?_
   refine sp v30 ?_
   refine s_lt (t_len VlT_ok Tryz.underlying33 (.own 1)) ?_
   refine s_lt t_cmp ?_
   refine s_nt ?_
   refine k_cond (decide ((i : Int) < ((okeys S).length : Int))) (fun c33 => ?_) (fun c33 => ?_)
   ·
    have p34 := of_decide_eq_true c33
    refine k_st ?_
    refine k_seq ?_
    refine k_block ?_
    refine k_sr ?_
    refine sp v30 ?_
    refine sp (.int .i64 (i : Int)) ?_
    refine s_lt (t_index VlT_ok Tryz.underlying33 (.own 1) (i : Int) i (by omega) (by (try simp only [lnm]); omega) (by omega)) ?_
    obtain ⟨y35, hy36⟩ : ∃ y, (okeys S)[i]? = some y := ⟨_, List.getElem?_eq_getElem (by (try simp only [lnm]); omega)⟩
    obtain ⟨s37, hs38, rfl⟩ := okeys_get hy36
    refine s_lt (t_loadE VlT_ok (.own 1) hy36) ?_
    refine s_vcall (fun _ h => rwhole2_s s37.key) ?_
    rintro _ rfl
    refine sp (.int .i64 (whole s37.key)) ?_
    refine s_nr ?_
    refine sp (.int .i64 (whole s37.key)) ?_
    refine s_lt t_cmp ?_
    refine sp (.bool (decide ((whole s37.key) < 1))) ?_
    refine s_fork 62 (decide ((whole s37.key) < 1)) (fun c39 => ?_) (fun c39 => ?_)
    ·
     have p40 := of_decide_eq_true c39
     refine s_skip ?_
     refine s_skip ?_
     refine s_skip ?_
     refine s_skip ?_
     refine s_skip ?_
     refine s_skip ?_
     refine s_skip ?_
     refine sp (.bool true) ?_
     refine s_nt ?_
     refine k_true ?_
     refine k_mem2 (fun H h => rt_open (h.re [0] [])) (fun lv41 r42 hw => ?_)
     refine k_held [blkA b #[lv41, pB r42 0] 127, own VlT lv41 L, own VlT v30 (okeys S)] ?_
     refine hp_ 0 [0, 0, 1] (pB r29 0) ?_
     refine hp_ 1 [0, 0, 1] v30 ?_
     refine hp_ 2 [0, 0, 1] (.int .i64 (i : Int)) ?_
     refine h_l 3 rfl [0, 0, 1] (fun _ => (t_index VlT_ok Tryz.underlying33 (.own 2) (i : Int) i (by omega) (by (try simp only [lnm]); omega) (by omega))) ?_
     refine h_l 4 rfl [0, 0, 1] (fun _ => (t_loadE VlT_ok (.own 2) hy36)) ?_
     refine hp_ 5 [0, 0, 1] (pB b 0) ?_
     refine hp_ 6 [0, 0, 1] (pB b 0) ?_
     refine hp_ 7 [0, 0, 1] (pB b 1) ?_
     refine h_l 8 rfl [0, 0, 1] (fun _ => (t_load 0 (pB r42 0))) ?_
     refine hp_ 9 [0, 0, 1] v30 ?_
     refine hp_ 10 [0, 0, 1] (.int .i64 (i : Int)) ?_
     refine h_l 11 rfl [0, 0, 1] (fun _ => (t_index VlT_ok Tryz.underlying33 (.own 2) (i : Int) i (by omega) (by (try simp only [lnm]); omega) (by omega))) ?_
     refine h_l 12 rfl [0, 0, 1] (fun _ => (t_loadE VlT_ok (.own 2) hy36)) ?_
     refine h_stepS 13 ?_
     refine s_call [2] (rmget_s (S := S) (by (try simp only [lnm]); omega) s37.key) ?_
     rintro _ _ ⟨rfl, rfl⟩
     refine s_nil (xs_held [1, 1, 1] ?_)
     refine h_stepS 14 ?_
     refine s_call [4] (rmset_s (S := (purgeS S L.length i)) (by (try simp only [lnm]); omega) s37.key (oget S s37.key)) ?_
     rintro _ _ ⟨rfl, rfl⟩
     refine s_nil (xs_held [2, 2, 2] ?_)
     refine h_doneS ?_
     refine xs_block ?_
     refine xs_then ?_
     refine k_reg ?_
     refine sp (.int .i64 (i : Int)) ?_
     refine s_lt (t_add (i : Int) 1 (by (try simp only [lnm]); omega)) ?_
     refine sp (.int .i64 ((i : Int) + 1)) ?_
     refine s_nil ?_
     have hps := purge_step hinv0 (m := L.length) hs38
     have hib : inB (whole s37.key) L.length = false := inB_false (by omega)
     have hpe := hps.1 hib
     rw [hpe]
     refine xs_mem (fun _ h => rt_shut (h.re [2, 2, 1] [])) ?_
     exact xs_round (i + 1) (by omega) (by omega) (sub_of rfl ⟨⟨rfl, rfl⟩, ⟨⟨rfl, rfl⟩, ⟨⟨rfl, rfl⟩, ⟨⟨rfl, rfl⟩, trivial⟩⟩⟩⟩) (fun _ h => h.re [0, 1, 0] [])
    ·
     have p43 := of_decide_eq_false c39
     refine sp (.int .i64 (whole s37.key)) ?_
     refine sp (pB b 0) ?_
     refine sp (pB b 0) ?_
     refine sp (pB b 0) ?_
     refine s_mem2 (fun H h => rt_open (h.re [0] [])) (fun lv44 r45 hw => ?_)
     refine s_lt (t_load 0 lv44) ?_
     refine s_lt (t_len VlT_ok Tryz.underlying33 (.own 1)) ?_
     refine s_lt t_cmp ?_
     refine sp (.bool (decide ((L.length : Int) < (whole s37.key)))) ?_
     refine s_nt ?_
     refine k_cond (decide ((L.length : Int) < (whole s37.key))) (fun c46 => ?_) (fun c46 => ?_)
     ·
      have p47 := of_decide_eq_true c46
      refine k_held [blkA b #[lv44, pB r45 0] 127, own VlT lv44 L, own VlT v30 (okeys S)] ?_
      refine hp_ 0 [0, 0, 1] (pB r29 0) ?_
      refine hp_ 1 [0, 0, 1] v30 ?_
      refine hp_ 2 [0, 0, 1] (.int .i64 (i : Int)) ?_
      refine h_l 3 rfl [0, 0, 1] (fun _ => (t_index VlT_ok Tryz.underlying33 (.own 2) (i : Int) i (by omega) (by (try simp only [lnm]); omega) (by omega))) ?_
      refine h_l 4 rfl [0, 0, 1] (fun _ => (t_loadE VlT_ok (.own 2) hy36)) ?_
      refine hp_ 5 [0, 0, 1] (pB b 0) ?_
      refine hp_ 6 [0, 0, 1] (pB b 0) ?_
      refine hp_ 7 [0, 0, 1] (pB b 1) ?_
      refine h_l 8 rfl [0, 0, 1] (fun _ => (t_load 0 (pB r45 0))) ?_
      refine hp_ 9 [0, 0, 1] v30 ?_
      refine hp_ 10 [0, 0, 1] (.int .i64 (i : Int)) ?_
      refine h_l 11 rfl [0, 0, 1] (fun _ => (t_index VlT_ok Tryz.underlying33 (.own 2) (i : Int) i (by omega) (by (try simp only [lnm]); omega) (by omega))) ?_
      refine h_l 12 rfl [0, 0, 1] (fun _ => (t_loadE VlT_ok (.own 2) hy36)) ?_
      refine h_stepS 13 ?_
      refine s_call [2] (rmget_s (S := S) (by (try simp only [lnm]); omega) s37.key) ?_
      rintro _ _ ⟨rfl, rfl⟩
      refine s_nil (xs_held [1, 1, 1] ?_)
      refine h_stepS 14 ?_
      refine s_call [4] (rmset_s (S := (purgeS S L.length i)) (by (try simp only [lnm]); omega) s37.key (oget S s37.key)) ?_
      rintro _ _ ⟨rfl, rfl⟩
      refine s_nil (xs_held [2, 2, 2] ?_)
      refine h_doneS ?_
      refine xs_block ?_
      refine xs_then ?_
      refine k_reg ?_
      refine sp (.int .i64 (i : Int)) ?_
      refine s_lt (t_add (i : Int) 1 (by (try simp only [lnm]); omega)) ?_
      refine sp (.int .i64 ((i : Int) + 1)) ?_
      refine s_nil ?_
      have hps := purge_step hinv0 (m := L.length) hs38
      have hib : inB (whole s37.key) L.length = false := inB_false (by omega)
      have hpe := hps.1 hib
      rw [hpe]
      refine xs_mem (fun _ h => rt_shut (h.re [2, 2, 1] [])) ?_
      exact xs_round (i + 1) (by omega) (by omega) (sub_of rfl ⟨⟨rfl, rfl⟩, ⟨⟨rfl, rfl⟩, ⟨⟨rfl, rfl⟩, ⟨⟨rfl, rfl⟩, trivial⟩⟩⟩⟩) (fun _ h => h.re [0, 1, 0] [])
     ·
      have p48 := of_decide_eq_false c46
      refine k_skip ?_
      refine xs_block ?_
      refine xs_then ?_
      refine k_reg ?_
      refine sp (.int .i64 (i : Int)) ?_
      refine s_lt (t_add (i : Int) 1 (by (try simp only [lnm]); omega)) ?_
      refine sp (.int .i64 ((i : Int) + 1)) ?_
      refine s_nil ?_
      have hps := purge_step hinv0 (m := L.length) hs38
      have hib : inB (whole s37.key) L.length = true := inB_iff.2 (by omega)
      have hpe := hps.2 hib
      rw [hpe]
      refine xs_mem (fun _ h => rt_shut (h.re [0, 0, 0] [])) ?_
      exact xs_round (i + 1) (by omega) (by omega) (sub_of rfl ⟨⟨rfl, rfl⟩, ⟨⟨rfl, rfl⟩, ⟨⟨rfl, rfl⟩, ⟨⟨rfl, rfl⟩, trivial⟩⟩⟩⟩) (fun _ h => h.re [0, 0, 0] [])
   ·
    have p49 := of_decide_eq_false c33
    refine k_exit ?_
    refine xs_exit ?_
    refine xs_exit ?_
    refine xs_here ?_
    refine xs_then ?_
    refine k_reg ?_
    refine sp (pB b 0) ?_
    refine sp (pB r29 0) ?_
    refine sp (pB b 0) ?_
    refine sp (pB b 1) ?_
    refine s_mem2 (fun H h => rt_open (h.re [0] [])) (fun lv50 r51 hw => ?_)
    refine s_store 0 #[lv50, pB r29 0] ?_
    refine s_nil ?_
    refine xs_mem (fun _ h => rt_shut (h.re [0, 0, 2] [])) ?_
    have hj : j = L.length := by omega
    have hpe : purgeS S L.length i = purge S L.length := purge_end S L.length i (by rw [← okeys_length]; omega)
    have hT : (if staleB S n L.length then purge S L.length else S) = purgeS S L.length i := by rw [if_pos (by rw [← hj]; exact c28), hpe]
    refine xs_finN [] (rtA b L (purgeS S L.length i) :: F) SI.nil (fun _ h => h.re [0] [1, 1]) ⟨rfl, ?_⟩
    rw [hT]
theorem rtset_s {Z : Zone} {F : List Asr} {b : Nat} {L : List Vl} {S : List Slt} (hti : TInv ⟨L, S⟩) (hl : L.length ≤ 100000) (hs : S.length ≤ 100000) (k v : Vl) : SF Tryz.prog 85 #[.pointer (some ⟨b, 0, none⟩), k.v, v.v] Z (rtA b L S :: F) fun r Bs => r = .int .i64 (tsetE k v) ∧ Bs = rtA b (tset ⟨L, S⟩ k v).list (tset ⟨L, S⟩ k v).rest :: F := by
 refine sf_enter Tryz.func85 126 [(0, pB b 0), (1, .agg #[.int .i64 k.kind, .int .i64 k.p, .int .i64 k.q, .string k.str, .int .i64 k.ref]), (2, .agg #[.int .i64 v.kind, .int .i64 v.p, .int .i64 v.q, .string v.str, .int .i64 v.ref])] (fun w0 => ?_)
 refine k_fact (fun H h => rt_inv (h.re [0] [])) (fun hinv0 => ?_)
 have hol := okeys_len S
 refine k_sr ?_
 refine s_box #[.int .i64 k.kind, .int .i64 k.p, .int .i64 k.q, .string k.str, .int .i64 k.ref] (fun g1 => ?_)
 refine s_box #[.int .i64 v.kind, .int .i64 v.p, .int .i64 v.q, .string v.str, .int .i64 v.ref] (fun g2 => ?_)
 refine sp (.int .i64 0) ?_
 refine s_nt ?_
 refine k_seq ?_
 refine k_sr ?_
 refine sp (pB b 0) ?_
 refine sp (.bool false) ?_
 refine s_nt ?_
 refine k_false ?_
 refine k_st ?_
 refine k_seq ?_
 refine k_sr ?_
 refine sp (pB g1 0) ?_
 refine s_lt (t_load 1 (.int .i64 k.kind)) ?_
 refine s_lt t_cmp ?_
 refine sp (.bool (decide (k.kind = 0))) ?_
 refine s_fork 13 (decide (k.kind = 0)) (fun c3 => ?_) (fun c3 => ?_)
 ·
  have p4 := of_decide_eq_true c3
  refine s_skip ?_
  refine s_skip ?_
  refine s_skip ?_
  refine sp (.bool true) ?_
  refine s_nt ?_
  refine k_true ?_
  refine k_sr ?_
  refine sp (.int .i64 13) ?_
  refine s_nt ?_
  refine k_ret ?_
  refine xs_ret ?_
  have hk : okKey k = false := okKey_bad (by first | exact p4 | exact .inl p4 | exact .inr p4)
  refine xs_fin [.int .i64 13] (rtA b L S :: F) (SI.tmp 6 SI.nil) (fun _ h => h.re [2] [1, 1]) ⟨congrArg (Value.int .i64) (tsetE_bad hk).symm, ?_⟩
  rw [tset_bad (v := v) (.inl hk)]
 ·
  have p5 := of_decide_eq_false c3
  refine s_lt (t_loadA 1 #[.int .i64 k.kind, .int .i64 k.p, .int .i64 k.q, .string k.str, .int .i64 k.ref]) ?_
  refine s_vcall (fun _ h => rvalid_s k) ?_
  rintro _ rfl
  refine sp (.bool (!(validB k))) ?_
  refine sp (.bool (!(validB k))) ?_
  refine s_nt ?_
  refine k_cond (!(validB k)) (fun c6 => ?_) (fun c6 => ?_)
  ·
   have c7 := not_t c6
   refine k_sr ?_
   refine sp (.int .i64 13) ?_
   refine s_nt ?_
   refine k_ret ?_
   refine xs_ret ?_
   have hk : okKey k = false := okKey_bad (by first | exact c7 | exact .inl c7 | exact .inr c7)
   refine xs_fin [.int .i64 13] (rtA b L S :: F) (SI.tmp 6 SI.nil) (fun _ h => h.re [2] [1, 1]) ⟨congrArg (Value.int .i64) (tsetE_bad hk).symm, ?_⟩
   rw [tset_bad (v := v) (.inl hk)]
  ·
   have c8 := not_f c6
   refine k_st ?_
   refine k_seq ?_
   refine k_sr ?_
   refine s_lt (t_loadA 0 #[.int .i64 v.kind, .int .i64 v.p, .int .i64 v.q, .string v.str, .int .i64 v.ref]) ?_
   refine s_vcall (fun _ h => rvalid_s v) ?_
   rintro _ rfl
   refine sp (.bool (!(validB v))) ?_
   refine s_nt ?_
   refine k_cond (!(validB v)) (fun c9 => ?_) (fun c9 => ?_)
   ·
    have c10 := not_t c9
    refine k_sr ?_
    refine sp (.int .i64 2) ?_
    refine s_nt ?_
    refine k_ret ?_
    refine xs_ret ?_
    have hk := okKey_good c3 c8
    refine xs_fin [.int .i64 2] (rtA b L S :: F) (SI.tmp 6 SI.nil) (fun _ h => h.re [2] [1, 1]) ⟨congrArg (Value.int .i64) (tsetE_val hk c10).symm, ?_⟩
    rw [tset_bad (v := v) (.inr c10)]
   ·
    have c11 := not_f c9
    refine k_st ?_
    refine k_sr ?_
    refine s_lt (t_loadA 1 #[.int .i64 k.kind, .int .i64 k.p, .int .i64 k.q, .string k.str, .int .i64 k.ref]) ?_
    refine s_vcall (fun _ h => rwhole2_s k) ?_
    rintro _ rfl
    refine sp (.int .i64 (whole k)) ?_
    refine s_nt ?_
    refine k_seq ?_
    refine k_sr ?_
    refine sp (.int .i64 (whole k)) ?_
    refine s_lt t_cmp ?_
    refine sp (.bool (decide ((1 : Int) ≤ (whole k)))) ?_
    refine s_fork 25 (decide ((1 : Int) ≤ (whole k))) (fun c12 => ?_) (fun c12 => ?_)
    ·
     have p13 := of_decide_eq_true c12
     refine sp (.int .i64 (whole k)) ?_
     refine sp (pB b 0) ?_
     refine sp (pB b 0) ?_
     refine sp (pB b 0) ?_
     refine s_mem2 (fun H h => rt_open (h.re [2] [])) (fun lv14 r15 hw => ?_)
     refine s_lt (t_load 0 lv14) ?_
     refine s_lt (t_len VlT_ok Tryz.underlying33 (.own 1)) ?_
     refine s_lt t_cmp ?_
     refine sp (.bool (decide ((whole k) ≤ (L.length : Int)))) ?_
     refine s_nt ?_
     refine k_cond (decide ((whole k) ≤ (L.length : Int))) (fun c16 => ?_) (fun c16 => ?_)
     ·
      have p17 := of_decide_eq_true c16
      refine k_seq ?_
      refine k_draw ?_
      refine sp (pB b 0) ?_
      refine sp (pB b 0) ?_
      refine sp (pB b 0) ?_
      refine s_lt (t_load 0 lv14) ?_
      refine sp (.int .i64 (whole k)) ?_
      refine s_lt (t_sub (whole k) 1 (by (try simp only [lnm]); omega)) ?_
      refine s_lt (t_loadA 3 #[.int .i64 v.kind, .int .i64 v.p, .int .i64 v.q, .string v.str, .int .i64 v.ref]) ?_
      refine s_lt (t_index VlT_ok Tryz.underlying33 (.own 1) ((whole k) - 1) ((((whole k) - 1)).toNat) (by omega) (by (try simp only [lnm]); omega) (by omega)) ?_
      obtain ⟨y18, hy19⟩ : ∃ y, L[(((whole k) - 1)).toNat]? = some y := ⟨_, List.getElem?_eq_getElem (by (try simp only [lnm]); omega)⟩
      refine s_storeE 1 0 v VlT_ok hy19 ?_
      refine s_nil ?_
      refine x_dynS (fun _ h => by kernel_rfl) ?_
      refine xs_then ?_
      refine k_seq ?_
      refine k_block ?_
      have hsl : (L.set (whole k - 1).toNat v).length = L.length := List.length_set
      refine k_loop (ι := Value × List Vl) (fun (lx, X) => shr (L.set (whole k - 1).toNat v) = shr X ∧ X.length ≤ L.length) (fun (lx, X) => [(0, pB b 0)]) (fun (lx, X) => blkA b #[lx, pB r15 0] 127 :: own VlT lx X :: rmA r15 S :: blkA g2 #[.int .i64 v.kind, .int .i64 v.p, .int .i64 v.q, .string v.str, .int .i64 v.ref] 26 :: blkA g1 #[.int .i64 k.kind, .int .i64 k.p, .int .i64 k.q, .string k.str, .int .i64 k.ref] 26 :: F) (fun (lx, X) => X.length) (lv14, (L.set ((((whole k) - 1)).toNat) v)) ⟨rfl, by omega⟩ (sub_of rfl ⟨⟨rfl, rfl⟩, trivial⟩) (fun _ h => h.re [0, 0, 0, 0, 0] []) ?_
      rintro ⟨lx, X⟩ hi20
      replace hi20 : shr (L.set (whole k - 1).toNat v) = shr X ∧ X.length ≤ L.length := hi20
      show SK _ _ _ _ _ [(0, .pointer (some ⟨b, 0, none⟩))] _ (blkA b #[lx, .pointer (some ⟨r15, 0, none⟩)] 127 :: own VlT lx X :: rmA r15 S :: blkA g2 #[.int .i64 v.kind, .int .i64 v.p, .int .i64 v.q, .string v.str, .int .i64 v.ref] 26 :: blkA g1 #[.int .i64 k.kind, .int .i64 k.p, .int .i64 k.q, .string k.str, .int .i64 k.ref] 26 :: F)
      refine k_seq ?_
      refine k_seq ?_
      refine k_draw ?_
      refine sp (pB b 0) ?_
      refine sp (pB b 0) ?_
      refine sp (pB b 0) ?_
      refine s_lt (t_load 0 lx) ?_
      refine s_fact (fun H h => ((Acc.own (T := VlT) (L := X) 1 rfl) H h).form) (fun hf21 => ?_)
      refine s_lt (t_len VlT_ok Tryz.underlying33 (.own 1)) ?_
      refine s_lt t_cmp ?_
      refine sp (.bool (decide ((0 : Int) < (X.length : Int)))) ?_
      refine s_fork 48 (decide ((0 : Int) < (X.length : Int))) (fun c22 => ?_) (fun c22 => ?_)
      ·
       have p23 := of_decide_eq_true c22
       refine sp (pB b 0) ?_
       refine sp (pB b 0) ?_
       refine sp (pB b 0) ?_
       refine s_lt (t_load 0 lx) ?_
       refine sp (pB b 0) ?_
       refine sp (pB b 0) ?_
       refine sp (pB b 0) ?_
       refine s_lt (t_load 0 lx) ?_
       refine s_lt (t_len VlT_ok Tryz.underlying33 (.own 1)) ?_
       refine s_lt (t_sub (X.length : Int) 1 (by (try simp only [lnm]); omega)) ?_
       refine s_lt (t_index VlT_ok Tryz.underlying33 (.own 1) ((X.length : Int) - 1) (X.length - 1) (by omega) (by (try simp only [lnm]); omega) (by omega)) ?_
       refine sp (.pointer (some (elemAt VlT.size lx (X.length - 1)))) ?_
       obtain ⟨y24, hy25⟩ : ∃ y, X[(X.length - 1)]? = some y := ⟨_, List.getElem?_eq_getElem (by (try simp only [lnm]); omega)⟩
       refine s_lt (t_loadF 0 VlT_ok (.own 1) hy25) ?_
       refine s_lt t_cmp ?_
       refine sp (.bool (decide (y24.kind = 0))) ?_
       refine s_nil ?_
       refine x_dynS (fun _ h => by obtain ⟨_, _, e⟩ := hf21; subst e; kernel_rfl) ?_
       refine xs_then ?_
       refine k_cond (decide (y24.kind = 0)) (fun c26 => ?_) (fun c26 => ?_)
       ·
        have p27 := of_decide_eq_true c26
        refine k_st ?_
        refine k_block ?_
        refine k_draw ?_
        refine sp (pB b 0) ?_
        refine sp (pB b 0) ?_
        refine sp (pB b 0) ?_
        refine sp (pB b 0) ?_
        refine s_lt (t_load 0 lx) ?_
        refine sp (pB b 0) ?_
        refine sp (pB b 0) ?_
        refine sp (pB b 0) ?_
        refine s_lt (t_load 0 lx) ?_
        refine s_lt (t_len VlT_ok Tryz.underlying33 (.own 1)) ?_
        refine s_lt (t_sub (X.length : Int) 1 (by (try simp only [lnm]); omega)) ?_
        refine s_lt (t_pre VlT_ok Tryz.underlying33 (.own 1) ((X.length : Int) - 1) (X.length - 1) (by omega) (by (try simp only [lnm]); omega) (by omega)) ?_
        refine sp (pB b 0) ?_
        refine sp (pB b 0) ?_
        refine s_mem (fun _ h => Holds.pre (i := 1) h VlT_ok (X.length - 1) rfl (by (try simp only [lnm]); omega)) ?_
        refine s_fact (fun H h => ((Acc.own (T := VlT) (L := (X.take (X.length - 1))) 1 rfl) H h).form) (fun hf28 => ?_)
        refine s_store (u := (pre lx (X.length - 1))) (m := 1) 0 #[(pre lx (X.length - 1)), pB r15 0] ?_ (hm := by (obtain ⟨_, _, e⟩ := hf28; rw [e]; rfl)) (h1 := by (obtain ⟨_, _, e⟩ := hf28; rw [e]; rfl)) (ha' := by (obtain ⟨_, _, e⟩ := hf28; rw [e]; rfl))
        refine s_nil ?_
        refine x_dynS (fun _ h => by obtain ⟨_, _, e⟩ := hf21; subst e; kernel_rfl) ?_
        refine xs_block ?_
        exact xs_round ((pre lx (X.length - 1)), X.take (X.length - 1)) (by show (X.take (X.length - 1)).length < X.length; rw [List.length_take]; omega) (by show shr _ = shr (X.take (X.length - 1)) ∧ (X.take (X.length - 1)).length ≤ L.length; rw [← shr_step (n := X.length - 1) (by omega) hy25 (by omega), show X.length - 1 + 1 = X.length by omega, List.take_length]; exact ⟨hi20.1, by rw [List.length_take]; omega⟩) (sub_of rfl ⟨⟨rfl, rfl⟩, trivial⟩) (fun _ h => h.re [0, 0, 0, 0, 0] [])
       ·
        have p29 := of_decide_eq_false c26
        refine k_exit ?_
        refine xs_exit ?_
        refine xs_exit ?_
        refine xs_here ?_
        refine xs_then ?_
        refine k_sr ?_
        refine sp (.int .i64 0) ?_
        refine s_nt ?_
        refine k_ret ?_
        refine xs_ret ?_
        refine xs_mem (fun _ h => rt_shut (h.re [0, 0, 0] [])) ?_
        have hk := okKey_good c3 c8
        have hS : shr X = X := by have h1 := shr_stop (n := X.length - 1) hy25 (by omega); rw [show X.length - 1 + 1 = X.length by omega, List.take_length] at h1; exact h1
        have hT : tset ⟨L, S⟩ k v = ⟨X, S⟩ := by rw [tset_in (T := ⟨L, S⟩) hk c11 (by omega) (by show _ ≤ (L.length : Int); omega)]; show (⟨shr (L.set _ v), S⟩ : Tb) = _; rw [hi20.1, hS]
        refine xs_fin [.int .i64 0] (rtA b X S :: F) (SI.tmp 6 SI.nil) (fun _ h => h.re [0] [1, 1]) ⟨congrArg (Value.int .i64) (tsetE_ok hk c11).symm, ?_⟩
        rw [hT]
      ·
       have p30 := of_decide_eq_false c22
       refine s_skip ?_
       refine s_skip ?_
       refine s_skip ?_
       refine s_skip ?_
       refine s_skip ?_
       refine s_skip ?_
       refine s_skip ?_
       refine s_skip ?_
       refine s_skip ?_
       refine s_skip ?_
       refine s_skip ?_
       refine s_skip ?_
       refine s_skip ?_
       refine s_skip ?_
       refine sp (.bool false) ?_
       refine s_nil ?_
       refine x_dynS (fun _ h => by obtain ⟨_, _, e⟩ := hf21; subst e; kernel_rfl) ?_
       refine xs_then ?_
       refine k_false ?_
       refine k_exit ?_
       refine xs_exit ?_
       refine xs_exit ?_
       refine xs_here ?_
       refine xs_then ?_
       refine k_sr ?_
       refine sp (.int .i64 0) ?_
       refine s_nt ?_
       refine k_ret ?_
       refine xs_ret ?_
       refine xs_mem (fun _ h => rt_shut (h.re [0, 0, 0] [])) ?_
       have hk := okKey_good c3 c8
       have hS : shr X = X := by obtain rfl : X = [] := List.eq_nil_of_length_eq_zero (by omega); rfl
       have hT : tset ⟨L, S⟩ k v = ⟨X, S⟩ := by rw [tset_in (T := ⟨L, S⟩) hk c11 (by omega) (by show _ ≤ (L.length : Int); omega)]; show (⟨shr (L.set _ v), S⟩ : Tb) = _; rw [hi20.1, hS]
       refine xs_fin [.int .i64 0] (rtA b X S :: F) (SI.tmp 6 SI.nil) (fun _ h => h.re [0] [1, 1]) ⟨congrArg (Value.int .i64) (tsetE_ok hk c11).symm, ?_⟩
       rw [hT]
     ·
      have p31 := of_decide_eq_false c16
      refine k_st ?_
      refine k_seq ?_
      refine k_sr ?_
      refine sp (.int .i64 (whole k)) ?_
      refine sp (pB b 0) ?_
      refine sp (pB b 0) ?_
      refine sp (pB b 0) ?_
      refine s_lt (t_load 0 lv14) ?_
      refine s_lt (t_len VlT_ok Tryz.underlying33 (.own 1)) ?_
      refine s_lt (t_add (L.length : Int) 1 (by (try simp only [lnm]); omega)) ?_
      refine s_lt t_cmp ?_
      refine sp (.bool (decide ((whole k) ≠ ((L.length : Int) + 1)))) ?_
      refine s_fork 86 (decide ((whole k) ≠ ((L.length : Int) + 1))) (fun c32 => ?_) (fun c32 => ?_)
      ·
       have p33 := of_decide_eq_true c32
       refine s_skip ?_
       refine s_skip ?_
       refine s_skip ?_
       refine sp (.bool true) ?_
       refine s_nt ?_
       refine k_true ?_
       refine k_seq ?_
       refine k_draw ?_
       refine sp (pB b 0) ?_
       refine sp (pB b 0) ?_
       refine sp (pB b 1) ?_
       refine s_lt (t_load 0 (pB r15 0)) ?_
       refine s_lt (t_loadA 4 #[.int .i64 k.kind, .int .i64 k.p, .int .i64 k.q, .string k.str, .int .i64 k.ref]) ?_
       refine s_lt (t_loadA 3 #[.int .i64 v.kind, .int .i64 v.p, .int .i64 v.q, .string v.str, .int .i64 v.ref]) ?_
       refine s_call [2] (rmset_s (S := S) (by (try simp only [lnm]); omega) k v) ?_
       rintro _ _ ⟨rfl, rfl⟩
       refine sp (.int .i64 (osetE k v)) ?_
       refine s_nil ?_
       refine x_dynS (fun _ h => by kernel_rfl) ?_
       refine xs_then ?_
       refine k_ret ?_
       refine xs_ret ?_
       refine xs_mem (fun _ h => rt_shut (h.re [1, 1, 0] [])) ?_
       have hk := okKey_good c3 c8
       refine xs_fin [.int .i64 (osetE k v)] (rtA b L (osetL S k v) :: F) (SI.tmp 6 SI.nil) (fun _ h => h.re [0] [1, 1]) ⟨congrArg (Value.int .i64) ((tsetE_oset k v)).symm, ?_⟩
       rw [tset_out (T := ⟨L, S⟩) hk c11 (by show ¬ (_ ∧ _ ≤ (L.length : Int)); omega) (by show ¬ (_ = (L.length : Int) + 1 ∧ _); rintro ⟨e1, e2⟩; first | omega | (have hq := p33; simp_all))]
      ·
       have p34 := Decidable.not_not.1 (of_decide_eq_false c32)
       refine sp (pB g2 0) ?_
       refine s_lt (t_load 3 (.int .i64 v.kind)) ?_
       refine s_lt t_cmp ?_
       refine sp (.bool (decide (v.kind = 0))) ?_
       refine s_nt ?_
       refine k_cond (decide (v.kind = 0)) (fun c35 => ?_) (fun c35 => ?_)
       ·
        have p36 := of_decide_eq_true c35
        refine k_seq ?_
        refine k_draw ?_
        refine sp (pB b 0) ?_
        refine sp (pB b 0) ?_
        refine sp (pB b 1) ?_
        refine s_lt (t_load 0 (pB r15 0)) ?_
        refine s_lt (t_loadA 4 #[.int .i64 k.kind, .int .i64 k.p, .int .i64 k.q, .string k.str, .int .i64 k.ref]) ?_
        refine s_lt (t_loadA 3 #[.int .i64 v.kind, .int .i64 v.p, .int .i64 v.q, .string v.str, .int .i64 v.ref]) ?_
        refine s_call [2] (rmset_s (S := S) (by (try simp only [lnm]); omega) k v) ?_
        rintro _ _ ⟨rfl, rfl⟩
        refine sp (.int .i64 (osetE k v)) ?_
        refine s_nil ?_
        refine x_dynS (fun _ h => by kernel_rfl) ?_
        refine xs_then ?_
        refine k_ret ?_
        refine xs_ret ?_
        refine xs_mem (fun _ h => rt_shut (h.re [1, 1, 0] [])) ?_
        have hk := okKey_good c3 c8
        refine xs_fin [.int .i64 (osetE k v)] (rtA b L (osetL S k v) :: F) (SI.tmp 6 SI.nil) (fun _ h => h.re [0] [1, 1]) ⟨congrArg (Value.int .i64) ((tsetE_oset k v)).symm, ?_⟩
        rw [tset_out (T := ⟨L, S⟩) hk c11 (by show ¬ (_ ∧ _ ≤ (L.length : Int)); omega) (by show ¬ (_ = (L.length : Int) + 1 ∧ _); rintro ⟨e1, e2⟩; first | omega | (have hq := p36; simp_all))]
       ·
        have p37 := of_decide_eq_false c35
        refine k_st ?_
        refine k_seq ?_
        refine k_block ?_
        have hmu0 := mu_le S L.length v
        refine k_loop (ι := Value × List Vl × Vl × Nat) (fun (lx, X, x, f) => grow S (S.length + 2) L v = grow S f X x ∧ mu S X.length x ≤ f ∧ L.length ≤ X.length ∧ X.length + mu S X.length x ≤ L.length + S.length + 1) (fun (lx, X, x, f) => [(0, pB b 0), (5, pB g2 0), (7, .int .i64 (whole k))]) (fun (lx, X, x, f) => blkA b #[lx, pB r15 0] 127 :: own VlT lx X :: rmA r15 S :: blkA g2 #[.int .i64 x.kind, .int .i64 x.p, .int .i64 x.q, .string x.str, .int .i64 x.ref] 26 :: blkA g1 #[.int .i64 k.kind, .int .i64 k.p, .int .i64 k.q, .string k.str, .int .i64 k.ref] 26 :: F) (fun (lx, X, x, f) => mu S X.length x) (lv14, L, v, S.length + 2) ⟨rfl, by omega, by omega, by omega⟩ (sub_of rfl ⟨⟨rfl, rfl⟩, ⟨⟨rfl, rfl⟩, ⟨⟨rfl, rfl⟩, trivial⟩⟩⟩) (fun _ h => h.re [0, 0, 0, 0, 0] []) ?_
        rintro ⟨lx, X, x, f⟩ hi38
        replace hi38 : grow S (S.length + 2) L v = grow S f X x ∧ mu S X.length x ≤ f ∧ L.length ≤ X.length ∧ X.length + mu S X.length x ≤ L.length + S.length + 1 := hi38
        show SK _ _ _ _ _ [(0, .pointer (some ⟨b, 0, none⟩)), (5, .pointer (some ⟨g2, 0, none⟩)), (7, .int .i64 (whole k))] _ (blkA b #[lx, .pointer (some ⟨r15, 0, none⟩)] 127 :: own VlT lx X :: rmA r15 S :: blkA g2 #[.int .i64 x.kind, .int .i64 x.p, .int .i64 x.q, .string x.str, .int .i64 x.ref] 26 :: blkA g1 #[.int .i64 k.kind, .int .i64 k.p, .int .i64 k.q, .string k.str, .int .i64 k.ref] 26 :: F)
        refine k_seq ?_
        refine k_sr ?_
        refine sp (pB g2 0) ?_
        refine s_lt (t_load 3 (.int .i64 x.kind)) ?_
        refine s_lt t_cmp ?_
        refine s_nt ?_
        refine k_cond (decide (x.kind ≠ 0)) (fun c39 => ?_) (fun c39 => ?_)
        ·
         have p40 := of_decide_eq_true c39
         have hx0 : x.kind ≠ 0 := of_decide_eq_true c39
         obtain ⟨f1, hf1, hg1⟩ := grow_step S X hx0 hi38.2.1
         have hg2 : grow S (S.length + 2) L v = grow S (f - 1) (X ++ [x]) (oget S (ofI ((X.length : Int) + 2))) := by rw [hi38.1, hg1, hf1]; rfl
         refine k_st ?_
         refine k_block ?_
         refine k_seq ?_
         refine k_draw ?_
         refine sp (pB b 0) ?_
         refine sp (pB b 0) ?_
         refine sp (pB b 0) ?_
         refine sp (pB b 0) ?_
         refine s_lt (t_load 0 lx) ?_
         refine s_lt (t_loadA 3 #[.int .i64 x.kind, .int .i64 x.p, .int .i64 x.q, .string x.str, .int .i64 x.ref]) ?_
         refine s_buildSlice (e := 26) [(0, .agg #[.int .i64 x.kind, .int .i64 x.p, .int .i64 x.q, .string x.str, .int .i64 x.ref])] #[.int .i64 x.kind, .int .i64 x.p, .int .i64 x.q, .string x.str, .int .i64 x.ref] (fun g41 => ?_) (hb := by kernel_rfl)
         refine s_append (L := X) 2 VlT_ok Tryz.underlying33 (.lit 0 VlT_ok [x]) (by show _ * 48 ≤ _; (try simp only [lnm]); omega) (by (try simp only [lnm]); omega) (fun v42 => ?_)
         obtain ⟨L2, hL2⟩ : ∃ y, y = X ++ [x] := ⟨_, rfl⟩
         rw [← hL2]
         have ll2 : L2.length = X.length + 1 := by rw [hL2]; simp
         refine sp (pB b 0) ?_
         refine sp (pB b 0) ?_
         refine s_fact (fun H h => ((Acc.own (T := VlT) (L := L2) 2 rfl) H h).form) (fun hf43 => ?_)
         refine s_store (u := v42) (m := 1) 1 #[v42, pB r15 0] ?_ (hm := by (obtain ⟨_, _, e⟩ := hf43; rw [e]; rfl)) (h1 := by (obtain ⟨_, _, e⟩ := hf43; rw [e]; rfl)) (ha' := by (obtain ⟨_, _, e⟩ := hf43; rw [e]; rfl))
         refine s_nil ?_
         refine x_dynS (fun _ h => by kernel_rfl) ?_
         refine xs_then ?_
         refine k_held [blkA g41 #[.int .i64 x.kind, .int .i64 x.p, .int .i64 x.q, .string x.str, .int .i64 x.ref] 26, blkA b #[v42, pB r15 0] 127, own VlT v42 L2, blkA g1 #[.int .i64 k.kind, .int .i64 k.p, .int .i64 k.q, .string k.str, .int .i64 k.ref] 26] ?_
         refine hp_ 0 [0, 0, 0, 2] (pB b 0) ?_
         refine hp_ 1 [0, 0, 0, 2] (pB b 0) ?_
         refine hp_ 2 [0, 0, 0, 2] (pB b 1) ?_
         refine h_l 3 rfl [0, 0, 0, 2] (fun _ => (t_load 1 (pB r15 0))) ?_
         refine hp_ 4 [0, 0, 0, 2] (pB b 0) ?_
         refine hp_ 5 [0, 0, 0, 2] (pB b 0) ?_
         refine hp_ 6 [0, 0, 0, 2] (pB b 0) ?_
         refine h_l 7 rfl [0, 0, 0, 2] (fun _ => (t_load 1 v42)) ?_
         refine h_l 8 rfl [0, 0, 0, 2] (fun _ => (t_len VlT_ok Tryz.underlying33 (.own 2))) ?_
         refine h_l 9 rfl [0, 0, 0, 2] (fun _ => (Lt.to (v' := .int .i64 ((X.length : Int) + 2)) (t_add (L2.length : Int) 1 (by omega)) (congrArg (Value.int .i64) (by omega)))) ?_
         refine h_stepS 10 ?_
         refine s_vcall (fun _ h => rkey_s ((X.length : Int) + 2)) ?_
         rintro _ rfl
         refine s_nil (xs_held [0, 0, 0, 2] ?_)
         refine h_stepS 11 ?_
         refine s_call [3] (rmget_s (S := S) (by (try simp only [lnm]); omega) (ofI ((X.length : Int) + 2))) ?_
         rintro _ _ ⟨rfl, rfl⟩
         refine s_nil (xs_held [1, 1, 1, 2] ?_)
         refine h_stepS 12 ?_
         refine s_store 4 #[.int .i64 ((oget S (ofI ((X.length : Int) + 2))).kind), .int .i64 ((oget S (ofI ((X.length : Int) + 2))).p), .int .i64 ((oget S (ofI ((X.length : Int) + 2))).q), .string ((oget S (ofI ((X.length : Int) + 2))).str), .int .i64 ((oget S (ofI ((X.length : Int) + 2))).ref)] ?_
         refine s_nil (xs_held [1, 1, 1, 2] ?_)
         refine h_doneS ?_
         refine xs_block ?_
         exact xs_round (v42, L2, (oget S (ofI ((X.length : Int) + 2))), f - 1) (by show mu S _ _ < mu S _ _; rw [ll2]; exact mu_lt hinv0 hx0) (by show grow S (S.length + 2) L v = _ ∧ _; exact ⟨by rw [hg2, hL2], by rw [ll2]; have := mu_lt hinv0 (n := X.length) hx0; omega, by omega, by rw [ll2]; have := mu_lt hinv0 (n := X.length) hx0; omega⟩) (sub_of rfl ⟨⟨rfl, rfl⟩, ⟨⟨rfl, rfl⟩, ⟨⟨rfl, rfl⟩, trivial⟩⟩⟩) (fun _ h => h.re [2, 2, 0, 1, 1] [5])
        ·
         have p44 := Decidable.not_not.1 (of_decide_eq_false c39)
         have hx0 : x.kind = 0 := Decidable.not_not.1 (of_decide_eq_false c39)
         have hgr : grow S (S.length + 2) L v = X := by rw [hi38.1]; exact grow_stop S X hx0
         refine k_exit ?_
         refine xs_exit ?_
         refine xs_exit ?_
         refine xs_here ?_
         refine xs_then ?_
         refine k_sr ?_
         refine sp (pB b 0) ?_
         refine sp (.int .i64 (whole k)) ?_
         refine s_mem (fun _ h => rt_shut (h.re [0, 0, 0] [])) ?_
         refine s_call [0] (rtpurge_s (L := X) (S := S) (n := L.length) (by omega) (by omega) (by omega) (by omega)) ?_
         rintro _ _ ⟨rfl, rfl⟩
         refine s_nr ?_
         refine sp (.int .i64 0) ?_
         refine s_nt ?_
         refine k_ret ?_
         have hk := okKey_good c3 c8
         have hT : tset ⟨L, S⟩ k v = ⟨X, if staleB S L.length X.length then purge S X.length else S⟩ := by rw [tset_add (T := ⟨L, S⟩) hk c11 (by show _ = (L.length : Int) + 1; omega) (of_decide_eq_false c35), tadd_eq hgr]
         refine xs_fin [.int .i64 0] (rtA b X (if staleB S L.length X.length then purge S X.length else S) :: F) (SI.tmp 6 SI.nil) (fun _ h => h.re [0] [1, 1]) ⟨congrArg (Value.int .i64) (tsetE_ok hk c11).symm, ?_⟩
         rw [hT]
    ·
     have p45 := of_decide_eq_false c12
     refine s_skip ?_
     refine s_skip ?_
     refine s_skip ?_
     refine s_skip ?_
     refine s_skip ?_
     refine s_skip ?_
     refine s_skip ?_
     refine sp (.bool false) ?_
     refine s_nt ?_
     refine k_false ?_
     refine k_st ?_
     refine k_seq ?_
     refine k_sr ?_
     refine sp (.int .i64 (whole k)) ?_
     refine sp (pB b 0) ?_
     refine sp (pB b 0) ?_
     refine sp (pB b 0) ?_
     refine s_mem2 (fun H h => rt_open (h.re [2] [])) (fun lv46 r47 hw => ?_)
     refine s_lt (t_load 0 lv46) ?_
     refine s_lt (t_len VlT_ok Tryz.underlying33 (.own 1)) ?_
     refine s_lt (t_add (L.length : Int) 1 (by (try simp only [lnm]); omega)) ?_
     refine s_lt t_cmp ?_
     refine sp (.bool (decide ((whole k) ≠ ((L.length : Int) + 1)))) ?_
     refine s_fork 86 (decide ((whole k) ≠ ((L.length : Int) + 1))) (fun c48 => ?_) (fun c48 => ?_)
     ·
      have p49 := of_decide_eq_true c48
      refine s_skip ?_
      refine s_skip ?_
      refine s_skip ?_
      refine sp (.bool true) ?_
      refine s_nt ?_
      refine k_true ?_
      refine k_seq ?_
      refine k_draw ?_
      refine sp (pB b 0) ?_
      refine sp (pB b 0) ?_
      refine sp (pB b 1) ?_
      refine s_lt (t_load 0 (pB r47 0)) ?_
      refine s_lt (t_loadA 4 #[.int .i64 k.kind, .int .i64 k.p, .int .i64 k.q, .string k.str, .int .i64 k.ref]) ?_
      refine s_lt (t_loadA 3 #[.int .i64 v.kind, .int .i64 v.p, .int .i64 v.q, .string v.str, .int .i64 v.ref]) ?_
      refine s_call [2] (rmset_s (S := S) (by (try simp only [lnm]); omega) k v) ?_
      rintro _ _ ⟨rfl, rfl⟩
      refine sp (.int .i64 (osetE k v)) ?_
      refine s_nil ?_
      refine x_dynS (fun _ h => by kernel_rfl) ?_
      refine xs_then ?_
      refine k_ret ?_
      refine xs_ret ?_
      refine xs_mem (fun _ h => rt_shut (h.re [1, 1, 0] [])) ?_
      have hk := okKey_good c3 c8
      refine xs_fin [.int .i64 (osetE k v)] (rtA b L (osetL S k v) :: F) (SI.tmp 6 SI.nil) (fun _ h => h.re [0] [1, 1]) ⟨congrArg (Value.int .i64) ((tsetE_oset k v)).symm, ?_⟩
      rw [tset_out (T := ⟨L, S⟩) hk c11 (by show ¬ (_ ∧ _ ≤ (L.length : Int)); omega) (by show ¬ (_ = (L.length : Int) + 1 ∧ _); rintro ⟨e1, e2⟩; first | omega | (have hq := p49; simp_all))]
     ·
      have p50 := Decidable.not_not.1 (of_decide_eq_false c48)
      refine sp (pB g2 0) ?_
      refine s_lt (t_load 3 (.int .i64 v.kind)) ?_
      refine s_lt t_cmp ?_
      refine sp (.bool (decide (v.kind = 0))) ?_
      refine s_nt ?_
      refine k_cond (decide (v.kind = 0)) (fun c51 => ?_) (fun c51 => ?_)
      ·
       have p52 := of_decide_eq_true c51
       refine k_seq ?_
       refine k_draw ?_
       refine sp (pB b 0) ?_
       refine sp (pB b 0) ?_
       refine sp (pB b 1) ?_
       refine s_lt (t_load 0 (pB r47 0)) ?_
       refine s_lt (t_loadA 4 #[.int .i64 k.kind, .int .i64 k.p, .int .i64 k.q, .string k.str, .int .i64 k.ref]) ?_
       refine s_lt (t_loadA 3 #[.int .i64 v.kind, .int .i64 v.p, .int .i64 v.q, .string v.str, .int .i64 v.ref]) ?_
       refine s_call [2] (rmset_s (S := S) (by (try simp only [lnm]); omega) k v) ?_
       rintro _ _ ⟨rfl, rfl⟩
       refine sp (.int .i64 (osetE k v)) ?_
       refine s_nil ?_
       refine x_dynS (fun _ h => by kernel_rfl) ?_
       refine xs_then ?_
       refine k_ret ?_
       refine xs_ret ?_
       refine xs_mem (fun _ h => rt_shut (h.re [1, 1, 0] [])) ?_
       have hk := okKey_good c3 c8
       refine xs_fin [.int .i64 (osetE k v)] (rtA b L (osetL S k v) :: F) (SI.tmp 6 SI.nil) (fun _ h => h.re [0] [1, 1]) ⟨congrArg (Value.int .i64) ((tsetE_oset k v)).symm, ?_⟩
       rw [tset_out (T := ⟨L, S⟩) hk c11 (by show ¬ (_ ∧ _ ≤ (L.length : Int)); omega) (by show ¬ (_ = (L.length : Int) + 1 ∧ _); rintro ⟨e1, e2⟩; first | omega | (have hq := p52; simp_all))]
      ·
       have p53 := of_decide_eq_false c51
       refine k_st ?_
       refine k_seq ?_
       refine k_block ?_
       have hmu0 := mu_le S L.length v
       refine k_loop (ι := Value × List Vl × Vl × Nat) (fun (lx, X, x, f) => grow S (S.length + 2) L v = grow S f X x ∧ mu S X.length x ≤ f ∧ L.length ≤ X.length ∧ X.length + mu S X.length x ≤ L.length + S.length + 1) (fun (lx, X, x, f) => [(0, pB b 0), (5, pB g2 0), (7, .int .i64 (whole k))]) (fun (lx, X, x, f) => blkA b #[lx, pB r47 0] 127 :: own VlT lx X :: rmA r47 S :: blkA g2 #[.int .i64 x.kind, .int .i64 x.p, .int .i64 x.q, .string x.str, .int .i64 x.ref] 26 :: blkA g1 #[.int .i64 k.kind, .int .i64 k.p, .int .i64 k.q, .string k.str, .int .i64 k.ref] 26 :: F) (fun (lx, X, x, f) => mu S X.length x) (lv46, L, v, S.length + 2) ⟨rfl, by omega, by omega, by omega⟩ (sub_of rfl ⟨⟨rfl, rfl⟩, ⟨⟨rfl, rfl⟩, ⟨⟨rfl, rfl⟩, trivial⟩⟩⟩) (fun _ h => h.re [0, 0, 0, 0, 0] []) ?_
       rintro ⟨lx, X, x, f⟩ hi54
       replace hi54 : grow S (S.length + 2) L v = grow S f X x ∧ mu S X.length x ≤ f ∧ L.length ≤ X.length ∧ X.length + mu S X.length x ≤ L.length + S.length + 1 := hi54
       show SK _ _ _ _ _ [(0, .pointer (some ⟨b, 0, none⟩)), (5, .pointer (some ⟨g2, 0, none⟩)), (7, .int .i64 (whole k))] _ (blkA b #[lx, .pointer (some ⟨r47, 0, none⟩)] 127 :: own VlT lx X :: rmA r47 S :: blkA g2 #[.int .i64 x.kind, .int .i64 x.p, .int .i64 x.q, .string x.str, .int .i64 x.ref] 26 :: blkA g1 #[.int .i64 k.kind, .int .i64 k.p, .int .i64 k.q, .string k.str, .int .i64 k.ref] 26 :: F)
       refine k_seq ?_
       refine k_sr ?_
       refine sp (pB g2 0) ?_
       refine s_lt (t_load 3 (.int .i64 x.kind)) ?_
       refine s_lt t_cmp ?_
       refine s_nt ?_
       refine k_cond (decide (x.kind ≠ 0)) (fun c55 => ?_) (fun c55 => ?_)
       ·
        have p56 := of_decide_eq_true c55
        have hx0 : x.kind ≠ 0 := of_decide_eq_true c55
        obtain ⟨f1, hf1, hg1⟩ := grow_step S X hx0 hi54.2.1
        have hg2 : grow S (S.length + 2) L v = grow S (f - 1) (X ++ [x]) (oget S (ofI ((X.length : Int) + 2))) := by rw [hi54.1, hg1, hf1]; rfl
        refine k_st ?_
        refine k_block ?_
        refine k_seq ?_
        refine k_draw ?_
        refine sp (pB b 0) ?_
        refine sp (pB b 0) ?_
        refine sp (pB b 0) ?_
        refine sp (pB b 0) ?_
        refine s_lt (t_load 0 lx) ?_
        refine s_lt (t_loadA 3 #[.int .i64 x.kind, .int .i64 x.p, .int .i64 x.q, .string x.str, .int .i64 x.ref]) ?_
        refine s_buildSlice (e := 26) [(0, .agg #[.int .i64 x.kind, .int .i64 x.p, .int .i64 x.q, .string x.str, .int .i64 x.ref])] #[.int .i64 x.kind, .int .i64 x.p, .int .i64 x.q, .string x.str, .int .i64 x.ref] (fun g57 => ?_) (hb := by kernel_rfl)
        refine s_append (L := X) 2 VlT_ok Tryz.underlying33 (.lit 0 VlT_ok [x]) (by show _ * 48 ≤ _; (try simp only [lnm]); omega) (by (try simp only [lnm]); omega) (fun v58 => ?_)
        obtain ⟨L2, hL2⟩ : ∃ y, y = X ++ [x] := ⟨_, rfl⟩
        rw [← hL2]
        have ll2 : L2.length = X.length + 1 := by rw [hL2]; simp
        refine sp (pB b 0) ?_
        refine sp (pB b 0) ?_
        refine s_fact (fun H h => ((Acc.own (T := VlT) (L := L2) 2 rfl) H h).form) (fun hf59 => ?_)
        refine s_store (u := v58) (m := 1) 1 #[v58, pB r47 0] ?_ (hm := by (obtain ⟨_, _, e⟩ := hf59; rw [e]; rfl)) (h1 := by (obtain ⟨_, _, e⟩ := hf59; rw [e]; rfl)) (ha' := by (obtain ⟨_, _, e⟩ := hf59; rw [e]; rfl))
        refine s_nil ?_
        refine x_dynS (fun _ h => by kernel_rfl) ?_
        refine xs_then ?_
        refine k_held [blkA g57 #[.int .i64 x.kind, .int .i64 x.p, .int .i64 x.q, .string x.str, .int .i64 x.ref] 26, blkA b #[v58, pB r47 0] 127, own VlT v58 L2, blkA g1 #[.int .i64 k.kind, .int .i64 k.p, .int .i64 k.q, .string k.str, .int .i64 k.ref] 26] ?_
        refine hp_ 0 [0, 0, 0, 2] (pB b 0) ?_
        refine hp_ 1 [0, 0, 0, 2] (pB b 0) ?_
        refine hp_ 2 [0, 0, 0, 2] (pB b 1) ?_
        refine h_l 3 rfl [0, 0, 0, 2] (fun _ => (t_load 1 (pB r47 0))) ?_
        refine hp_ 4 [0, 0, 0, 2] (pB b 0) ?_
        refine hp_ 5 [0, 0, 0, 2] (pB b 0) ?_
        refine hp_ 6 [0, 0, 0, 2] (pB b 0) ?_
        refine h_l 7 rfl [0, 0, 0, 2] (fun _ => (t_load 1 v58)) ?_
        refine h_l 8 rfl [0, 0, 0, 2] (fun _ => (t_len VlT_ok Tryz.underlying33 (.own 2))) ?_
        refine h_l 9 rfl [0, 0, 0, 2] (fun _ => (Lt.to (v' := .int .i64 ((X.length : Int) + 2)) (t_add (L2.length : Int) 1 (by omega)) (congrArg (Value.int .i64) (by omega)))) ?_
        refine h_stepS 10 ?_
        refine s_vcall (fun _ h => rkey_s ((X.length : Int) + 2)) ?_
        rintro _ rfl
        refine s_nil (xs_held [0, 0, 0, 2] ?_)
        refine h_stepS 11 ?_
        refine s_call [3] (rmget_s (S := S) (by (try simp only [lnm]); omega) (ofI ((X.length : Int) + 2))) ?_
        rintro _ _ ⟨rfl, rfl⟩
        refine s_nil (xs_held [1, 1, 1, 2] ?_)
        refine h_stepS 12 ?_
        refine s_store 4 #[.int .i64 ((oget S (ofI ((X.length : Int) + 2))).kind), .int .i64 ((oget S (ofI ((X.length : Int) + 2))).p), .int .i64 ((oget S (ofI ((X.length : Int) + 2))).q), .string ((oget S (ofI ((X.length : Int) + 2))).str), .int .i64 ((oget S (ofI ((X.length : Int) + 2))).ref)] ?_
        refine s_nil (xs_held [1, 1, 1, 2] ?_)
        refine h_doneS ?_
        refine xs_block ?_
        exact xs_round (v58, L2, (oget S (ofI ((X.length : Int) + 2))), f - 1) (by show mu S _ _ < mu S _ _; rw [ll2]; exact mu_lt hinv0 hx0) (by show grow S (S.length + 2) L v = _ ∧ _; exact ⟨by rw [hg2, hL2], by rw [ll2]; have := mu_lt hinv0 (n := X.length) hx0; omega, by omega, by rw [ll2]; have := mu_lt hinv0 (n := X.length) hx0; omega⟩) (sub_of rfl ⟨⟨rfl, rfl⟩, ⟨⟨rfl, rfl⟩, ⟨⟨rfl, rfl⟩, trivial⟩⟩⟩) (fun _ h => h.re [2, 2, 0, 1, 1] [5])
       ·
        have p60 := Decidable.not_not.1 (of_decide_eq_false c55)
        have hx0 : x.kind = 0 := Decidable.not_not.1 (of_decide_eq_false c55)
        have hgr : grow S (S.length + 2) L v = X := by rw [hi54.1]; exact grow_stop S X hx0
        refine k_exit ?_
        refine xs_exit ?_
        refine xs_exit ?_
        refine xs_here ?_
        refine xs_then ?_
        refine k_sr ?_
        refine sp (pB b 0) ?_
        refine sp (.int .i64 (whole k)) ?_
        refine s_mem (fun _ h => rt_shut (h.re [0, 0, 0] [])) ?_
        refine s_call [0] (rtpurge_s (L := X) (S := S) (n := L.length) (by omega) (by omega) (by omega) (by omega)) ?_
        rintro _ _ ⟨rfl, rfl⟩
        refine s_nr ?_
        refine sp (.int .i64 0) ?_
        refine s_nt ?_
        refine k_ret ?_
        have hk := okKey_good c3 c8
        have hT : tset ⟨L, S⟩ k v = ⟨X, if staleB S L.length X.length then purge S X.length else S⟩ := by rw [tset_add (T := ⟨L, S⟩) hk c11 (by show _ = (L.length : Int) + 1; omega) (of_decide_eq_false c51), tadd_eq hgr]
        refine xs_fin [.int .i64 0] (rtA b X (if staleB S L.length X.length then purge S X.length else S) :: F) (SI.tmp 6 SI.nil) (fun _ h => h.re [0] [1, 1]) ⟨congrArg (Value.int .i64) (tsetE_ok hk c11).symm, ?_⟩
        rw [hT]
end Go.Proofs.YtplkkhpokodbmaaGreatDoor
end
section
set_option linter.unusedSimpArgs false
set_option linter.unusedVariables false
namespace Go.Proofs.YtplkkhpokodbmaaGreatDoor
structure Hob where
  kind : Int
  tag : Int
  name : ByteArray
  tab : Tb
  mt : Vl
  vals : List Vl
  deriving DecidableEq
structure Hst where
  objs : List (Option Hob)
  tch : List Bool
  deriving DecidableEq
def noTb : Tb := ⟨[], []⟩
def hp0 : Hst := ⟨[], []⟩
def refV (kind id : Int) : Vl := ⟨kind, 0, 0, ByteArray.empty, id⟩
def strV (s : ByteArray) : Vl := ⟨3, 0, 0, s, 0⟩
def Hst.get (st : Hst) (id : Int) : Option Hob := if 1 ≤ id then (st.objs[id.toNat - 1]?).bind (fun x => x) else none
def Hst.put (st : Hst) (id : Int) (o : Hob) : Hst := { st with objs := st.objs.set (id.toNat - 1) (some o) }
def Hst.touch (st : Hst) (id : Int) : Hst := { st with tch := st.tch.set (id.toNat - 1) true }
def Hst.count (st : Hst) : Nat := st.objs.countP Option.isSome
def isRef (k : Int) : Bool := decide (k = 4) || (decide (k = 5) || (decide (k = 7) || decide (k = 8)))
def hfind (st : Hst) (v : Vl) : Option Hob := (st.get v.ref).bind fun o => if o.kind = v.kind then some o else none
/-- The value denotes a table. -/
def htab (st : Hst) (v : Vl) : Option Tb := (hfind st v).bind fun o => if o.kind = 4 then some o.tab else none
def newO (kind tag : Int) (name : ByteArray) (vals : List Vl) : Hob := ⟨kind, tag, name, noTb, zVl, vals⟩
def hmakeV (st : Hst) (kind : Int) : Vl := if 65536 ≤ st.count then zVl else refV kind ((st.objs.length : Int) + 1)
def hmakeE (st : Hst) : Int := if 65536 ≤ st.count then 17 else 0
def hmake (st : Hst) (o : Hob) : Hst := if 65536 ≤ st.count then st else ⟨st.objs ++ [some o], st.tch ++ [true]⟩
def elemE (v : Vl) : Int := if v.kind = 3 ∧ 4096 < (v.str.size : Int) then 14 else if validB v = false then 2 else 0
def hgetV (st : Hst) (t k : Vl) : Vl := match htab st t with
  | some T => tget T k
  | none => zVl
def hgetE (st : Hst) (t : Vl) : Int := if (htab st t).isSome then 0 else 8
def hsetE (st : Hst) (t k v : Vl) : Int := match htab st t with
  | none => 8
  | some T => if okKey k = false then 13 else elemE v
def Hst.setTab (st : Hst) (id : Int) (T : Tb) : Hst := match st.get id with
  | some o => st.put id { o with tab := T }
  | none => st
def hset (st : Hst) (t k v : Vl) : Hst := match htab st t with
  | none => st
  | some T => if okKey k = false then st else if elemE v ≠ 0 then st else (st.setTab t.ref (tset T k v)).touch t.ref
def hmeta (st : Hst) (v : Vl) : Vl := match hfind st v with
  | some o => o.mt
  | none => zVl
def hmetaOk (st : Hst) (v m : Vl) : Bool := match hfind st v with
  | some o => (decide (o.kind = 4) || decide (o.kind = 8)) && (decide (m = zVl) || (htab st m).isSome)
  | none => false
def hsetMetaE (st : Hst) (v m : Vl) : Int := if hmetaOk st v m = true then 0 else 8
def Hst.setMt (st : Hst) (id : Int) (m : Vl) : Hst := match st.get id with
  | some o => st.put id { o with mt := m }
  | none => st
def hsetMeta (st : Hst) (v m : Vl) : Hst := if hmetaOk st v m = true then (st.setMt v.ref m).touch v.ref else st
/-- An object as the calls leave it. -/
structure ObInv (o : Hob) : Prop where
  kind : isRef o.kind = true
  tab : TInv o.tab
  mt : o.kind ≠ 4 → o.kind ≠ 8 → o.mt = zVl
structure HInv (st : Hst) : Prop where
  obs : ∀ o, some o ∈ st.objs → ObInv o
  tch : st.tch.length = st.objs.length
/-- How large a heap is after n calls. -/
structure HSm (n : Nat) (st : Hst) : Prop where
  len : st.objs.length ≤ n
  obs : ∀ o, some o ∈ st.objs → o.tab.rest.length ≤ n ∧ o.tab.list.length ≤ n * (n + 1) ∧ o.vals.length ≤ n + 20
theorem HInv.nil : HInv hp0 := ⟨fun _ h => (by cases h), rfl⟩
theorem HSm.nil : HSm 0 hp0 := ⟨Nat.le_refl _, fun _ h => (by cases h)⟩
theorem HSm.mono {n m : Nat} {st : Hst} (h : HSm n st) (hnm : n ≤ m) : HSm m st := ⟨Nat.le_trans h.len hnm, fun o ho => by
  obtain ⟨a, b, c⟩ := h.obs o ho
  have : n * (n + 1) ≤ m * (m + 1) := Nat.mul_le_mul hnm (by omega)
  exact ⟨by omega, by omega, by omega⟩⟩
theorem get_mem {st : Hst} {id : Int} {o : Hob} (h : st.get id = some o) : some o ∈ st.objs ∧ 1 ≤ id ∧ id ≤ st.objs.length ∧ st.objs[id.toNat - 1]? = some (some o) := by
  unfold Hst.get at h
  split at h
  · rename_i h1
    cases hx : st.objs[id.toNat - 1]? with
    | none => rw [hx] at h; cases h
    | some x =>
      rw [hx] at h
      simp at h
      subst h
      have := (List.getElem?_eq_some_iff.1 hx).1
      exact ⟨List.mem_of_getElem? hx, h1, by omega, rfl⟩
  · cases h
theorem hfind_some {st : Hst} {v : Vl} {o : Hob} (h : hfind st v = some o) : st.get v.ref = some o ∧ o.kind = v.kind := by
  unfold hfind at h
  cases hg : st.get v.ref with
  | none => rw [hg] at h; cases h
  | some x =>
    rw [hg] at h
    simp only [Option.bind_some] at h
    split at h
    · injection h with e; subst e; exact ⟨rfl, by assumption⟩
    · cases h
theorem hfind_is {st : Hst} {v : Vl} {o : Hob} (h : st.get v.ref = some o) (hk : o.kind = v.kind) : hfind st v = some o := by unfold hfind; rw [h]; simp [hk]
theorem hfind_kind {st : Hst} {v : Vl} {o : Hob} (h : st.get v.ref = some o) (hk : o.kind ≠ v.kind) : hfind st v = none := by unfold hfind; rw [h]; simp [hk]
theorem hfind_none {st : Hst} {v : Vl} (h : st.get v.ref = none) : hfind st v = none := by unfold hfind; rw [h]; rfl
theorem htab_some {st : Hst} {v : Vl} {T : Tb} (h : htab st v = some T) : ∃ o, hfind st v = some o ∧ st.get v.ref = some o ∧ o.kind = 4 ∧ v.kind = 4 ∧ o.tab = T := by
  unfold htab at h
  cases hf : hfind st v with
  | none => rw [hf] at h; cases h
  | some o =>
    rw [hf] at h
    simp only [Option.bind_some] at h
    split at h
    · rename_i h4
      obtain ⟨a, b⟩ := hfind_some hf
      injection h with e
      exact ⟨o, rfl, a, h4, by omega, e⟩
    · cases h
theorem htab_is {st : Hst} {v : Vl} {o : Hob} (h : hfind st v = some o) (h4 : o.kind = 4) : htab st v = some o.tab := by unfold htab; rw [h]; simp [h4]
theorem htab_not {st : Hst} {v : Vl} {o : Hob} (h : hfind st v = some o) (h4 : o.kind ≠ 4) : htab st v = none := by unfold htab; rw [h]; simp [h4]
theorem htab_none {st : Hst} {v : Vl} (h : hfind st v = none) : htab st v = none := by unfold htab; rw [h]; rfl
theorem get_put {st : Hst} {id : Int} {o o' : Hob} (h : st.get id = some o) (id' : Int) : (st.put id o').get id' = if id' = id then some o' else st.get id' := by
  obtain ⟨_, h1, h2, h3⟩ := get_mem h
  unfold Hst.get Hst.put
  by_cases e : id' = id
  · subst e
    rw [if_pos h1, if_pos rfl, List.getElem?_set_self (by omega)]; rfl
  · rw [if_neg e]
    by_cases hp : 1 ≤ id'
    · rw [if_pos hp, if_pos hp, List.getElem?_set_ne (by omega)]
    · rw [if_neg hp, if_neg hp]
theorem mem_put {st : Hst} {id : Int} {o x : Hob} (h : some x ∈ (st.put id o).objs) : some x ∈ st.objs ∨ x = o := by
  rcases List.mem_or_eq_of_mem_set h with h | h
  · exact .inl h
  · exact .inr (Option.some.inj h)
theorem put_inv {st : Hst} (h : HInv st) {id : Int} {o : Hob} (ho : ObInv o) : HInv (st.put id o) := by
  refine ⟨fun x hx => ?_, ?_⟩
  · rcases mem_put hx with hx | rfl
    · exact h.obs x hx
    · exact ho
  · unfold Hst.put; simp only [List.length_set]; exact h.tch
theorem touch_inv {st : Hst} (h : HInv st) (id : Int) : HInv (st.touch id) := by
  refine ⟨h.obs, ?_⟩
  unfold Hst.touch; simp only [List.length_set]; exact h.tch
theorem hset_cases (st : Hst) (t k v : Vl) : (htab st t = none ∧ hset st t k v = st ∧ hsetE st t k v = 8) ∨ (∃ T, htab st t = some T ∧ okKey k = false ∧ hset st t k v = st ∧ hsetE st t k v = 13) ∨ (∃ T, htab st t = some T ∧ okKey k = true ∧ elemE v ≠ 0 ∧ hset st t k v = st ∧ hsetE st t k v = elemE v) ∨
    ∃ T o, htab st t = some T ∧ okKey k = true ∧ elemE v = 0 ∧ validB v = true ∧ st.get t.ref = some o ∧ o.kind = 4 ∧ t.kind = 4 ∧ o.tab = T ∧ hset st t k v = (st.put t.ref { o with tab := tset T k v }).touch t.ref ∧ hsetE st t k v = 0 := by
  unfold hset hsetE
  cases hT : htab st t with
  | none => exact .inl ⟨rfl, rfl, rfl⟩
  | some T =>
    simp only
    cases hk : okKey k with
    | false => exact .inr (.inl ⟨T, rfl, rfl, by simp, by simp⟩)
    | true =>
      by_cases he : elemE v = 0
      · obtain ⟨o, h1, h2, h3, h4, h5⟩ := htab_some hT
        refine .inr (.inr (.inr ⟨T, o, rfl, rfl, he, ?_, h2, h3, h4, h5, ?_, ?_⟩))
        · unfold elemE at he
          split at he
          · cases he
          · split at he
            · cases he
            · rename_i hv; simpa using hv
        · unfold Hst.setTab; rw [h2]; simp [he]
        · simp [he]
      · exact .inr (.inr (.inl ⟨T, rfl, rfl, he, by simp [he], by simp⟩))
theorem hset_inv {st : Hst} (h : HInv st) (t k v : Vl) : HInv (hset st t k v) := by
  rcases hset_cases st t k v with ⟨_, e, _⟩ | ⟨_, _, _, e, _⟩ | ⟨_, _, _, _, e, _⟩ | ⟨T, o, h1, h2, h3, hv, h4, h5, h6, h7, e, _⟩
  · rw [e]; exact h
  · rw [e]; exact h
  · rw [e]; exact h
  · rw [e]
    have ho := h.obs o (get_mem h4).1
    refine touch_inv (put_inv h (o := { o with tab := tset T k v }) ⟨ho.kind, ?_, ho.mt⟩) _
    rw [← h7]; exact tset_inv ho.tab k v
theorem hset_sm {n : Nat} {st : Hst} (hi : HInv st) (h : HSm n st) (t k v : Vl) : HSm (n + 1) (hset st t k v) := by
  rcases hset_cases st t k v with ⟨_, e, _⟩ | ⟨_, _, _, e, _⟩ | ⟨_, _, _, _, e, _⟩ | ⟨T, o, h1, h2, h3, hv, h4, h5, h6, h7, e, _⟩
  · rw [e]; exact h.mono (by omega)
  · rw [e]; exact h.mono (by omega)
  · rw [e]; exact h.mono (by omega)
  · rw [e]
    have hm := h.mono (Nat.le_succ n)
    have ho := h.obs o (get_mem h4).1
    have hl := tset_len (hi.obs o (get_mem h4).1).tab k v
    refine ⟨by show (st.objs.set _ _).length ≤ _; rw [List.length_set]; exact hm.len, fun x hx => ?_⟩
    rcases mem_put hx with hx | rfl
    · exact hm.obs x hx
    · have : (n + 1) * (n + 1 + 1) = n * (n + 1) + 2 * (n + 1) := by simp only [Nat.add_mul, Nat.mul_add]; omega
      rw [← h7]
      exact ⟨by show (tset o.tab k v).rest.length ≤ _; omega, by show (tset o.tab k v).list.length ≤ _; omega, by show o.vals.length ≤ _; omega⟩
theorem hmake_inv {st : Hst} (h : HInv st) {o : Hob} (ho : ObInv o) : HInv (hmake st o) := by
  unfold hmake
  split
  · exact h
  · refine ⟨fun x hx => ?_, by simp [h.tch]⟩
    rcases List.mem_append.1 hx with hx | hx
    · exact h.obs x hx
    · rw [List.mem_singleton] at hx; injection hx with hx; rw [hx]; exact ho
theorem hmake_sm {n : Nat} {st : Hst} (h : HSm n st) {o : Hob} (h1 : o.tab = noTb) (h2 : o.vals.length ≤ 20) : HSm (n + 1) (hmake st o) := by
  have hm := h.mono (Nat.le_succ n)
  unfold hmake
  split
  · exact hm
  · refine ⟨by simp; exact h.len, fun x hx => ?_⟩
    rcases List.mem_append.1 hx with hx | hx
    · exact hm.obs x hx
    · rw [List.mem_singleton] at hx; injection hx with hx; rw [hx, h1]
      exact ⟨Nat.zero_le _, Nat.zero_le _, by omega⟩
theorem newO_inv {kind : Int} (tag : Int) (name : ByteArray) (vals : List Vl) (hk : isRef kind = true) : ObInv (newO kind tag name vals) := ⟨hk, TInv.nil, fun _ _ => rfl⟩
theorem hsetMeta_cases (st : Hst) (v m : Vl) : (hsetMeta st v m = st ∧ hsetMetaE st v m = 8 ∧ hmetaOk st v m = false) ∨ ∃ o, st.get v.ref = some o ∧ o.kind = v.kind ∧ (o.kind = 4 ∨ o.kind = 8) ∧ hsetMeta st v m = (st.put v.ref { o with mt := m }).touch v.ref ∧ hsetMetaE st v m = 0 ∧ hmetaOk st v m = true := by
  unfold hsetMeta hsetMetaE
  cases hb : hmetaOk st v m with
  | false => exact .inl ⟨rfl, rfl, rfl⟩
  | true =>
    unfold hmetaOk at hb
    cases hf : hfind st v with
    | none => rw [hf] at hb; cases hb
    | some o =>
      rw [hf] at hb
      obtain ⟨h1, h2⟩ := hfind_some hf
      simp only [Bool.and_eq_true, Bool.or_eq_true, decide_eq_true_eq] at hb
      refine .inr ⟨o, h1, h2, hb.1, ?_, rfl, rfl⟩
      unfold Hst.setMt; rw [h1]; rfl
theorem hsetMeta_inv {st : Hst} (h : HInv st) (v m : Vl) : HInv (hsetMeta st v m) := by
  rcases hsetMeta_cases st v m with ⟨e, _⟩ | ⟨o, h1, _, h2, e, _⟩
  · rw [e]; exact h
  · rw [e]
    have ho := h.obs o (get_mem h1).1
    exact touch_inv (put_inv h (o := { o with mt := m }) ⟨ho.kind, ho.tab, fun a b => by rcases h2 with h | h <;> contradiction⟩) _
theorem hsetMeta_sm {n : Nat} {st : Hst} (h : HSm n st) (v m : Vl) : HSm (n + 1) (hsetMeta st v m) := by
  rcases hsetMeta_cases st v m with ⟨e, _⟩ | ⟨o, h1, _, h2, e, _⟩
  · rw [e]; exact h.mono (by omega)
  · rw [e]
    have hm := h.mono (Nat.le_succ n)
    refine ⟨by show (st.objs.set _ _).length ≤ _; rw [List.length_set]; exact hm.len, fun x hx => ?_⟩
    rcases mem_put hx with hx | rfl
    · exact hm.obs x hx
    · exact hm.obs o (get_mem h1).1
/-! ### Objects beside a map of their places -/
def ob0 : Hob := ⟨0, 0, ByteArray.empty, noTb, zVl, []⟩
def Hst.ob (st : Hst) (id : Int) : Hob := (st.get id).getD ob0
theorem ob_get {st : Hst} {id : Int} {o : Hob} (h : st.get id = some o) : st.ob id = o := by unfold Hst.ob; rw [h]; rfl
theorem get_end (st : Hst) : st.get ((st.objs.length : Int) + 1) = none := by
  unfold Hst.get
  rw [if_pos (by omega), show ((st.objs.length : Int) + 1).toNat - 1 = st.objs.length by omega, List.getElem?_eq_none (Nat.le_refl _)]; rfl
theorem get_snoc (st : Hst) (o : Hob) (tch : List Bool) (id : Int) : Hst.get ⟨st.objs ++ [some o], tch⟩ id = if id = (st.objs.length : Int) + 1 then some o else st.get id := by
  unfold Hst.get
  by_cases h : id = (st.objs.length : Int) + 1
  · subst h
    rw [if_pos rfl, if_pos (by omega)]
    show ((st.objs ++ [some o])[_]?).bind _ = _
    rw [show ((st.objs.length : Int) + 1).toNat - 1 = st.objs.length by omega, List.getElem?_append_right (Nat.le_refl _)]; simp
  · rw [if_neg h]
    by_cases hp : 1 ≤ id
    · rw [if_pos hp, if_pos hp]
      show ((st.objs ++ [some o])[_]?).bind _ = _
      by_cases hl : id.toNat - 1 < st.objs.length
      · rw [List.getElem?_append_left hl]
      · rw [List.getElem?_eq_none (by simp; omega), List.getElem?_eq_none (by omega)]
    · rw [if_neg hp, if_neg hp]
theorem count_snoc (st : Hst) (o : Hob) (tch : List Bool) : Hst.count ⟨st.objs ++ [some o], tch⟩ = st.count + 1 := by unfold Hst.count; simp
theorem countP_set {α : Type} {p : α → Bool} : ∀ (l : List α) {i : Nat} {x y : α}, l[i]? = some x → p x = p y → (l.set i y).countP p = l.countP p
  | [], _, _, _, h, _ => by cases h
  | a :: r, 0, x, y, h, e => by
    simp only [List.getElem?_cons_zero, Option.some.injEq] at h
    subst h; simp [List.countP_cons, e]
  | a :: r, i + 1, x, y, h, e => by
    simp only [List.getElem?_cons_succ] at h
    simp [List.countP_cons, countP_set r h e]
theorem count_put {st : Hst} {id : Int} {o o' : Hob} (h : st.get id = some o) : (st.put id o').count = st.count := by
  obtain ⟨_, h1, h2, h3⟩ := get_mem h
  exact countP_set _ h3 rfl
end Go.Proofs.YtplkkhpokodbmaaGreatDoor
end
section
set_option linter.unusedSimpArgs false
set_option linter.unusedVariables false
namespace Go.Proofs.YtplkkhpokodbmaaGreatDoor
open Go.S Go.J Go.Hp
open Go.Mem (aget aset adel apos aget_aset aget_adel)
/-- The map of objects: where each lies (its block, the block of its table). -/
structure HA (ps : List (Int × (Nat × Nat))) (st : Hst) : Prop where
  has : ∀ id, (aget ps id).isSome = (st.get id).isSome
  len : ps.length = st.count
def TA (tm : List (Int × Bool)) (st : Hst) : Prop := ∀ id o, st.get id = some o → (aget tm id).isSome = (st.tch[id.toNat - 1]?).getD false
abbrev ptrV (g : Nat) : Value := .pointer (some ⟨g, 0, none⟩)
def fndV (ps : List (Int × (Nat × Nat))) (st : Hst) (v : Vl) : Value := match hfind st v, aget ps v.ref with
  | some _, some q => ptrV q.1
  | _, _ => .pointer none
def tabV (q : Nat × Nat) (o : Hob) : Value := if o.kind = 4 then ptrV q.2 else .pointer none
def tbV (ps : List (Int × (Nat × Nat))) (st : Hst) (v : Vl) : Value := match hfind st v, aget ps v.ref with
  | some o, some q => tabV q o
  | _, _ => .pointer none
theorem get_cases {ps : List (Int × (Nat × Nat))} {st : Hst} (h : HA ps st) (id : Int) : (st.get id = none ∧ aget ps id = none) ∨ ∃ o q, st.get id = some o ∧ aget ps id = some q := by
  have := h.has id
  cases h1 : st.get id with
  | none => rw [h1] at this; exact .inl ⟨rfl, by cases h2 : aget ps id with | none => rfl | some q => rw [h2] at this; cases this⟩
  | some o => rw [h1] at this; exact .inr (by cases h2 : aget ps id with | none => rw [h2] at this; cases this | some q => exact ⟨o, q, rfl, rfl⟩)
theorem fnd_cases {ps : List (Int × (Nat × Nat))} {st : Hst} (h : HA ps st) (v : Vl) : (hfind st v = none ∧ htab st v = none ∧ fndV ps st v = .pointer none ∧ tbV ps st v = .pointer none) ∨ ∃ o q, hfind st v = some o ∧ st.get v.ref = some o ∧ o.kind = v.kind ∧ aget ps v.ref = some q ∧ fndV ps st v = ptrV q.1 ∧ tbV ps st v = tabV q o := by
  cases hf : hfind st v with
  | none => exact .inl ⟨rfl, htab_none hf, by unfold fndV; rw [hf], by unfold tbV; rw [hf]⟩
  | some o =>
    obtain ⟨h1, h2⟩ := hfind_some hf
    rcases get_cases h v.ref with ⟨h3, _⟩ | ⟨o', q, h3, h4⟩
    · rw [h1] at h3; cases h3
    · exact .inr ⟨o, q, rfl, h1, h2, h4, by unfold fndV; rw [hf, h4], by unfold tbV; rw [hf, h4]⟩
theorem tb_cases {ps : List (Int × (Nat × Nat))} {st : Hst} (h : HA ps st) (v : Vl) : (htab st v = none ∧ tbV ps st v = .pointer none) ∨ ∃ o q, htab st v = some o.tab ∧ st.get v.ref = some o ∧ o.kind = 4 ∧ v.kind = 4 ∧ aget ps v.ref = some q ∧ tbV ps st v = ptrV q.2 := by
  rcases fnd_cases h v with ⟨h1, h2, h3, h4⟩ | ⟨o, q, h1, h2, h3, h4, h5, h6⟩
  · exact .inl ⟨h2, h4⟩
  · by_cases hk : o.kind = 4
    · exact .inr ⟨o, q, htab_is h1 hk, h2, hk, by omega, h4, by rw [h6]; unfold tabV; rw [if_pos hk]⟩
    · exact .inl ⟨htab_not h1 hk, by rw [h6]; unfold tabV; rw [if_neg hk]⟩
theorem HA.nil : HA [] hp0 := ⟨fun id => by unfold Hst.get hp0; by_cases h : 1 ≤ id <;> simp [h, aget], rfl⟩
theorem TA.nil : TA [] hp0 := fun id o h => by
  have := (get_mem h).1
  cases this
theorem HA.put {ps : List (Int × (Nat × Nat))} {st : Hst} (h : HA ps st) {id : Int} {o o' : Hob} (hg : st.get id = some o) : HA ps (st.put id o') := by
  refine ⟨fun id' => ?_, by rw [h.len, count_put hg]⟩
  rw [h.has, get_put hg]
  by_cases e : id' = id
  · subst e; rw [hg, if_pos rfl]; rfl
  · rw [if_neg e]
theorem HA.touch {ps : List (Int × (Nat × Nat))} {st : Hst} (h : HA ps st) (id : Int) : HA ps (st.touch id) := ⟨h.has, h.len⟩
theorem TA.put {tm : List (Int × Bool)} {st : Hst} (h : TA tm st) {id : Int} {o o' : Hob} (hg : st.get id = some o) : TA tm (st.put id o') := fun id' x hx => by
  rw [get_put hg] at hx
  show _ = (st.tch[_]?).getD false
  by_cases e : id' = id
  · subst e; exact h id' o hg
  · rw [if_neg e] at hx; exact h id' x hx
theorem TA.touch {tm : List (Int × Bool)} {st : Hst} (h : TA tm st) (hi : HInv st) {id : Int} {o : Hob} (hg : st.get id = some o) : TA (aset tm id true) (st.touch id) := fun id' x hx => by
  obtain ⟨_, h1, h2, _⟩ := get_mem hg
  obtain ⟨_, h3, h4, _⟩ := get_mem (show st.get id' = some x from hx)
  have ht := hi.tch
  show _ = ((st.tch.set _ true)[_]?).getD false
  rw [aget_aset]
  by_cases e : id' = id
  · subst e; rw [if_pos rfl, List.getElem?_set_self (by omega)]; rfl
  · rw [if_neg e, List.getElem?_set_ne (by omega)]; exact h id' x hx
theorem HA.make {ps : List (Int × (Nat × Nat))} {st : Hst} (h : HA ps st) (o : Hob) (q : Nat × Nat) (hf : st.count < 65536) : HA (aset ps ((st.objs.length : Int) + 1) q) (hmake st o) := by
  unfold hmake
  rw [if_neg (by omega)]
  have hnone : aget ps ((st.objs.length : Int) + 1) = none := by
    have := h.has ((st.objs.length : Int) + 1)
    rw [get_end] at this
    cases hx : aget ps ((st.objs.length : Int) + 1) with
    | none => rfl
    | some q => rw [hx] at this; cases this
  refine ⟨fun id => ?_, ?_⟩
  · rw [aget_aset, get_snoc]
    by_cases e : id = (st.objs.length : Int) + 1
    · rw [if_pos e, if_pos e]; rfl
    · rw [if_neg e, if_neg e]; exact h.has id
  · rw [count_snoc, ← h.len]
    have : apos ps ((st.objs.length : Int) + 1) = none := by
      cases hp : apos ps ((st.objs.length : Int) + 1) with
      | none => rfl
      | some i => obtain ⟨_, y, _, h2⟩ := Go.Mem.apos_lt hp; rw [hnone] at h2; cases h2
    rw [Go.Mem.aset_new this]; simp
theorem TA.make {tm : List (Int × Bool)} {st : Hst} (h : TA tm st) (hi : HInv st) (o : Hob) (hf : st.count < 65536) : TA (aset tm ((st.objs.length : Int) + 1) true) (hmake st o) := fun id x hx => by
  unfold hmake at hx ⊢
  rw [if_neg (by omega)] at hx ⊢
  rw [get_snoc] at hx
  have ht := hi.tch
  show _ = ((st.tch ++ [true])[_]?).getD false
  rw [aget_aset]
  by_cases e : id = (st.objs.length : Int) + 1
  · rw [if_pos e, e, show ((st.objs.length : Int) + 1).toNat - 1 = st.objs.length by omega, List.getElem?_append_right (by omega)]; simp [ht]
  · rw [if_neg e] at hx ⊢
    obtain ⟨_, h1, h2, _⟩ := get_mem hx
    rw [List.getElem?_append_left (by omega)]; exact h id x hx
end Go.Proofs.YtplkkhpokodbmaaGreatDoor
end
section
set_option linter.unusedSimpArgs false
set_option linter.unusedVariables false
set_option maxRecDepth 100000
set_option maxHeartbeats 2000000
namespace Go.Proofs.YtplkkhpokodbmaaGreatDoor
open Go.Hp Go.J Go.S
open Go.Mem (Ty KTy blk elemAt pre suf blk_pre blk_suf aget aset strK aggDesc)
open Go.Mem (adel apos aget_aset aget_adel)
abbrev oV (q : Nat × Nat) : Value := ptrV q.1
abbrev bV (b : Bool) : Value := .bool b
abbrev iK : KTy Int := Go.Mem.intK 3
/-- The table of an object, if it is one. -/
def tabO (q : Nat × Nat) (o : Hob) : Asr := star (if o.kind = 4 then [tbA q.2 o.tab.list o.tab.rest] else [])
/-- An object in memory. -/
def obP (q : Nat × Nat) (o : Hob) : Asr := exA fun v => stA True [blkA q.1 #[.int .i64 o.kind, .int .i64 o.tag, .string o.name, tabV q o, .int .i64 o.mt.kind, .int .i64 o.mt.p, .int .i64 o.mt.q, .string o.mt.str, .int .i64 o.mt.ref, v] 96, own VlT v o.vals, tabO q o]
def allP (ps : List (Int × (Nat × Nat))) (st : Hst) : Asr := star (ps.map fun p => obP p.2 (st.ob p.1))
def holeP (ps : List (Int × (Nat × Nat))) (st : Hst) (id : Int) : Asr := star ((adel ps id).map fun p => obP p.2 (st.ob p.1))
/-- A heap in memory, with the places of its objects. -/
def hpP (b : Nat) (st : Hst) (ps : List (Int × (Nat × Nat))) : Asr := exA fun mb => exA fun tb => exA fun tm => stA (HInv st ∧ HA ps st ∧ TA tm st) [blkA b #[.map (some mb), .int .i64 (st.objs.length : Int), .map (some tb)] 90, mpA iK oV mb ps, mpA iK bV tb tm, allP ps st]
def hpA (b : Nat) (st : Hst) : Asr := exA fun ps => hpP b st ps
section
variable {Z : Zone} {F : List Asr} {H : Heap} {b : Nat} {st : Hst} {ps : List (Int × (Nat × Nat))} {id : Int} {q : Nat × Nat} {o o' : Hob}
theorem ob_open (h : Holds Z (obP q o :: F) H) : ∃ v, True ∧ Holds Z (blkA q.1 #[.int .i64 o.kind, .int .i64 o.tag, .string o.name, tabV q o, .int .i64 o.mt.kind, .int .i64 o.mt.p, .int .i64 o.mt.q, .string o.mt.str, .int .i64 o.mt.ref, v] 96 :: own VlT v o.vals :: tabO q o :: F) H := by
  obtain ⟨v, h⟩ := h.open_ex
  exact ⟨v, h.open_st⟩
theorem ob_shut {v : Value} (h : Holds Z (blkA q.1 #[.int .i64 o.kind, .int .i64 o.tag, .string o.name, tabV q o, .int .i64 o.mt.kind, .int .i64 o.mt.p, .int .i64 o.mt.q, .string o.mt.str, .int .i64 o.mt.ref, v] 96 :: own VlT v o.vals :: tabO q o :: F) H) : Holds Z (obP q o :: F) H := Holds.shut_ex v (Holds.shut_st trivial h)
theorem tabO_open (h4 : o.kind = 4) (h : Holds Z (tabO q o :: F) H) : Holds Z (tbA q.2 o.tab.list o.tab.rest :: F) H := by
  unfold tabO at h
  rw [if_pos h4] at h
  exact h.star_out
theorem tabO_shut {T : Tb} (h4 : o.kind = 4) (h : Holds Z (tbA q.2 T.list T.rest :: F) H) : Holds Z (tabO q { o with tab := T } :: F) H := by
  unfold tabO
  rw [if_pos h4]
  exact Holds.star_in (L := [_]) h
theorem tabO_none (h4 : o.kind ≠ 4) (h : Holds Z F H) : Holds Z (tabO q o :: F) H := by
  unfold tabO
  rw [if_neg h4]
  exact h.star_nil
theorem all_focus (hq : aget ps id = some q) (ho : st.get id = some o) (h : Holds Z (allP ps st :: F) H) : ∃ v, True ∧ Holds Z (blkA q.1 #[.int .i64 o.kind, .int .i64 o.tag, .string o.name, tabV q o, .int .i64 o.mt.kind, .int .i64 o.mt.p, .int .i64 o.mt.q, .string o.mt.str, .int .i64 o.mt.ref, v] 96 :: own VlT v o.vals :: tabO q o :: holeP ps st id :: F) H := by
  obtain ⟨i, hp⟩ : ∃ i, apos ps id = some i := by
    cases hp : apos ps id with
    | none => rw [Go.Mem.apos_none hp] at hq; cases hq
    | some i => exact ⟨i, rfl⟩
  obtain ⟨hi, y, hy, hq'⟩ := Go.Mem.apos_lt hp
  rw [hq] at hq'; cases hq'
  have h1 : Holds Z (obP q (st.ob id) :: star ((ps.eraseIdx i).map fun p => obP p.2 (st.ob p.1)) :: F) H := h.star_get hy
  unfold holeP
  rw [Go.Mem.adel_pos hp]
  rw [ob_get ho] at h1
  exact ob_open h1
theorem put_same (ho : st.get id = some o) : st.put id o = st := by
  obtain ⟨_, h1, h2, h3⟩ := get_mem ho
  unfold Hst.put
  rw [set_same h3]
theorem all_unfocus (hnd : (ps.map Prod.fst).Nodup) (hq : aget ps id = some q) (ho : st.get id = some o) (h : Holds Z (obP q o' :: holeP ps st id :: F) H) : Holds Z (allP ps (st.put id o') :: F) H := by
  obtain ⟨i, hp⟩ : ∃ i, apos ps id = some i := by
    cases hp : apos ps id with
    | none => rw [Go.Mem.apos_none hp] at hq; cases hq
    | some i => exact ⟨i, rfl⟩
  obtain ⟨hi, y, hy, hq'⟩ := Go.Mem.apos_lt hp
  rw [hq] at hq'; cases hq'
  unfold holeP at h
  rw [Go.Mem.adel_pos hp] at h
  refine Holds.star_set (f := fun p : Int × (Nat × Nat) => obP p.2 (st.ob p.1)) (g := fun p => obP p.2 ((st.put id o').ob p.1)) hy (fun j p hj hp' => ?_) ?_
  · show obP p.2 _ = obP p.2 _
    have hne : p.1 ≠ id := fun e => hj (by
      obtain ⟨hj1, e1⟩ := List.getElem?_eq_some_iff.1 hp'
      refine (List.getElem_inj (h₀ := by rw [List.length_map]; exact hj1) (h₁ := by rw [List.length_map]; exact hi) hnd).1 ?_
      simp only [List.getElem_map]
      rw [e1, (List.getElem?_eq_some_iff.1 hy).2]; exact e)
    unfold Hst.ob
    rw [get_put ho, if_neg hne]
  · have e : (st.put id o').ob id = o' := by unfold Hst.ob; rw [get_put ho, if_pos rfl]; rfl
    show Holds Z (obP q ((st.put id o').ob id) :: _ :: F) H
    rw [e]; exact h
theorem hp_open (h : Holds Z (hpP b st ps :: F) H) : ∃ (mb tb : Nat) (tm : List (Int × Bool)), (HInv st ∧ HA ps st ∧ TA tm st) ∧ Holds Z (blkA b #[.map (some mb), .int .i64 (st.objs.length : Int), .map (some tb)] 90 :: mpA iK oV mb ps :: mpA iK bV tb tm :: allP ps st :: F) H := by
  obtain ⟨mb, h⟩ := h.open_ex
  obtain ⟨tb, h⟩ := h.open_ex
  obtain ⟨tm, h⟩ := h.open_ex
  exact ⟨mb, tb, tm, h.open_st⟩
theorem hp_shut {mb tb : Nat} {tm : List (Int × Bool)} {n : Int} (hp : (HInv st ∧ HA ps st ∧ TA tm st) ∧ n = (st.objs.length : Int)) (h : Holds Z (blkA b #[.map (some mb), .int .i64 n, .map (some tb)] 90 :: mpA iK oV mb ps :: mpA iK bV tb tm :: allP ps st :: F) H) : Holds Z (hpP b st ps :: F) H := by
  obtain ⟨h1, rfl⟩ := hp
  exact Holds.shut_ex mb (Holds.shut_ex tb (Holds.shut_ex tm (Holds.shut_st h1 h)))
theorem hp_facts (h : Holds Z (hpP b st ps :: F) H) : HInv st ∧ HA ps st := by
  obtain ⟨_, _, _, h, _⟩ := hp_open h; exact ⟨h.1, h.2.1⟩
theorem hpA_open (h : Holds Z (hpA b st :: F) H) : ∃ ps, True ∧ Holds Z (hpP b st ps :: F) H := by
  obtain ⟨ps, h⟩ := h.open_ex; exact ⟨ps, trivial, h⟩
theorem hpA_shut (h : Holds Z (hpP b st ps :: F) H) : Holds Z (hpA b st :: F) H := Holds.shut_ex ps h
theorem hpA_inv (h : Holds Z (hpA b st :: F) H) : HInv st := by
  obtain ⟨ps, h⟩ := h.open_ex; exact (hp_facts h).1
theorem put_len : (st.put id o').objs.length = st.objs.length := by unfold Hst.put; simp
/-- A heap of which a table is taken out. -/
def tholeP (b : Nat) (st : Hst) (ps : List (Int × (Nat × Nat))) (id : Int) (q : Nat × Nat) (o : Hob) : Asr := exA fun mb => exA fun tb => exA fun tm => exA fun v => stA (HInv st ∧ HA ps st ∧ TA tm st) [blkA b #[.map (some mb), .int .i64 (st.objs.length : Int), .map (some tb)] 90, mpA iK oV mb ps, mpA iK bV tb tm, blkA q.1 #[.int .i64 o.kind, .int .i64 o.tag, .string o.name, tabV q o, .int .i64 o.mt.kind, .int .i64 o.mt.p, .int .i64 o.mt.q, .string o.mt.str, .int .i64 o.mt.ref, v] 96, own VlT v o.vals, holeP ps st id]
theorem tab_out (hq : aget ps id = some q) (ho : st.get id = some o) (h4 : o.kind = 4) (h : Holds Z (hpP b st ps :: F) H) : Holds Z (tbA q.2 o.tab.list o.tab.rest :: tholeP b st ps id q o :: F) H := by
  obtain ⟨mb, tb, tm, hf, h⟩ := hp_open h
  obtain ⟨v, _, h⟩ := all_focus hq ho (h.re [3] [] : Holds Z (allP ps st :: _ :: _ :: _ :: F) H)
  have h1 := tabO_open h4 (h.re [2] [] : Holds Z (tabO q o :: _ :: _ :: _ :: _ :: _ :: _ :: F) H)
  refine Holds.swap (Holds.shut_ex mb (Holds.shut_ex tb (Holds.shut_ex tm (Holds.shut_ex v (Holds.shut_st hf ?_)))))
  exact h1.re [4, 4, 4, 1, 1, 1] []
theorem tab_in {T : Tb} (hq : aget ps id = some q) (ho : st.get id = some o) (h4 : o.kind = 4) (hT : TInv T) (h : Holds Z (tbA q.2 T.list T.rest :: tholeP b st ps id q o :: F) H) : Holds Z (hpP b (st.put id { o with tab := T }) ps :: F) H := by
  obtain ⟨mb, h⟩ := h.swap.open_ex
  obtain ⟨tb, h⟩ := h.open_ex
  obtain ⟨tm, h⟩ := h.open_ex
  obtain ⟨v, h⟩ := h.open_ex
  obtain ⟨hf, h⟩ := h.open_st
  have hnd := (h.mp (i := 1) rfl).nodup
  have h1 := tabO_shut (o := o) h4 (h.re [6] [] : Holds Z (tbA q.2 T.list T.rest :: _ :: _ :: _ :: _ :: _ :: _ :: F) H)
  have e : tabV q { o with tab := T } = tabV q o := rfl
  have h2 : Holds Z (obP q { o with tab := T } :: holeP ps st id :: _ :: _ :: _ :: F) H := ob_shut (o := { o with tab := T }) (by rw [e]; exact h1.re [4, 4, 0, 3] [])
  have h3 := all_unfocus hnd hq ho h2
  have hi : ObInv o := hf.1.obs o (get_mem ho).1
  exact hp_shut ⟨⟨put_inv hf.1 ⟨hi.kind, hT, hi.mt⟩, hf.2.1.put ho, hf.2.2.put ho⟩, by rw [put_len]⟩ (h3.re [1, 1, 1, 0] [])
theorem tab_back (hq : aget ps id = some q) (ho : st.get id = some o) (h4 : o.kind = 4) (h : Holds Z (tbA q.2 o.tab.list o.tab.rest :: tholeP b st ps id q o :: F) H) : Holds Z (hpP b st ps :: F) H := by
  have hi : HInv st := by
    obtain ⟨_, h⟩ := h.swap.open_ex
    obtain ⟨_, h⟩ := h.open_ex
    obtain ⟨_, h⟩ := h.open_ex
    obtain ⟨_, h⟩ := h.open_ex
    exact h.open_st.1.1
  have := tab_in hq ho h4 (hi.obs o (get_mem ho).1).tab h
  rwa [show st.put id { o with tab := o.tab } = st from put_same ho] at this
end
theorem hfind_s {Z : Zone} {F : List Asr} {b : Nat} {st : Hst} {ps : List (Int × (Nat × Nat))} (v : Vl) : SF Tryz.prog 78 #[.pointer (some ⟨b, 0, none⟩), v.v] Z (hpP b st ps :: F) fun r Bs => r = fndV ps st v ∧ Bs = hpP b st ps :: F := by
 refine sf_enter Tryz.func78 27 [(0, pB b 0), (1, .agg #[.int .i64 v.kind, .int .i64 v.p, .int .i64 v.q, .string v.str, .int .i64 v.ref])] (fun w0 => ?_)
 refine k_mem3 (fun H h => hp_open (h.re [0] [])) (fun mb1 tb2 tm3 hw => ?_)
 obtain ⟨hi4, ha5, ht6⟩ := hw
 refine k_sr ?_
 refine s_box #[.int .i64 v.kind, .int .i64 v.p, .int .i64 v.q, .string v.str, .int .i64 v.ref] (fun g7 => ?_)
 refine sp (.pointer none) ?_
 refine s_nt ?_
 refine k_seq ?_
 refine k_sr ?_
 refine sp (pB b 0) ?_
 refine sp (.bool false) ?_
 refine s_nt ?_
 refine k_false ?_
 refine k_st ?_
 refine k_seq ?_
 refine k_draw ?_
 refine sp (pB b 0) ?_
 refine sp (pB b 0) ?_
 refine sp (pB b 0) ?_
 refine s_lt (t_load 1 (.map (some mb1))) ?_
 refine sp (pB g7 4) ?_
 refine s_lt (t_load 0 (.int .i64 v.ref)) ?_
 rcases get_cases ha5 v.ref with ⟨hg8, hq9⟩ | ⟨o10, q11, ho12, hq13⟩
 ·
  refine s_lt (Lt.to (v' := .pointer none) (t_lookup 2 intOk Tryz.underlying87 (.pointer none) v.ref) (by rw [hq9]; rfl)) ?_
  refine sp (.pointer none) ?_
  refine s_nil ?_
  refine x_dynS (fun _ h => by kernel_rfl) ?_
  refine xs_then ?_
  refine k_seq ?_
  refine k_seq ?_
  refine k_draw ?_
  refine sp (.pointer none) ?_
  refine sp (.bool true) ?_
  refine sp (.bool true) ?_
  refine s_skip ?_
  refine s_skip ?_
  refine s_skip ?_
  refine s_skip ?_
  refine s_skip ?_
  refine s_skip ?_
  refine s_skip ?_
  refine sp (.bool true) ?_
  refine s_nil ?_
  refine x_dynS (fun _ h => by kernel_rfl) ?_
  refine xs_then ?_
  refine k_true ?_
  refine k_sr ?_
  refine sp (.pointer none) ?_
  refine s_nt ?_
  refine k_ret ?_
  refine xs_ret ?_
  refine xs_mem (fun _ h => hp_shut (st := st) (n := (st.objs.length : Int)) ⟨⟨hi4, ha5, ht6⟩, rfl⟩ (h.re [1, 1, 1, 1] [])) ?_
  refine xs_fin [.pointer none] (hpP b st ps :: F) (SI.tmp 4 SI.nil) (fun _ h => h.re [0] [1]) ⟨?_, rfl⟩
  show Value.pointer none = fndV ps st v; unfold fndV; rw [hfind_none hg8]
 ·
  refine s_lt (Lt.to (v' := ptrV q11.1) (t_lookup 2 intOk Tryz.underlying87 (.pointer none) v.ref) (by rw [hq13]; rfl)) ?_
  refine sp (pB q11.1 0) ?_
  refine s_nil ?_
  refine x_dynS (fun _ h => by kernel_rfl) ?_
  refine xs_then ?_
  refine k_seq ?_
  refine k_seq ?_
  refine k_draw ?_
  refine sp (pB q11.1 0) ?_
  refine sp (.bool false) ?_
  refine sp (.bool false) ?_
  refine sp (pB q11.1 0) ?_
  refine sp (pB q11.1 0) ?_
  refine sp (pB q11.1 0) ?_
  refine s_memX (fun H h => all_focus hq13 ho12 (h.re [4] [])) (fun v14 _ => ?_)
  refine s_lt (t_load 0 (.int .i64 o10.kind)) ?_
  refine sp (pB g7 0) ?_
  refine s_lt (t_load 4 (.int .i64 v.kind)) ?_
  refine s_lt t_cmp ?_
  refine sp (.bool (decide (o10.kind ≠ v.kind))) ?_
  refine s_nil ?_
  refine x_dynS (fun _ h => by kernel_rfl) ?_
  refine xs_then ?_
  refine k_cond (decide (o10.kind ≠ v.kind)) (fun c15 => ?_) (fun c15 => ?_)
  ·
   have p16 := of_decide_eq_true c15
   refine k_sr ?_
   refine sp (.pointer none) ?_
   refine s_nt ?_
   refine k_ret ?_
   refine xs_ret ?_
   refine xs_fact (fun H h => (h.mp (i := 6) rfl).nodup) (fun hnd17 => ?_)
   refine xs_mem (fun _ h => (put_same ho12) ▸ all_unfocus (o' := o10) hnd17 hq13 ho12 (ob_shut (o := o10) (h.re [0, 0, 0, 0] []))) ?_
   refine xs_mem (Bs := allP ps st :: blkA g7 #[.int .i64 v.kind, .int .i64 v.p, .int .i64 v.q, .string v.str, .int .i64 v.ref] 26 :: blkA b #[.map (some mb1), .int .i64 (st.objs.length : Int), .map (some tb2)] 90 :: mpA iK oV mb1 ps :: mpA iK bV tb2 tm3 :: F) (fun _ h => h) ?_
   refine xs_mem (fun _ h => hp_shut (st := st) (n := (st.objs.length : Int)) ⟨⟨hi4, ha5, ht6⟩, rfl⟩ (h.re [2, 2, 2, 0] [])) ?_
   refine xs_fin [.pointer none] (hpP b st ps :: F) (SI.tmp 4 SI.nil) (fun _ h => h.re [0] [1]) ⟨?_, rfl⟩
   show Value.pointer none = fndV ps st v; unfold fndV; rw [hfind_kind ho12 (by omega)]
  ·
   have p18 := Decidable.not_not.1 (of_decide_eq_false c15)
   refine k_st ?_
   refine k_sr ?_
   refine sp (pB q11.1 0) ?_
   refine sp (pB q11.1 0) ?_
   refine s_nt ?_
   refine k_ret ?_
   refine xs_fact (fun H h => (h.mp (i := 6) rfl).nodup) (fun hnd19 => ?_)
   refine xs_mem (fun _ h => (put_same ho12) ▸ all_unfocus (o' := o10) hnd19 hq13 ho12 (ob_shut (o := o10) (h.re [0, 0, 0, 0] []))) ?_
   refine xs_mem (Bs := allP ps st :: blkA g7 #[.int .i64 v.kind, .int .i64 v.p, .int .i64 v.q, .string v.str, .int .i64 v.ref] 26 :: blkA b #[.map (some mb1), .int .i64 (st.objs.length : Int), .map (some tb2)] 90 :: mpA iK oV mb1 ps :: mpA iK bV tb2 tm3 :: F) (fun _ h => h) ?_
   refine xs_mem (fun _ h => hp_shut (st := st) (n := (st.objs.length : Int)) ⟨⟨hi4, ha5, ht6⟩, rfl⟩ (h.re [2, 2, 2, 0] [])) ?_
   refine xs_fin [pB q11.1 0] (hpP b st ps :: F) (SI.tmp 4 SI.nil) (fun _ h => h.re [0] [1]) ⟨?_, rfl⟩
   show ptrV _ = fndV ps st v; unfold fndV; rw [hfind_is ho12 (by omega), hq13]
theorem htab_s {Z : Zone} {F : List Asr} {b : Nat} {st : Hst} {ps : List (Int × (Nat × Nat))} (v : Vl) : SF Tryz.prog 72 #[.pointer (some ⟨b, 0, none⟩), v.v] Z (hpP b st ps :: F) fun r Bs => r = tbV ps st v ∧ Bs = hpP b st ps :: F := by
 refine sf_enter Tryz.func72 15 [(0, pB b 0), (1, .agg #[.int .i64 v.kind, .int .i64 v.p, .int .i64 v.q, .string v.str, .int .i64 v.ref])] (fun w0 => ?_)
 refine k_fact (fun H h => hp_facts (h.re [0] [])) (fun hf1 => ?_)
 obtain ⟨hi2, ha3⟩ := hf1
 refine k_sr ?_
 refine s_box #[.int .i64 v.kind, .int .i64 v.p, .int .i64 v.q, .string v.str, .int .i64 v.ref] (fun g4 => ?_)
 refine sp (.pointer none) ?_
 refine s_nr ?_
 refine sp (pB b 0) ?_
 refine s_lt (t_loadA 0 #[.int .i64 v.kind, .int .i64 v.p, .int .i64 v.q, .string v.str, .int .i64 v.ref]) ?_
 refine s_call [1] (hfind_s (st := st) (ps := ps) v) ?_
 rintro u5 _ ⟨e6, rfl⟩
 rcases fnd_cases ha3 v with ⟨hf7, ht8, hv9, hv10⟩ | ⟨o11, q12, hf13, ho14, hk15, hq16, hv17, hv18⟩
 ·
  rw [hv9] at e6; subst e6
  refine sp (.pointer none) ?_
  refine s_nt ?_
  refine k_seq ?_
  refine k_sr ?_
  refine sp (.pointer none) ?_
  refine sp (.bool true) ?_
  refine s_nt ?_
  refine k_true ?_
  refine k_sr ?_
  refine sp (.pointer none) ?_
  refine s_nt ?_
  refine k_ret ?_
  refine xs_ret ?_
  refine xs_fin [.pointer none] (hpP b st ps :: F) (SI.tmp 4 SI.nil) (fun _ h => h.re [0] [1]) ⟨?_, rfl⟩
  exact (hv10).symm
 ·
  rw [hv17] at e6; subst e6
  refine sp (pB q12.1 0) ?_
  refine s_nt ?_
  refine k_seq ?_
  refine k_sr ?_
  refine sp (pB q12.1 0) ?_
  refine sp (.bool false) ?_
  refine s_nt ?_
  refine k_false ?_
  refine k_st ?_
  refine k_sr ?_
  refine sp (pB q12.1 0) ?_
  refine sp (pB q12.1 0) ?_
  refine sp (pB q12.1 3) ?_
  refine s_mem3 (fun H h => hp_open (h.re [0] [])) (fun mb19 tb20 tm21 hw => ?_)
  obtain ⟨hi22, ha23, ht24⟩ := hw
  refine s_memX (fun H h => all_focus hq16 ho14 (h.re [3] [])) (fun v25 _ => ?_)
  refine s_lt (t_load 0 (tabV q12 o11)) ?_
  refine sp (tabV q12 o11) ?_
  refine s_nt ?_
  refine k_ret ?_
  refine xs_fact (fun H h => (h.mp (i := 5) rfl).nodup) (fun hnd26 => ?_)
  refine xs_mem (fun _ h => (put_same ho14) ▸ all_unfocus (o' := o11) hnd26 hq16 ho14 (ob_shut (o := o11) (h.re [0, 0, 0, 0] []))) ?_
  refine xs_mem (Bs := allP ps st :: blkA b #[.map (some mb19), .int .i64 (st.objs.length : Int), .map (some tb20)] 90 :: mpA iK oV mb19 ps :: mpA iK bV tb20 tm21 :: blkA g4 #[.int .i64 v.kind, .int .i64 v.p, .int .i64 v.q, .string v.str, .int .i64 v.ref] 26 :: F) (fun _ h => h) ?_
  refine xs_mem (fun _ h => hp_shut (st := st) (n := (st.objs.length : Int)) ⟨⟨hi22, ha23, ht24⟩, rfl⟩ (h.re [1, 1, 1, 0] [])) ?_
  refine xs_fin [(tabV q12 o11)] (hpP b st ps :: F) (SI.tmp 4 SI.nil) (fun _ h => h.re [0] [1]) ⟨?_, rfl⟩
  unfold tbV; rw [hf13, hq16]; rfl
theorem hmiss_s {Z : Zone} {F : List Asr} {b : Nat} : SF Tryz.prog 73 #[.pointer (some ⟨b, 0, none⟩)] Z F fun r Bs => r = .int .i64 8 ∧ Bs = F := by
 refine sf_enter Tryz.func73 5 [(0, pB b 0)] (fun w0 => ?_)
 refine k_sr ?_
 refine sp (.int .i64 0) ?_
 refine s_nt ?_
 refine k_seq ?_
 refine k_sr ?_
 refine sp (pB b 0) ?_
 refine sp (.bool false) ?_
 refine s_nt ?_
 refine k_false ?_
 refine k_st ?_
 refine k_sr ?_
 refine sp (.int .i64 8) ?_
 refine s_nt ?_
 refine k_ret ?_
 exact xs_fin [.int .i64 8] F (SI.tmp 2 SI.nil) (fun _ h => h) ⟨rfl, rfl⟩
theorem htouch_s {Z : Zone} {F : List Asr} {b : Nat} {st : Hst} {ps : List (Int × (Nat × Nat))} (v : Vl) {o : Hob} (hg : st.get v.ref = some o) (e : Int) : SF Tryz.prog 76 #[.pointer (some ⟨b, 0, none⟩), v.v, .int .i64 e] Z (hpP b st ps :: F) fun r Bs => r = .int .i64 e ∧ Bs = (if e = 0 then hpP b (st.touch v.ref) ps else hpP b st ps) :: F := by
 refine sf_enter Tryz.func76 16 [(0, pB b 0), (1, .agg #[.int .i64 v.kind, .int .i64 v.p, .int .i64 v.q, .string v.str, .int .i64 v.ref]), (2, .int .i64 e)] (fun w0 => ?_)
 refine k_sr ?_
 refine s_box #[.int .i64 v.kind, .int .i64 v.p, .int .i64 v.q, .string v.str, .int .i64 v.ref] (fun g1 => ?_)
 refine sp (.int .i64 0) ?_
 refine s_nt ?_
 refine k_seq ?_
 refine k_sr ?_
 refine sp (.int .i64 e) ?_
 refine s_lt t_cmp ?_
 refine s_nt ?_
 refine k_cond (decide (e = 0)) (fun c2 => ?_) (fun c2 => ?_)
 ·
  have p3 := of_decide_eq_true c2
  refine k_draw ?_
  refine sp (pB b 0) ?_
  refine sp (pB b 0) ?_
  refine sp (pB b 2) ?_
  refine s_mem3 (fun H h => hp_open (h.re [1] [])) (fun mb4 tb5 tm6 hw => ?_)
  obtain ⟨hi7, ha8, ht9⟩ := hw
  refine s_lt (t_load 0 (.map (some tb5))) ?_
  refine sp (pB g1 4) ?_
  refine s_lt (t_load 4 (.int .i64 v.ref)) ?_
  refine s_update 2 intOk Tryz.underlying88 v.ref true ?_
  refine s_nil ?_
  refine x_dynS (fun _ h => by kernel_rfl) ?_
  refine xs_then ?_
  refine k_sr ?_
  refine sp (.int .i64 e) ?_
  refine sp (.int .i64 e) ?_
  refine s_nt ?_
  refine k_ret ?_
  refine xs_mem (Bs := blkA b #[.map (some mb4), .int .i64 (st.objs.length : Int), .map (some tb5)] 90 :: mpA iK oV mb4 ps :: mpA iK bV tb5 (aset tm6 v.ref true) :: allP ps (st.touch v.ref) :: blkA g1 #[.int .i64 v.kind, .int .i64 v.p, .int .i64 v.q, .string v.str, .int .i64 v.ref] 26 :: F) (fun _ h => h) ?_
  refine xs_mem (fun _ h => hp_shut (st := (st.touch v.ref)) (n := (st.objs.length : Int)) ⟨⟨touch_inv hi7 v.ref, HA.touch ha8 v.ref, TA.touch ht9 hi7 hg⟩, rfl⟩ (h.re [0, 0, 0, 0] [])) ?_
  rw [if_pos (of_decide_eq_true c2)]
  exact xs_fin [.int .i64 e] (hpP b (st.touch v.ref) ps :: F) (SI.tmp 6 SI.nil) (fun _ h => h.re [0] [1]) ⟨rfl, rfl⟩
 ·
  have p10 := of_decide_eq_false c2
  refine k_st ?_
  refine k_sr ?_
  refine sp (.int .i64 e) ?_
  refine sp (.int .i64 e) ?_
  refine s_nt ?_
  refine k_ret ?_
  rw [if_neg (of_decide_eq_false c2)]
  exact xs_fin [.int .i64 e] (hpP b st ps :: F) (SI.tmp 6 SI.nil) (fun _ h => h.re [1] [1]) ⟨rfl, rfl⟩
theorem helem_s {Z : Zone} (v : Vl) : SF Tryz.prog 75 #[v.v] Z [] fun r Bs => r = .int .i64 (elemE v) ∧ Bs = [] := by
 refine sf_enter Tryz.func75 17 [(0, .agg #[.int .i64 v.kind, .int .i64 v.p, .int .i64 v.q, .string v.str, .int .i64 v.ref])] (fun w0 => ?_)
 refine k_sr ?_
 refine s_box #[.int .i64 v.kind, .int .i64 v.p, .int .i64 v.q, .string v.str, .int .i64 v.ref] (fun g1 => ?_)
 refine sp (.int .i64 0) ?_
 refine s_nt ?_
 refine k_seq ?_
 refine k_block ?_
 refine k_sr ?_
 refine sp (pB g1 0) ?_
 refine s_lt (t_load 0 (.int .i64 v.kind)) ?_
 refine s_lt t_cmp ?_
 refine sp (.bool (decide (v.kind = 3))) ?_
 refine s_fork 7 (decide (v.kind = 3)) (fun c2 => ?_) (fun c2 => ?_)
 ·
  have p3 := of_decide_eq_true c2
  refine sp (pB g1 3) ?_
  refine s_lt (t_load 0 (.string v.str)) ?_
  refine s_lt (t_kern (.int .i64 (v.str.size : Int))) ?_
  refine s_lt t_cmp ?_
  refine sp (.bool (decide ((4096 : Int) < (v.str.size : Int)))) ?_
  refine sp (.bool (decide ((4096 : Int) < (v.str.size : Int)))) ?_
  refine s_nt ?_
  refine k_cond (decide ((4096 : Int) < (v.str.size : Int))) (fun c4 => ?_) (fun c4 => ?_)
  ·
   have p5 := of_decide_eq_true c4
   refine k_sr ?_
   refine sp (.int .i64 14) ?_
   refine s_nt ?_
   refine k_ret ?_
   refine xs_retBlock ?_
   refine xs_ret ?_
   refine xs_fin [.int .i64 14] [] (SI.tmp 2 SI.nil) (fun _ h => h.re [] [0]) ⟨congrArg (Value.int .i64) ?_, rfl⟩
   unfold elemE; simp [c2, c4, p3, p5]
  ·
   have p6 := of_decide_eq_false c4
   refine k_sr ?_
   refine s_lt (t_loadA 0 #[.int .i64 v.kind, .int .i64 v.p, .int .i64 v.q, .string v.str, .int .i64 v.ref]) ?_
   refine s_vcall (fun _ h => valid_s v) ?_
   rintro _ rfl
   refine sp (.bool (!(validB v))) ?_
   refine sp (.bool (!(validB v))) ?_
   refine s_nt ?_
   refine k_cond (!(validB v)) (fun c7 => ?_) (fun c7 => ?_)
   ·
    have c8 := not_t c7
    refine k_sr ?_
    refine sp (.int .i64 2) ?_
    refine s_nt ?_
    refine k_ret ?_
    refine xs_retBlock ?_
    refine xs_ret ?_
    refine xs_fin [.int .i64 2] [] (SI.tmp 2 SI.nil) (fun _ h => h.re [] [0]) ⟨congrArg (Value.int .i64) ?_, rfl⟩
    unfold elemE; simp [c2, c4, c7, p3, p6, c8]
   ·
    have c9 := not_f c7
    refine k_skip ?_
    refine xs_block ?_
    refine xs_then ?_
    refine k_sr ?_
    refine sp (.int .i64 0) ?_
    refine s_nt ?_
    refine k_ret ?_
    refine xs_fin [.int .i64 0] [] (SI.tmp 2 SI.nil) (fun _ h => h.re [] [0]) ⟨congrArg (Value.int .i64) ?_, rfl⟩
    unfold elemE; simp [c2, c4, c7, p3, p6, c9]
 ·
  have p10 := of_decide_eq_false c2
  refine s_skip ?_
  refine s_skip ?_
  refine s_skip ?_
  refine s_skip ?_
  refine sp (.bool false) ?_
  refine sp (.bool false) ?_
  refine s_nt ?_
  refine k_false ?_
  refine k_sr ?_
  refine s_lt (t_loadA 0 #[.int .i64 v.kind, .int .i64 v.p, .int .i64 v.q, .string v.str, .int .i64 v.ref]) ?_
  refine s_vcall (fun _ h => valid_s v) ?_
  rintro _ rfl
  refine sp (.bool (!(validB v))) ?_
  refine sp (.bool (!(validB v))) ?_
  refine s_nt ?_
  refine k_cond (!(validB v)) (fun c11 => ?_) (fun c11 => ?_)
  ·
   have c12 := not_t c11
   refine k_sr ?_
   refine sp (.int .i64 2) ?_
   refine s_nt ?_
   refine k_ret ?_
   refine xs_retBlock ?_
   refine xs_ret ?_
   refine xs_fin [.int .i64 2] [] (SI.tmp 2 SI.nil) (fun _ h => h.re [] [0]) ⟨congrArg (Value.int .i64) ?_, rfl⟩
   unfold elemE; simp [c2, c11, p10, c12]
  ·
   have c13 := not_f c11
   refine k_skip ?_
   refine xs_block ?_
   refine xs_then ?_
   refine k_sr ?_
   refine sp (.int .i64 0) ?_
   refine s_nt ?_
   refine k_ret ?_
   refine xs_fin [.int .i64 0] [] (SI.tmp 2 SI.nil) (fun _ h => h.re [] [0]) ⟨congrArg (Value.int .i64) ?_, rfl⟩
   unfold elemE; simp [c2, c11, p10, c13]
theorem hgetV_none {st : Hst} {t k : Vl} (h : htab st t = none) : hgetV st t k = zVl := by unfold hgetV; rw [h]
theorem hgetE_none {st : Hst} {t : Vl} (h : htab st t = none) : hgetE st t = 8 := by unfold hgetE; rw [h]; rfl
theorem hgetV_some {st : Hst} {t k : Vl} {T : Tb} (h : htab st t = some T) : hgetV st t k = tget T k := by unfold hgetV; rw [h]
theorem hgetE_some {st : Hst} {t : Vl} {T : Tb} (h : htab st t = some T) : hgetE st t = 0 := by unfold hgetE; rw [h]; rfl
abbrev pairV (v : Vl) (e : Int) : Value := .tuple #[v.v, .int .i64 e]
theorem hget_s {Z : Zone} {F : List Asr} {b : Nat} {st : Hst} {n : Nat} (hsm : HSm n st) (hn : n ≤ 300) (t k : Vl) : SF Tryz.prog 56 #[.pointer (some ⟨b, 0, none⟩), t.v, k.v] Z (hpA b st :: F) fun r Bs => r = pairV (hgetV st t k) (hgetE st t) ∧ Bs = hpA b st :: F := by
 refine sf_enter Tryz.func56 20 [(0, pB b 0), (1, .agg #[.int .i64 t.kind, .int .i64 t.p, .int .i64 t.q, .string t.str, .int .i64 t.ref]), (2, .agg #[.int .i64 k.kind, .int .i64 k.p, .int .i64 k.q, .string k.str, .int .i64 k.ref])] (fun w0 => ?_)
 refine k_sr ?_
 refine s_box #[.int .i64 t.kind, .int .i64 t.p, .int .i64 t.q, .string t.str, .int .i64 t.ref] (fun g1 => ?_)
 refine s_box #[.int .i64 k.kind, .int .i64 k.p, .int .i64 k.q, .string k.str, .int .i64 k.ref] (fun g2 => ?_)
 refine s_alloc (.agg #[.int .i64 0, .int .i64 0, .int .i64 0, .string ByteArray.empty, .int .i64 0]) #[.int .i64 0, .int .i64 0, .int .i64 0, .string ByteArray.empty, .int .i64 0] (fun g3 => ?_)
 refine sp (.int .i64 0) ?_
 refine s_nr ?_
 refine sp (pB b 0) ?_
 refine s_lt (t_loadA 2 #[.int .i64 t.kind, .int .i64 t.p, .int .i64 t.q, .string t.str, .int .i64 t.ref]) ?_
 refine s_memX (fun H h => hpA_open (h.re [3] [])) (fun ps4 _ => ?_)
 refine s_fact (fun H h => hp_facts (h.re [0] [])) (fun hf5 => ?_)
 obtain ⟨hi6, ha7⟩ := hf5
 refine s_call [0] (htab_s (st := st) (ps := ps4) t) ?_
 rintro u8 _ ⟨e9, rfl⟩
 rcases tb_cases ha7 t with ⟨ht10, hv11⟩ | ⟨o12, q13, ht14, ho15, hk16, hk17, hq18, hv19⟩
 ·
  rw [hv11] at e9; subst e9
  refine sp (.pointer none) ?_
  refine s_nt ?_
  refine k_seq ?_
  refine k_sr ?_
  refine sp (.pointer none) ?_
  refine sp (.bool true) ?_
  refine s_nt ?_
  refine k_true ?_
  refine k_sr ?_
  refine s_lt (t_kern (.agg #[.int .i64 0, .int .i64 0, .int .i64 0, .string ByteArray.empty, .int .i64 0])) ?_
  refine sp (pB b 0) ?_
  refine s_vcall (fun _ h => hmiss_s (F := [])) ?_
  rintro _ rfl
  refine s_store 1 #[.int .i64 0, .int .i64 0, .int .i64 0, .string ByteArray.empty, .int .i64 0] ?_
  refine sp (.int .i64 8) ?_
  refine s_nt ?_
  refine k_ret ?_
  refine xs_ret ?_
  refine xs_mem (fun _ h => hpA_shut (h.re [0] [])) ?_
  refine xs_fin [.agg #[.int .i64 0, .int .i64 0, .int .i64 0, .string ByteArray.empty, .int .i64 0], .int .i64 8] (hpA b st :: F) (SI.agg 6 26 1 (SI.tmp 7 SI.nil)) (fun _ h => h.re [0] [1, 1, 1]) ⟨?_, rfl⟩
  rw [hgetV_none ht10, hgetE_none ht10]; rfl
 ·
  rw [hv19] at e9; subst e9
  refine sp (pB q13.2 0) ?_
  refine s_nt ?_
  refine k_seq ?_
  refine k_sr ?_
  refine sp (pB q13.2 0) ?_
  refine sp (.bool false) ?_
  refine s_nt ?_
  refine k_false ?_
  refine k_st ?_
  refine k_sr ?_
  refine sp (pB q13.2 0) ?_
  refine s_lt (t_loadA 2 #[.int .i64 k.kind, .int .i64 k.p, .int .i64 k.q, .string k.str, .int .i64 k.ref]) ?_
  refine s_mem (fun _ h => tab_out hq18 ho15 hk16 (h.re [0] [])) ?_
  obtain ⟨hl20, hl202, _⟩ := hsm.obs o12 (get_mem ho15).1
  have hl203 : n * (n + 1) ≤ 300 * 301 := Nat.mul_le_mul (by omega) (by omega)
  refine s_call [0] (tbget_s (L := o12.tab.list) (S := o12.tab.rest) (by (try simp only [lnm]); omega) k) ?_
  rintro _ _ ⟨rfl, rfl⟩
  refine s_store 2 #[.int .i64 ((tget ⟨o12.tab.list, o12.tab.rest⟩ k).kind), .int .i64 ((tget ⟨o12.tab.list, o12.tab.rest⟩ k).p), .int .i64 ((tget ⟨o12.tab.list, o12.tab.rest⟩ k).q), .string ((tget ⟨o12.tab.list, o12.tab.rest⟩ k).str), .int .i64 ((tget ⟨o12.tab.list, o12.tab.rest⟩ k).ref)] ?_
  refine sp (.int .i64 0) ?_
  refine s_nt ?_
  refine k_ret ?_
  refine xs_mem (fun _ h => tab_back hq18 ho15 hk16 (h.re [0, 0] [])) ?_
  refine xs_mem (fun _ h => hpA_shut (h.re [0] [])) ?_
  refine xs_fin [.agg #[.int .i64 ((tget ⟨o12.tab.list, o12.tab.rest⟩ k).kind), .int .i64 ((tget ⟨o12.tab.list, o12.tab.rest⟩ k).p), .int .i64 ((tget ⟨o12.tab.list, o12.tab.rest⟩ k).q), .string ((tget ⟨o12.tab.list, o12.tab.rest⟩ k).str), .int .i64 ((tget ⟨o12.tab.list, o12.tab.rest⟩ k).ref)], .int .i64 0] (hpA b st :: F) (SI.agg 6 26 1 (SI.tmp 7 SI.nil)) (fun _ h => h.re [0] [1, 1, 1]) ⟨?_, rfl⟩
  rw [hgetV_some ht14, hgetE_some ht14]; rfl
theorem elem_valid {v : Vl} (h : elemE v = 0) : validB v = true := by
  unfold elemE at h
  split at h
  · cases h
  · split at h
    · cases h
    · rename_i hv; simpa using hv
theorem hset_none {st : Hst} {t k v : Vl} (h : htab st t = none) : hset st t k v = st ∧ hsetE st t k v = 8 := by unfold hset hsetE; rw [h]; exact ⟨rfl, rfl⟩
theorem hset_key {st : Hst} {t k v : Vl} {T : Tb} (h : htab st t = some T) (hk : okKey k = false) : hset st t k v = st ∧ hsetE st t k v = 13 := by unfold hset hsetE; rw [h]; simp [hk]
theorem hset_elem {st : Hst} {t k v : Vl} {T : Tb} (h : htab st t = some T) (hk : okKey k = true) (he : elemE v ≠ 0) : hset st t k v = st ∧ hsetE st t k v = elemE v := by unfold hset hsetE; rw [h]; simp [hk, he]
theorem hset_ok {st : Hst} {t k v : Vl} {o : Hob} (h : htab st t = some o.tab) (ho : st.get t.ref = some o) (hk : okKey k = true) (he : elemE v = 0) : hset st t k v = (st.put t.ref { o with tab := tset o.tab k v }).touch t.ref ∧ hsetE st t k v = 0 := by unfold hset hsetE Hst.setTab; rw [h, ho]; simp [hk, he]
theorem hset_s {Z : Zone} {F : List Asr} {b : Nat} {st : Hst} {n : Nat} (hsm : HSm n st) (hn : n ≤ 300) (t k x : Vl) : SF Tryz.prog 22 #[.pointer (some ⟨b, 0, none⟩), t.v, k.v, x.v] Z (hpA b st :: F) fun r Bs => r = .int .i64 (hsetE st t k x) ∧ Bs = hpA b (hset st t k x) :: F := by
 refine sf_enter Tryz.func22 40 [(0, pB b 0), (1, .agg #[.int .i64 t.kind, .int .i64 t.p, .int .i64 t.q, .string t.str, .int .i64 t.ref]), (2, .agg #[.int .i64 k.kind, .int .i64 k.p, .int .i64 k.q, .string k.str, .int .i64 k.ref]), (3, .agg #[.int .i64 x.kind, .int .i64 x.p, .int .i64 x.q, .string x.str, .int .i64 x.ref])] (fun w0 => ?_)
 refine k_sr ?_
 refine s_box #[.int .i64 t.kind, .int .i64 t.p, .int .i64 t.q, .string t.str, .int .i64 t.ref] (fun g1 => ?_)
 refine s_box #[.int .i64 k.kind, .int .i64 k.p, .int .i64 k.q, .string k.str, .int .i64 k.ref] (fun g2 => ?_)
 refine s_box #[.int .i64 x.kind, .int .i64 x.p, .int .i64 x.q, .string x.str, .int .i64 x.ref] (fun g3 => ?_)
 refine sp (.int .i64 0) ?_
 refine s_nr ?_
 refine sp (pB b 0) ?_
 refine s_lt (t_loadA 2 #[.int .i64 t.kind, .int .i64 t.p, .int .i64 t.q, .string t.str, .int .i64 t.ref]) ?_
 refine s_memX (fun H h => hpA_open (h.re [3] [])) (fun ps4 _ => ?_)
 refine s_fact (fun H h => hp_facts (h.re [0] [])) (fun hf5 => ?_)
 obtain ⟨hi6, ha7⟩ := hf5
 refine s_call [0] (htab_s (st := st) (ps := ps4) t) ?_
 rintro u8 _ ⟨e9, rfl⟩
 rcases tb_cases ha7 t with ⟨ht10, hv11⟩ | ⟨o12, q13, ht14, ho15, hk16, hk17, hq18, hv19⟩
 ·
  rw [hv11] at e9; subst e9
  refine sp (.pointer none) ?_
  refine s_nt ?_
  refine k_seq ?_
  refine k_block ?_
  refine k_sr ?_
  refine sp (.pointer none) ?_
  refine sp (.bool true) ?_
  refine sp (.bool true) ?_
  refine s_nt ?_
  refine k_true ?_
  refine k_sr ?_
  refine sp (pB b 0) ?_
  refine s_vcall (fun _ h => hmiss_s (F := [])) ?_
  rintro _ rfl
  refine sp (.int .i64 8) ?_
  refine s_nt ?_
  refine k_ret ?_
  refine xs_retBlock ?_
  refine xs_ret ?_
  refine xs_mem (fun _ h => hpA_shut (h.re [0] [])) ?_
  have hp := hset_none (k := k) (v := x) ht10
  refine xs_fin [.int .i64 8] (hpA b st :: F) (SI.tmp 8 SI.nil) (fun _ h => h.re [0] [1, 1, 1]) ⟨?_, ?_⟩
  · rw [hp.2]; exact congrArg (Value.int .i64) (by first | rfl | exact tsetE_ok hk hv0)
  · rw [hp.1]
 ·
  rw [hv19] at e9; subst e9
  refine sp (pB q13.2 0) ?_
  refine s_nt ?_
  refine k_seq ?_
  refine k_block ?_
  refine k_sr ?_
  refine sp (pB q13.2 0) ?_
  refine sp (.bool false) ?_
  refine sp (.bool false) ?_
  refine s_nt ?_
  refine k_false ?_
  refine k_cut (ι := Unit) (fun _ => True) (fun _ => [(0, pB b 0), (5, pB g1 0), (6, pB g2 0), (7, pB g3 0), (9, pB q13.2 0), (19, .bool ((decide (k.kind = 0)) || (!(validB k))))]) (fun _ => hpP b st ps4 :: blkA g3 #[.int .i64 x.kind, .int .i64 x.p, .int .i64 x.q, .string x.str, .int .i64 x.ref] 26 :: blkA g2 #[.int .i64 k.kind, .int .i64 k.p, .int .i64 k.q, .string k.str, .int .i64 k.ref] 26 :: blkA g1 #[.int .i64 t.kind, .int .i64 t.p, .int .i64 t.q, .string t.str, .int .i64 t.ref] 26 :: F) ?_ (fun _ _ => ?_)
  ·
   refine k_reg ?_
   refine sp (pB g2 0) ?_
   refine s_lt (t_load 2 (.int .i64 k.kind)) ?_
   refine s_lt t_cmp ?_
   refine sp (.bool (decide (k.kind = 0))) ?_
   refine s_fork 23 (decide (k.kind = 0)) (fun c20 => ?_) (fun c20 => ?_)
   ·
    have p21 := of_decide_eq_true c20
    refine s_skip ?_
    refine s_skip ?_
    refine s_skip ?_
    refine sp (.bool true) ?_
    refine sp (.bool true) ?_
    refine s_nil ?_
    exact xs_cut () trivial (sub_of rfl ⟨⟨rfl, rfl⟩, ⟨⟨rfl, rfl⟩, ⟨⟨rfl, rfl⟩, ⟨⟨rfl, rfl⟩, ⟨⟨rfl, rfl⟩, ⟨⟨rfl, show Value.bool true = Value.bool ((decide (k.kind = 0)) || (!(validB k))) by first | (simp only [c20, bls]; done) | simp [c20]⟩, trivial⟩⟩⟩⟩⟩⟩) (fun _ h => h.re [0, 0, 0, 0] [])
   ·
    have p22 := of_decide_eq_false c20
    refine s_lt (t_loadA 2 #[.int .i64 k.kind, .int .i64 k.p, .int .i64 k.q, .string k.str, .int .i64 k.ref]) ?_
    refine s_vcall (fun _ h => valid_s k) ?_
    rintro _ rfl
    refine sp (.bool (!(validB k))) ?_
    refine sp (.bool (!(validB k))) ?_
    refine sp (.bool (!(validB k))) ?_
    refine s_nil ?_
    exact xs_cut () trivial (sub_of rfl ⟨⟨rfl, rfl⟩, ⟨⟨rfl, rfl⟩, ⟨⟨rfl, rfl⟩, ⟨⟨rfl, rfl⟩, ⟨⟨rfl, rfl⟩, ⟨⟨rfl, show Value.bool (!(validB k)) = Value.bool ((decide (k.kind = 0)) || (!(validB k))) by first | (simp only [c20, bls]; done) | simp [c20]⟩, trivial⟩⟩⟩⟩⟩⟩) (fun _ h => h.re [0, 0, 0, 0] [])
  ·
   refine k_cond ((decide (k.kind = 0)) || (!(validB k))) (fun c23 => ?_) (fun c23 => ?_)
   ·
    have p24 := c23
    simp only [Bool.and_eq_true, Bool.or_eq_true, Bool.and_eq_false_iff, Bool.or_eq_false_iff, Bool.not_eq_true', Bool.not_eq_false', decide_eq_true_eq, decide_eq_false_iff_not] at p24
    refine k_sr ?_
    refine sp (.int .i64 13) ?_
    refine s_nt ?_
    refine k_ret ?_
    refine xs_retBlock ?_
    refine xs_ret ?_
    refine xs_mem (fun _ h => hpA_shut (h.re [0] [])) ?_
    have hk : okKey k = false := okKey_bad (by first | exact p24 | exact .inl p24 | exact .inr p24)
    have hp := hset_key (v := x) ht14 hk
    refine xs_fin [.int .i64 13] (hpA b st :: F) (SI.tmp 8 SI.nil) (fun _ h => h.re [0] [1, 1, 1]) ⟨?_, ?_⟩
    · rw [hp.2]; exact congrArg (Value.int .i64) (by first | rfl | exact tsetE_ok hk hv0)
    · rw [hp.1]
   ·
    obtain ⟨c25, c26⟩ := or_f c23
    have p27 := of_decide_eq_false c25
    have c28 := not_f c26
    refine k_skip ?_
    refine xs_block ?_
    refine xs_then ?_
    refine k_seq ?_
    refine k_sr ?_
    refine s_lt (t_loadA 1 #[.int .i64 x.kind, .int .i64 x.p, .int .i64 x.q, .string x.str, .int .i64 x.ref]) ?_
    refine s_vcall (fun _ h => helem_s x) ?_
    rintro _ rfl
    refine sp (.int .i64 (elemE x)) ?_
    refine s_nr ?_
    refine sp (.int .i64 (elemE x)) ?_
    refine s_lt t_cmp ?_
    refine s_nt ?_
    refine k_cond (decide ((elemE x) ≠ 0)) (fun c29 => ?_) (fun c29 => ?_)
    ·
     have p30 := of_decide_eq_true c29
     refine k_sr ?_
     refine sp (.int .i64 (elemE x)) ?_
     refine sp (.int .i64 (elemE x)) ?_
     refine s_nt ?_
     refine k_ret ?_
     refine xs_ret ?_
     refine xs_mem (fun _ h => hpA_shut (h.re [0] [])) ?_
     have hk := okKey_good c25 c28
     have hp := hset_elem (v := x) ht14 hk (of_decide_eq_true c29)
     refine xs_fin [.int .i64 (elemE x)] (hpA b st :: F) (SI.tmp 8 SI.nil) (fun _ h => h.re [0] [1, 1, 1]) ⟨?_, ?_⟩
     · rw [hp.2]; exact congrArg (Value.int .i64) (by first | rfl | exact tsetE_ok hk hv0)
     · rw [hp.1]
    ·
     have p31 := Decidable.not_not.1 (of_decide_eq_false c29)
     refine k_st ?_
     refine k_seq ?_
     refine k_held [blkA g3 #[.int .i64 x.kind, .int .i64 x.p, .int .i64 x.q, .string x.str, .int .i64 x.ref] 26, blkA g2 #[.int .i64 k.kind, .int .i64 k.p, .int .i64 k.q, .string k.str, .int .i64 k.ref] 26, blkA g1 #[.int .i64 t.kind, .int .i64 t.p, .int .i64 t.q, .string t.str, .int .i64 t.ref] 26] ?_
     refine hp_ 0 [1, 1, 1] (pB b 0) ?_
     refine h_l 1 rfl [1, 1, 1] (fun _ => (t_loadA 2 #[.int .i64 t.kind, .int .i64 t.p, .int .i64 t.q, .string t.str, .int .i64 t.ref])) ?_
     refine hp_ 2 [1, 1, 1] (pB q13.2 0) ?_
     refine h_l 3 rfl [1, 1, 1] (fun _ => (t_loadA 1 #[.int .i64 k.kind, .int .i64 k.p, .int .i64 k.q, .string k.str, .int .i64 k.ref])) ?_
     refine h_l 4 rfl [1, 1, 1] (fun _ => (t_loadA 0 #[.int .i64 x.kind, .int .i64 x.p, .int .i64 x.q, .string x.str, .int .i64 x.ref])) ?_
     refine h_stepS 5 ?_
     refine s_mem (fun _ h => tab_out hq18 ho15 hk16 (h.re [0] [])) ?_
     obtain ⟨hl32, hl322, _⟩ := hsm.obs o12 (get_mem ho15).1
     have hl323 : n * (n + 1) ≤ 300 * 301 := Nat.mul_le_mul (by omega) (by omega)
     refine s_call [0] (tbset_s (L := o12.tab.list) (S := o12.tab.rest) (hi6.obs o12 (get_mem ho15).1).tab (by (try simp only [lnm]); omega) (by (try simp only [lnm]); omega) k x) ?_
     rintro _ _ ⟨rfl, rfl⟩
     refine s_nil (xs_held [2, 2, 2] ?_)
     refine h_stepS 6 ?_
     refine s_mem (fun _ h => tab_in (T := (tset ⟨o12.tab.list, o12.tab.rest⟩ k x)) hq18 ho15 hk16 (tset_inv (hi6.obs o12 (get_mem ho15).1).tab _ _) (h.re [0, 0] [])) ?_
     have hk := okKey_good c25 c28
     have he0 : elemE x = 0 := Decidable.not_not.1 (of_decide_eq_false c29)
     have hv0 := elem_valid he0
     refine s_call [0] (htouch_s (st := (st.put t.ref { o12 with tab := (tset ⟨o12.tab.list, o12.tab.rest⟩ k x) })) (ps := ps4) t (show Hst.get _ _ = some { o12 with tab := (tset ⟨o12.tab.list, o12.tab.rest⟩ k x) } from by rw [get_put ho15, if_pos rfl]) (tsetE k x)) ?_
     rw [if_pos (tsetE_ok hk hv0)]
     rintro _ _ ⟨rfl, rfl⟩
     refine s_nil (xs_held [1, 1, 1] ?_)
     refine hp_ 7 [1, 1, 1] (.int .i64 (tsetE k x)) ?_
     refine h_doneS ?_
     refine xs_then ?_
     refine k_ret ?_
     refine xs_mem (fun _ h => hpA_shut (h.re [0] [])) ?_
     have hp := hset_ok ht14 ho15 hk he0
     refine xs_fin [.int .i64 (tsetE k x)] (hpA b ((st.put t.ref { o12 with tab := (tset ⟨o12.tab.list, o12.tab.rest⟩ k x) }).touch t.ref) :: F) (SI.tmp 8 SI.nil) (fun _ h => h.re [0] [1, 1, 1]) ⟨?_, ?_⟩
     · rw [hp.2]; exact congrArg (Value.int .i64) (by first | rfl | exact tsetE_ok hk hv0)
     · rw [hp.1]
theorem hmeta_s {Z : Zone} {F : List Asr} {b : Nat} {st : Hst} (v : Vl) : SF Tryz.prog 55 #[.pointer (some ⟨b, 0, none⟩), v.v] Z (hpA b st :: F) fun r Bs => r = (hmeta st v).v ∧ Bs = hpA b st :: F := by
 refine sf_enter Tryz.func55 16 [(0, pB b 0), (1, .agg #[.int .i64 v.kind, .int .i64 v.p, .int .i64 v.q, .string v.str, .int .i64 v.ref])] (fun w0 => ?_)
 refine k_sr ?_
 refine s_box #[.int .i64 v.kind, .int .i64 v.p, .int .i64 v.q, .string v.str, .int .i64 v.ref] (fun g1 => ?_)
 refine s_alloc (.agg #[.int .i64 0, .int .i64 0, .int .i64 0, .string ByteArray.empty, .int .i64 0]) #[.int .i64 0, .int .i64 0, .int .i64 0, .string ByteArray.empty, .int .i64 0] (fun g2 => ?_)
 refine s_nr ?_
 refine sp (pB b 0) ?_
 refine s_lt (t_loadA 1 #[.int .i64 v.kind, .int .i64 v.p, .int .i64 v.q, .string v.str, .int .i64 v.ref]) ?_
 refine s_memX (fun H h => hpA_open (h.re [2] [])) (fun ps3 _ => ?_)
 refine s_fact (fun H h => hp_facts (h.re [0] [])) (fun hf4 => ?_)
 obtain ⟨hi5, ha6⟩ := hf4
 refine s_call [0] (hfind_s (st := st) (ps := ps3) v) ?_
 rintro u7 _ ⟨e8, rfl⟩
 rcases fnd_cases ha6 v with ⟨hf9, ht10, hv11, hv12⟩ | ⟨o13, q14, hf15, ho16, hk17, hq18, hv19, hv20⟩
 ·
  rw [hv11] at e8; subst e8
  refine sp (.pointer none) ?_
  refine s_nt ?_
  refine k_seq ?_
  refine k_sr ?_
  refine sp (.pointer none) ?_
  refine sp (.bool true) ?_
  refine s_nt ?_
  refine k_true ?_
  refine k_sr ?_
  refine s_lt (t_kern (.agg #[.int .i64 0, .int .i64 0, .int .i64 0, .string ByteArray.empty, .int .i64 0])) ?_
  refine s_store 1 #[.int .i64 0, .int .i64 0, .int .i64 0, .string ByteArray.empty, .int .i64 0] ?_
  refine s_nt ?_
  refine k_ret ?_
  refine xs_ret ?_
  refine xs_mem (fun _ h => hpA_shut (h.re [0] [])) ?_
  refine xs_fin [.agg #[.int .i64 0, .int .i64 0, .int .i64 0, .string ByteArray.empty, .int .i64 0]] (hpA b st :: F) (SI.agg 4 26 1 SI.nil) (fun _ h => h.re [0] [1, 1]) ⟨?_, rfl⟩
  unfold hmeta; rw [hf9]; rfl
 ·
  rw [hv19] at e8; subst e8
  refine sp (pB q14.1 0) ?_
  refine s_nt ?_
  refine k_seq ?_
  refine k_sr ?_
  refine sp (pB q14.1 0) ?_
  refine sp (.bool false) ?_
  refine s_nt ?_
  refine k_false ?_
  refine k_st ?_
  refine k_sr ?_
  refine sp (pB q14.1 0) ?_
  refine sp (pB q14.1 0) ?_
  refine sp (pB q14.1 4) ?_
  refine s_mem3 (fun H h => hp_open (h.re [0] [])) (fun mb21 tb22 tm23 hw => ?_)
  obtain ⟨hi24, ha25, ht26⟩ := hw
  refine s_memX (fun H h => all_focus hq18 ho16 (h.re [3] [])) (fun v27 _ => ?_)
  refine s_lt (t_loadA 0 #[.int .i64 o13.mt.kind, .int .i64 o13.mt.p, .int .i64 o13.mt.q, .string o13.mt.str, .int .i64 o13.mt.ref]) ?_
  refine s_store 7 #[.int .i64 o13.mt.kind, .int .i64 o13.mt.p, .int .i64 o13.mt.q, .string o13.mt.str, .int .i64 o13.mt.ref] ?_
  refine s_nt ?_
  refine k_ret ?_
  refine xs_fact (fun H h => (h.mp (i := 5) rfl).nodup) (fun hnd28 => ?_)
  refine xs_mem (fun _ h => (put_same ho16) ▸ all_unfocus (o' := o13) hnd28 hq18 ho16 (ob_shut (o := o13) (h.re [0, 0, 0, 0] []))) ?_
  refine xs_mem (Bs := allP ps3 st :: blkA b #[.map (some mb21), .int .i64 (st.objs.length : Int), .map (some tb22)] 90 :: mpA iK oV mb21 ps3 :: mpA iK bV tb22 tm23 :: blkA g2 #[.int .i64 o13.mt.kind, .int .i64 o13.mt.p, .int .i64 o13.mt.q, .string o13.mt.str, .int .i64 o13.mt.ref] 26 :: blkA g1 #[.int .i64 v.kind, .int .i64 v.p, .int .i64 v.q, .string v.str, .int .i64 v.ref] 26 :: F) (fun _ h => h) ?_
  refine xs_mem (fun _ h => hp_shut (st := st) (n := (st.objs.length : Int)) ⟨⟨hi24, ha25, ht26⟩, rfl⟩ (h.re [1, 1, 1, 0] [])) ?_
  refine xs_mem (fun _ h => hpA_shut (h.re [0] [])) ?_
  refine xs_fin [.agg #[.int .i64 o13.mt.kind, .int .i64 o13.mt.p, .int .i64 o13.mt.q, .string o13.mt.str, .int .i64 o13.mt.ref]] (hpA b st :: F) (SI.agg 4 26 1 SI.nil) (fun _ h => h.re [0] [1, 1]) ⟨?_, rfl⟩
  unfold hmeta; rw [hf15]; rfl
theorem hsetmeta_s {Z : Zone} {F : List Asr} {b : Nat} {st : Hst} (v m : Vl) : SF Tryz.prog 24 #[.pointer (some ⟨b, 0, none⟩), v.v, m.v] Z (hpA b st :: F) fun r Bs => r = .int .i64 (hsetMetaE st v m) ∧ Bs = hpA b (hsetMeta st v m) :: F := by
 refine sf_enter Tryz.func24 47 [(0, pB b 0), (1, .agg #[.int .i64 v.kind, .int .i64 v.p, .int .i64 v.q, .string v.str, .int .i64 v.ref]), (2, .agg #[.int .i64 m.kind, .int .i64 m.p, .int .i64 m.q, .string m.str, .int .i64 m.ref])] (fun w0 => ?_)
 refine k_sr ?_
 refine s_box #[.int .i64 v.kind, .int .i64 v.p, .int .i64 v.q, .string v.str, .int .i64 v.ref] (fun g1 => ?_)
 refine s_box #[.int .i64 m.kind, .int .i64 m.p, .int .i64 m.q, .string m.str, .int .i64 m.ref] (fun g2 => ?_)
 refine sp (.int .i64 0) ?_
 refine s_nr ?_
 refine sp (pB b 0) ?_
 refine s_lt (t_loadA 1 #[.int .i64 v.kind, .int .i64 v.p, .int .i64 v.q, .string v.str, .int .i64 v.ref]) ?_
 refine s_memX (fun H h => hpA_open (h.re [2] [])) (fun ps3 _ => ?_)
 refine s_fact (fun H h => hp_facts (h.re [0] [])) (fun hf4 => ?_)
 obtain ⟨hi5, ha6⟩ := hf4
 refine s_call [0] (hfind_s (st := st) (ps := ps3) v) ?_
 rintro u7 _ ⟨e8, rfl⟩
 rcases fnd_cases ha6 v with ⟨hf9, ht10, hv11, hv12⟩ | ⟨o13, q14, hf15, ho16, hk17, hq18, hv19, hv20⟩
 ·
  rw [hv11] at e8; subst e8
  refine sp (.pointer none) ?_
  refine s_nt ?_
  refine k_seq ?_
  refine k_sr ?_
  refine sp (.pointer none) ?_
  refine sp (.bool true) ?_
  refine sp (.bool true) ?_
  refine s_skip ?_
  refine s_skip ?_
  refine s_skip ?_
  refine s_skip ?_
  refine s_skip ?_
  refine s_skip ?_
  refine s_skip ?_
  refine s_skip ?_
  refine s_skip ?_
  refine s_skip ?_
  refine s_skip ?_
  refine s_skip ?_
  refine sp (.bool true) ?_
  refine sp (.bool true) ?_
  refine s_skip ?_
  refine s_skip ?_
  refine s_skip ?_
  refine s_skip ?_
  refine s_skip ?_
  refine s_skip ?_
  refine s_skip ?_
  refine s_skip ?_
  refine s_skip ?_
  refine sp (.bool true) ?_
  refine s_nt ?_
  refine k_true ?_
  refine k_sr ?_
  refine sp (pB b 0) ?_
  refine s_vcall (fun _ h => hmiss_s (F := [])) ?_
  rintro _ rfl
  refine sp (.int .i64 8) ?_
  refine s_nt ?_
  refine k_ret ?_
  refine xs_ret ?_
  refine xs_mem (fun _ h => hpA_shut (h.re [0] [])) ?_
  have hb : hmetaOk st v m = false := by unfold hmetaOk; rw [hf9]
  refine xs_fin [.int .i64 8] (hpA b st :: F) (SI.tmp 6 SI.nil) (fun _ h => h.re [0] [1, 1]) ⟨?_, ?_⟩
  · unfold hsetMetaE; rw [hb]; rfl
  · unfold hsetMeta; rw [hb]; rfl
 ·
  rw [hv19] at e8; subst e8
  refine sp (pB q14.1 0) ?_
  refine s_nt ?_
  refine k_seq ?_
  refine k_sr ?_
  refine sp (pB q14.1 0) ?_
  refine sp (.bool false) ?_
  refine sp (.bool false) ?_
  refine sp (pB q14.1 0) ?_
  refine sp (pB q14.1 0) ?_
  refine sp (pB q14.1 0) ?_
  refine s_mem3 (fun H h => hp_open (h.re [0] [])) (fun mb21 tb22 tm23 hw => ?_)
  obtain ⟨hi24, ha25, ht26⟩ := hw
  refine s_memX (fun H h => all_focus hq18 ho16 (h.re [3] [])) (fun v27 _ => ?_)
  refine s_lt (t_load 0 (.int .i64 o13.kind)) ?_
  refine s_lt t_cmp ?_
  refine sp (.bool (decide (o13.kind ≠ 4))) ?_
  refine s_fork 19 (decide (o13.kind ≠ 4)) (fun c28 => ?_) (fun c28 => ?_)
  ·
   have p29 := of_decide_eq_true c28
   refine sp (pB q14.1 0) ?_
   refine sp (pB q14.1 0) ?_
   refine sp (pB q14.1 0) ?_
   refine s_lt (t_load 0 (.int .i64 o13.kind)) ?_
   refine s_lt t_cmp ?_
   refine sp (.bool (decide (o13.kind ≠ 8))) ?_
   refine sp (.bool (decide (o13.kind ≠ 8))) ?_
   refine sp (.bool (decide (o13.kind ≠ 8))) ?_
   refine s_fork 27 (decide (o13.kind ≠ 8)) (fun c30 => ?_) (fun c30 => ?_)
   ·
    have p31 := of_decide_eq_true c30
    refine s_skip ?_
    refine s_skip ?_
    refine s_skip ?_
    refine s_skip ?_
    refine s_skip ?_
    refine s_skip ?_
    refine s_skip ?_
    refine s_skip ?_
    refine s_skip ?_
    refine sp (.bool true) ?_
    refine s_nt ?_
    refine k_true ?_
    refine k_sr ?_
    refine sp (pB b 0) ?_
    refine s_vcall (fun _ h => hmiss_s (F := [])) ?_
    rintro _ rfl
    refine sp (.int .i64 8) ?_
    refine s_nt ?_
    refine k_ret ?_
    refine xs_ret ?_
    refine xs_fact (fun H h => (h.mp (i := 5) rfl).nodup) (fun hnd32 => ?_)
    refine xs_mem (fun _ h => (put_same ho16) ▸ all_unfocus (o' := o13) hnd32 hq18 ho16 (ob_shut (o := o13) (h.re [0, 0, 0, 0] []))) ?_
    refine xs_mem (Bs := allP ps3 st :: blkA b #[.map (some mb21), .int .i64 (st.objs.length : Int), .map (some tb22)] 90 :: mpA iK oV mb21 ps3 :: mpA iK bV tb22 tm23 :: blkA g2 #[.int .i64 m.kind, .int .i64 m.p, .int .i64 m.q, .string m.str, .int .i64 m.ref] 26 :: blkA g1 #[.int .i64 v.kind, .int .i64 v.p, .int .i64 v.q, .string v.str, .int .i64 v.ref] 26 :: F) (fun _ h => h) ?_
    refine xs_mem (fun _ h => hp_shut (st := st) (n := (st.objs.length : Int)) ⟨⟨hi24, ha25, ht26⟩, rfl⟩ (h.re [1, 1, 1, 0] [])) ?_
    refine xs_mem (fun _ h => hpA_shut (h.re [0] [])) ?_
    have hb : hmetaOk st v m = false := by unfold hmetaOk; rw [hf15]; simp_all
    refine xs_fin [.int .i64 8] (hpA b st :: F) (SI.tmp 6 SI.nil) (fun _ h => h.re [0] [1, 1]) ⟨?_, ?_⟩
    · unfold hsetMetaE; rw [hb]; rfl
    · unfold hsetMeta; rw [hb]; rfl
   ·
    have p33 := Decidable.not_not.1 (of_decide_eq_false c30)
    refine s_lt (t_loadA 7 #[.int .i64 m.kind, .int .i64 m.p, .int .i64 m.q, .string m.str, .int .i64 m.ref]) ?_
    refine s_lt (t_kern (.agg #[.int .i64 0, .int .i64 0, .int .i64 0, .string ByteArray.empty, .int .i64 0])) ?_
    refine s_lt (t_eqS (fun w => (eqVlT m zVl w).2)) ?_
    refine sp (.bool (!(decide (m = zVl)))) ?_
    refine s_fork 31 (!(decide (m = zVl))) (fun c34 => ?_) (fun c34 => ?_)
    ·
     have c35 := not_t c34
     have p36 := of_decide_eq_false c35
     refine sp (pB b 0) ?_
     refine s_lt (t_loadA 7 #[.int .i64 m.kind, .int .i64 m.p, .int .i64 m.q, .string m.str, .int .i64 m.ref]) ?_
     refine s_fact (fun H h => (h.mp (i := 5) rfl).nodup) (fun hnd37 => ?_)
     refine s_mem (fun _ h => (put_same ho16) ▸ all_unfocus (o' := o13) hnd37 hq18 ho16 (ob_shut (o := o13) (h.re [0, 0, 0, 0] []))) ?_
     refine s_mem (Bs := allP ps3 st :: blkA b #[.map (some mb21), .int .i64 (st.objs.length : Int), .map (some tb22)] 90 :: mpA iK oV mb21 ps3 :: mpA iK bV tb22 tm23 :: blkA g2 #[.int .i64 m.kind, .int .i64 m.p, .int .i64 m.q, .string m.str, .int .i64 m.ref] 26 :: blkA g1 #[.int .i64 v.kind, .int .i64 v.p, .int .i64 v.q, .string v.str, .int .i64 v.ref] 26 :: F) (fun _ h => h) ?_
     refine s_mem (fun _ h => hp_shut (st := st) (n := (st.objs.length : Int)) ⟨⟨hi24, ha25, ht26⟩, rfl⟩ (h.re [1, 1, 1, 0] [])) ?_
     refine s_call [0] (htab_s (st := st) (ps := ps3) m) ?_
     rintro u38 _ ⟨e39, rfl⟩
     rcases tb_cases ha6 m with ⟨ht40, hv41⟩ | ⟨o42, q43, ht44, ho45, hk46, hk47, hq48, hv49⟩
     ·
      rw [hv41] at e39; subst e39
      refine sp (.bool true) ?_
      refine sp (.bool true) ?_
      refine sp (.bool true) ?_
      refine s_nt ?_
      refine k_true ?_
      refine k_sr ?_
      refine sp (pB b 0) ?_
      refine s_vcall (fun _ h => hmiss_s (F := [])) ?_
      rintro _ rfl
      refine sp (.int .i64 8) ?_
      refine s_nt ?_
      refine k_ret ?_
      refine xs_ret ?_
      refine xs_mem (fun _ h => hpA_shut (h.re [0] [])) ?_
      have hb : hmetaOk st v m = false := by unfold hmetaOk; rw [hf15]; simp_all
      refine xs_fin [.int .i64 8] (hpA b st :: F) (SI.tmp 6 SI.nil) (fun _ h => h.re [0] [1, 1]) ⟨?_, ?_⟩
      · unfold hsetMetaE; rw [hb]; rfl
      · unfold hsetMeta; rw [hb]; rfl
     ·
      rw [hv49] at e39; subst e39
      refine sp (.bool false) ?_
      refine sp (.bool false) ?_
      refine sp (.bool false) ?_
      refine s_nt ?_
      refine k_false ?_
      refine k_st ?_
      refine k_sr ?_
      refine sp (pB q14.1 0) ?_
      refine s_lt (t_loadA 1 #[.int .i64 m.kind, .int .i64 m.p, .int .i64 m.q, .string m.str, .int .i64 m.ref]) ?_
      refine sp (pB q14.1 0) ?_
      refine sp (pB q14.1 4) ?_
      refine s_mem3 (fun H h => hp_open (h.re [0] [])) (fun mb50 tb51 tm52 hw => ?_)
      obtain ⟨hi53, ha54, ht55⟩ := hw
      refine s_memX (fun H h => all_focus hq18 ho16 (h.re [3] [])) (fun v56 _ => ?_)
      refine s_store 0 #[.int .i64 o13.kind, .int .i64 o13.tag, .string o13.name, (tabV q14 o13), .int .i64 m.kind, .int .i64 m.p, .int .i64 m.q, .string m.str, .int .i64 m.ref, v56] ?_
      refine s_nr ?_
      refine sp (pB b 0) ?_
      refine s_lt (t_loadA 8 #[.int .i64 v.kind, .int .i64 v.p, .int .i64 v.q, .string v.str, .int .i64 v.ref]) ?_
      refine s_fact (fun H h => (h.mp (i := 5) rfl).nodup) (fun hnd57 => ?_)
      refine s_mem (fun _ h => all_unfocus (o' := { o13 with mt := m }) hnd57 hq18 ho16 (ob_shut (o := { o13 with mt := m }) (h.re [0, 0, 0, 0] []))) ?_
      refine s_mem (Bs := allP ps3 (st.put v.ref { o13 with mt := m }) :: blkA b #[.map (some mb50), .int .i64 (st.objs.length : Int), .map (some tb51)] 90 :: mpA iK oV mb50 ps3 :: mpA iK bV tb51 tm52 :: blkA g2 #[.int .i64 m.kind, .int .i64 m.p, .int .i64 m.q, .string m.str, .int .i64 m.ref] 26 :: blkA g1 #[.int .i64 v.kind, .int .i64 v.p, .int .i64 v.q, .string v.str, .int .i64 v.ref] 26 :: F) (fun _ h => h) ?_
      have hob58 := hi53.obs o13 (get_mem ho16).1
      refine s_mem (fun _ h => hp_shut (st := (st.put v.ref { o13 with mt := m })) (n := (st.objs.length : Int)) ⟨⟨put_inv hi53 ⟨hob58.kind, hob58.tab, (fun a b => by exfalso; have a1 : o13.kind ≠ 4 := a; have b1 : o13.kind ≠ 8 := b; omega)⟩, ha54.put ho16, ht55.put ho16⟩, by rw [put_len]⟩ (h.re [1, 1, 1, 0] [])) ?_
      refine s_call [0] (htouch_s (st := (st.put v.ref { o13 with mt := m })) (ps := ps3) v (show Hst.get _ _ = some { o13 with mt := m } from by rw [get_put ho16, if_pos rfl]) 0) ?_
      rw [if_pos (rfl)]
      rintro _ _ ⟨rfl, rfl⟩
      refine sp (.int .i64 0) ?_
      refine s_nt ?_
      refine k_ret ?_
      refine xs_mem (fun _ h => hpA_shut (h.re [0] [])) ?_
      have hb : hmetaOk st v m = true := by unfold hmetaOk; rw [hf15]; simp_all
      refine xs_fin [.int .i64 0] (hpA b ((st.put v.ref { o13 with mt := m }).touch v.ref) :: F) (SI.tmp 6 SI.nil) (fun _ h => h.re [0] [1, 1]) ⟨?_, ?_⟩
      · unfold hsetMetaE; rw [hb]; rfl
      · unfold hsetMeta; rw [hb]; unfold Hst.setMt; rw [ho16]; rfl
    ·
     have c60 := not_f c34
     have p61 := of_decide_eq_true c60
     refine s_skip ?_
     refine s_skip ?_
     refine s_skip ?_
     refine s_skip ?_
     refine sp (.bool false) ?_
     refine sp (.bool false) ?_
     refine s_nt ?_
     refine k_false ?_
     refine k_st ?_
     refine k_sr ?_
     refine sp (pB q14.1 0) ?_
     refine s_lt (t_loadA 7 #[.int .i64 m.kind, .int .i64 m.p, .int .i64 m.q, .string m.str, .int .i64 m.ref]) ?_
     refine sp (pB q14.1 0) ?_
     refine sp (pB q14.1 4) ?_
     refine s_store 0 #[.int .i64 o13.kind, .int .i64 o13.tag, .string o13.name, (tabV q14 o13), .int .i64 m.kind, .int .i64 m.p, .int .i64 m.q, .string m.str, .int .i64 m.ref, v27] ?_
     refine s_nr ?_
     refine sp (pB b 0) ?_
     refine s_lt (t_loadA 8 #[.int .i64 v.kind, .int .i64 v.p, .int .i64 v.q, .string v.str, .int .i64 v.ref]) ?_
     refine s_fact (fun H h => (h.mp (i := 5) rfl).nodup) (fun hnd62 => ?_)
     refine s_mem (fun _ h => all_unfocus (o' := { o13 with mt := m }) hnd62 hq18 ho16 (ob_shut (o := { o13 with mt := m }) (h.re [0, 0, 0, 0] []))) ?_
     refine s_mem (Bs := allP ps3 (st.put v.ref { o13 with mt := m }) :: blkA b #[.map (some mb21), .int .i64 (st.objs.length : Int), .map (some tb22)] 90 :: mpA iK oV mb21 ps3 :: mpA iK bV tb22 tm23 :: blkA g2 #[.int .i64 m.kind, .int .i64 m.p, .int .i64 m.q, .string m.str, .int .i64 m.ref] 26 :: blkA g1 #[.int .i64 v.kind, .int .i64 v.p, .int .i64 v.q, .string v.str, .int .i64 v.ref] 26 :: F) (fun _ h => h) ?_
     have hob63 := hi24.obs o13 (get_mem ho16).1
     refine s_mem (fun _ h => hp_shut (st := (st.put v.ref { o13 with mt := m })) (n := (st.objs.length : Int)) ⟨⟨put_inv hi24 ⟨hob63.kind, hob63.tab, (fun a b => by exfalso; have a1 : o13.kind ≠ 4 := a; have b1 : o13.kind ≠ 8 := b; omega)⟩, ha25.put ho16, ht26.put ho16⟩, by rw [put_len]⟩ (h.re [1, 1, 1, 0] [])) ?_
     refine s_call [0] (htouch_s (st := (st.put v.ref { o13 with mt := m })) (ps := ps3) v (show Hst.get _ _ = some { o13 with mt := m } from by rw [get_put ho16, if_pos rfl]) 0) ?_
     rw [if_pos (rfl)]
     rintro _ _ ⟨rfl, rfl⟩
     refine sp (.int .i64 0) ?_
     refine s_nt ?_
     refine k_ret ?_
     refine xs_mem (fun _ h => hpA_shut (h.re [0] [])) ?_
     have hb : hmetaOk st v m = true := by unfold hmetaOk; rw [hf15]; simp_all
     refine xs_fin [.int .i64 0] (hpA b ((st.put v.ref { o13 with mt := m }).touch v.ref) :: F) (SI.tmp 6 SI.nil) (fun _ h => h.re [0] [1, 1]) ⟨?_, ?_⟩
     · unfold hsetMetaE; rw [hb]; rfl
     · unfold hsetMeta; rw [hb]; unfold Hst.setMt; rw [ho16]; rfl
  ·
   have p65 := Decidable.not_not.1 (of_decide_eq_false c28)
   refine s_skip ?_
   refine s_skip ?_
   refine s_skip ?_
   refine s_skip ?_
   refine s_skip ?_
   refine sp (.bool false) ?_
   refine sp (.bool false) ?_
   refine sp (.bool false) ?_
   refine s_lt (t_loadA 7 #[.int .i64 m.kind, .int .i64 m.p, .int .i64 m.q, .string m.str, .int .i64 m.ref]) ?_
   refine s_lt (t_kern (.agg #[.int .i64 0, .int .i64 0, .int .i64 0, .string ByteArray.empty, .int .i64 0])) ?_
   refine s_lt (t_eqS (fun w => (eqVlT m zVl w).2)) ?_
   refine sp (.bool (!(decide (m = zVl)))) ?_
   refine s_fork 31 (!(decide (m = zVl))) (fun c66 => ?_) (fun c66 => ?_)
   ·
    have c67 := not_t c66
    have p68 := of_decide_eq_false c67
    refine sp (pB b 0) ?_
    refine s_lt (t_loadA 7 #[.int .i64 m.kind, .int .i64 m.p, .int .i64 m.q, .string m.str, .int .i64 m.ref]) ?_
    refine s_fact (fun H h => (h.mp (i := 5) rfl).nodup) (fun hnd69 => ?_)
    refine s_mem (fun _ h => (put_same ho16) ▸ all_unfocus (o' := o13) hnd69 hq18 ho16 (ob_shut (o := o13) (h.re [0, 0, 0, 0] []))) ?_
    refine s_mem (Bs := allP ps3 st :: blkA b #[.map (some mb21), .int .i64 (st.objs.length : Int), .map (some tb22)] 90 :: mpA iK oV mb21 ps3 :: mpA iK bV tb22 tm23 :: blkA g2 #[.int .i64 m.kind, .int .i64 m.p, .int .i64 m.q, .string m.str, .int .i64 m.ref] 26 :: blkA g1 #[.int .i64 v.kind, .int .i64 v.p, .int .i64 v.q, .string v.str, .int .i64 v.ref] 26 :: F) (fun _ h => h) ?_
    refine s_mem (fun _ h => hp_shut (st := st) (n := (st.objs.length : Int)) ⟨⟨hi24, ha25, ht26⟩, rfl⟩ (h.re [1, 1, 1, 0] [])) ?_
    refine s_call [0] (htab_s (st := st) (ps := ps3) m) ?_
    rintro u70 _ ⟨e71, rfl⟩
    rcases tb_cases ha6 m with ⟨ht72, hv73⟩ | ⟨o74, q75, ht76, ho77, hk78, hk79, hq80, hv81⟩
    ·
     rw [hv73] at e71; subst e71
     refine sp (.bool true) ?_
     refine sp (.bool true) ?_
     refine sp (.bool true) ?_
     refine s_nt ?_
     refine k_true ?_
     refine k_sr ?_
     refine sp (pB b 0) ?_
     refine s_vcall (fun _ h => hmiss_s (F := [])) ?_
     rintro _ rfl
     refine sp (.int .i64 8) ?_
     refine s_nt ?_
     refine k_ret ?_
     refine xs_ret ?_
     refine xs_mem (fun _ h => hpA_shut (h.re [0] [])) ?_
     have hb : hmetaOk st v m = false := by unfold hmetaOk; rw [hf15]; simp_all
     refine xs_fin [.int .i64 8] (hpA b st :: F) (SI.tmp 6 SI.nil) (fun _ h => h.re [0] [1, 1]) ⟨?_, ?_⟩
     · unfold hsetMetaE; rw [hb]; rfl
     · unfold hsetMeta; rw [hb]; rfl
    ·
     rw [hv81] at e71; subst e71
     refine sp (.bool false) ?_
     refine sp (.bool false) ?_
     refine sp (.bool false) ?_
     refine s_nt ?_
     refine k_false ?_
     refine k_st ?_
     refine k_sr ?_
     refine sp (pB q14.1 0) ?_
     refine s_lt (t_loadA 1 #[.int .i64 m.kind, .int .i64 m.p, .int .i64 m.q, .string m.str, .int .i64 m.ref]) ?_
     refine sp (pB q14.1 0) ?_
     refine sp (pB q14.1 4) ?_
     refine s_mem3 (fun H h => hp_open (h.re [0] [])) (fun mb82 tb83 tm84 hw => ?_)
     obtain ⟨hi85, ha86, ht87⟩ := hw
     refine s_memX (fun H h => all_focus hq18 ho16 (h.re [3] [])) (fun v88 _ => ?_)
     refine s_store 0 #[.int .i64 o13.kind, .int .i64 o13.tag, .string o13.name, (tabV q14 o13), .int .i64 m.kind, .int .i64 m.p, .int .i64 m.q, .string m.str, .int .i64 m.ref, v88] ?_
     refine s_nr ?_
     refine sp (pB b 0) ?_
     refine s_lt (t_loadA 8 #[.int .i64 v.kind, .int .i64 v.p, .int .i64 v.q, .string v.str, .int .i64 v.ref]) ?_
     refine s_fact (fun H h => (h.mp (i := 5) rfl).nodup) (fun hnd89 => ?_)
     refine s_mem (fun _ h => all_unfocus (o' := { o13 with mt := m }) hnd89 hq18 ho16 (ob_shut (o := { o13 with mt := m }) (h.re [0, 0, 0, 0] []))) ?_
     refine s_mem (Bs := allP ps3 (st.put v.ref { o13 with mt := m }) :: blkA b #[.map (some mb82), .int .i64 (st.objs.length : Int), .map (some tb83)] 90 :: mpA iK oV mb82 ps3 :: mpA iK bV tb83 tm84 :: blkA g2 #[.int .i64 m.kind, .int .i64 m.p, .int .i64 m.q, .string m.str, .int .i64 m.ref] 26 :: blkA g1 #[.int .i64 v.kind, .int .i64 v.p, .int .i64 v.q, .string v.str, .int .i64 v.ref] 26 :: F) (fun _ h => h) ?_
     have hob90 := hi85.obs o13 (get_mem ho16).1
     refine s_mem (fun _ h => hp_shut (st := (st.put v.ref { o13 with mt := m })) (n := (st.objs.length : Int)) ⟨⟨put_inv hi85 ⟨hob90.kind, hob90.tab, (fun a b => by exfalso; have a1 : o13.kind ≠ 4 := a; have b1 : o13.kind ≠ 8 := b; omega)⟩, ha86.put ho16, ht87.put ho16⟩, by rw [put_len]⟩ (h.re [1, 1, 1, 0] [])) ?_
     refine s_call [0] (htouch_s (st := (st.put v.ref { o13 with mt := m })) (ps := ps3) v (show Hst.get _ _ = some { o13 with mt := m } from by rw [get_put ho16, if_pos rfl]) 0) ?_
     rw [if_pos (rfl)]
     rintro _ _ ⟨rfl, rfl⟩
     refine sp (.int .i64 0) ?_
     refine s_nt ?_
     refine k_ret ?_
     refine xs_mem (fun _ h => hpA_shut (h.re [0] [])) ?_
     have hb : hmetaOk st v m = true := by unfold hmetaOk; rw [hf15]; simp_all
     refine xs_fin [.int .i64 0] (hpA b ((st.put v.ref { o13 with mt := m }).touch v.ref) :: F) (SI.tmp 6 SI.nil) (fun _ h => h.re [0] [1, 1]) ⟨?_, ?_⟩
     · unfold hsetMetaE; rw [hb]; rfl
     · unfold hsetMeta; rw [hb]; unfold Hst.setMt; rw [ho16]; rfl
   ·
    have c92 := not_f c66
    have p93 := of_decide_eq_true c92
    refine s_skip ?_
    refine s_skip ?_
    refine s_skip ?_
    refine s_skip ?_
    refine sp (.bool false) ?_
    refine sp (.bool false) ?_
    refine s_nt ?_
    refine k_false ?_
    refine k_st ?_
    refine k_sr ?_
    refine sp (pB q14.1 0) ?_
    refine s_lt (t_loadA 7 #[.int .i64 m.kind, .int .i64 m.p, .int .i64 m.q, .string m.str, .int .i64 m.ref]) ?_
    refine sp (pB q14.1 0) ?_
    refine sp (pB q14.1 4) ?_
    refine s_store 0 #[.int .i64 o13.kind, .int .i64 o13.tag, .string o13.name, (tabV q14 o13), .int .i64 m.kind, .int .i64 m.p, .int .i64 m.q, .string m.str, .int .i64 m.ref, v27] ?_
    refine s_nr ?_
    refine sp (pB b 0) ?_
    refine s_lt (t_loadA 8 #[.int .i64 v.kind, .int .i64 v.p, .int .i64 v.q, .string v.str, .int .i64 v.ref]) ?_
    refine s_fact (fun H h => (h.mp (i := 5) rfl).nodup) (fun hnd94 => ?_)
    refine s_mem (fun _ h => all_unfocus (o' := { o13 with mt := m }) hnd94 hq18 ho16 (ob_shut (o := { o13 with mt := m }) (h.re [0, 0, 0, 0] []))) ?_
    refine s_mem (Bs := allP ps3 (st.put v.ref { o13 with mt := m }) :: blkA b #[.map (some mb21), .int .i64 (st.objs.length : Int), .map (some tb22)] 90 :: mpA iK oV mb21 ps3 :: mpA iK bV tb22 tm23 :: blkA g2 #[.int .i64 m.kind, .int .i64 m.p, .int .i64 m.q, .string m.str, .int .i64 m.ref] 26 :: blkA g1 #[.int .i64 v.kind, .int .i64 v.p, .int .i64 v.q, .string v.str, .int .i64 v.ref] 26 :: F) (fun _ h => h) ?_
    have hob95 := hi24.obs o13 (get_mem ho16).1
    refine s_mem (fun _ h => hp_shut (st := (st.put v.ref { o13 with mt := m })) (n := (st.objs.length : Int)) ⟨⟨put_inv hi24 ⟨hob95.kind, hob95.tab, (fun a b => by exfalso; have a1 : o13.kind ≠ 4 := a; have b1 : o13.kind ≠ 8 := b; omega)⟩, ha25.put ho16, ht26.put ho16⟩, by rw [put_len]⟩ (h.re [1, 1, 1, 0] [])) ?_
    refine s_call [0] (htouch_s (st := (st.put v.ref { o13 with mt := m })) (ps := ps3) v (show Hst.get _ _ = some { o13 with mt := m } from by rw [get_put ho16, if_pos rfl]) 0) ?_
    rw [if_pos (rfl)]
    rintro _ _ ⟨rfl, rfl⟩
    refine sp (.int .i64 0) ?_
    refine s_nt ?_
    refine k_ret ?_
    refine xs_mem (fun _ h => hpA_shut (h.re [0] [])) ?_
    have hb : hmetaOk st v m = true := by unfold hmetaOk; rw [hf15]; simp_all
    refine xs_fin [.int .i64 0] (hpA b ((st.put v.ref { o13 with mt := m }).touch v.ref) :: F) (SI.tmp 6 SI.nil) (fun _ h => h.re [0] [1, 1]) ⟨?_, ?_⟩
    · unfold hsetMetaE; rw [hb]; rfl
    · unfold hsetMeta; rw [hb]; unfold Hst.setMt; rw [ho16]; rfl
theorem all_add {Z : Zone} {F : List Asr} {H : Heap} {st : Hst} {ps : List (Int × (Nat × Nat))} {q : Nat × Nat} {o : Hob} (ha : HA ps st) (hf : st.count < 65536) (hi : (ps.map Prod.fst).Nodup) (h : Holds Z (obP q o :: allP ps st :: F) H) : Holds Z (allP (aset ps ((st.objs.length : Int) + 1) q) (hmake st o) :: F) H := by
  have hnone : apos ps ((st.objs.length : Int) + 1) = none := by
    have := ha.has ((st.objs.length : Int) + 1)
    rw [get_end] at this
    cases hp : apos ps ((st.objs.length : Int) + 1) with
    | none => rfl
    | some i => obtain ⟨_, y, _, h2⟩ := Go.Mem.apos_lt hp; rw [h2] at this; cases this
  have e0 : hmake st o = ⟨st.objs ++ [some o], st.tch ++ [true]⟩ := by unfold hmake; rw [if_neg (by omega)]
  unfold allP
  rw [Go.Mem.aset_new hnone, List.map_append, List.map_cons, List.map_nil]
  have e1 : (hmake st o).ob ((st.objs.length : Int) + 1) = o := by
    unfold Hst.ob; rw [e0, get_snoc, if_pos rfl]; rfl
  have e2 : ps.map (fun p => obP p.2 ((hmake st o).ob p.1)) = ps.map fun p => obP p.2 (st.ob p.1) := by
    refine List.map_congr_left fun p hp => ?_
    have hne : p.1 ≠ (st.objs.length : Int) + 1 := fun e => by
      have := (Go.Mem.aget_none_iff ps ((st.objs.length : Int) + 1)).1 (Go.Mem.apos_none hnone)
      exact this (List.mem_map.2 ⟨p, hp, e⟩)
    unfold Hst.ob; rw [e0, get_snoc, if_neg hne]
  rw [e2]
  show Holds Z (star (_ ++ [obP q ((hmake st o).ob _)]) :: F) H
  rw [e1]
  exact Holds.star_add h
theorem hmake_len {st : Hst} {o : Hob} (hf : st.count < 65536) : (hmake st o).objs.length = st.objs.length + 1 := by unfold hmake; rw [if_neg (by omega)]; simp
theorem hmakeV_full {st : Hst} {k : Int} (hf : 65536 ≤ st.count) : hmakeV st k = zVl ∧ hmakeE st = 17 := by unfold hmakeV hmakeE; rw [if_pos hf, if_pos hf]; exact ⟨rfl, rfl⟩
theorem hmakeV_ok {st : Hst} {k : Int} (hf : st.count < 65536) : hmakeV st k = refV k ((st.objs.length : Int) + 1) ∧ hmakeE st = 0 := by unfold hmakeV hmakeE; rw [if_neg (by omega), if_neg (by omega)]; exact ⟨rfl, rfl⟩
theorem hmake_full {st : Hst} {o : Hob} (hf : 65536 ≤ st.count) : hmake st o = st := by unfold hmake; rw [if_pos hf]
theorem hcreate_s {Z : Zone} {F : List Asr} {b : Nat} {st : Hst} {ps : List (Int × (Nat × Nat))} {q : Nat × Nat} {o : Hob} (hob : ObInv o) (hl : st.objs.length ≤ 1000000) : SF Tryz.prog 70 #[.pointer (some ⟨b, 0, none⟩), ptrV q.1] Z (hpP b st ps :: obP q o :: F) fun r Bs => r = pairV (hmakeV st o.kind) (hmakeE st) ∧ Bs = hpA b (hmake st o) :: F := by
 refine sf_enter Tryz.func70 46 [(0, pB b 0), (1, pB q.1 0)] (fun w0 => ?_)
 refine k_mem3 (fun H h => hp_open (h.re [0] [])) (fun mb1 tb2 tm3 hw => ?_)
 obtain ⟨hi4, ha5, ht6⟩ := hw
 refine k_fact (fun H h => (h.mp (i := 1) rfl).nodup) (fun hnd0 => ?_)
 have hlen := ha5.len
 refine k_sr ?_
 refine s_alloc (.agg #[.int .i64 0, .int .i64 0, .int .i64 0, .string ByteArray.empty, .int .i64 0]) #[.int .i64 0, .int .i64 0, .int .i64 0, .string ByteArray.empty, .int .i64 0] (fun g7 => ?_)
 refine sp (.int .i64 0) ?_
 refine s_nt ?_
 refine k_seq ?_
 refine k_sr ?_
 refine sp (pB b 0) ?_
 refine sp (pB b 0) ?_
 refine sp (pB b 0) ?_
 refine s_lt (t_load 1 (.map (some mb1))) ?_
 refine s_lt (t_lenM 2 Tryz.underlying87) ?_
 refine s_lt t_cmp ?_
 refine s_nt ?_
 refine k_cond (decide ((65536 : Int) ≤ (ps.length : Int))) (fun c8 => ?_) (fun c8 => ?_)
 ·
  have p9 := of_decide_eq_true c8
  refine k_sr ?_
  refine s_lt (t_kern (.agg #[.int .i64 0, .int .i64 0, .int .i64 0, .string ByteArray.empty, .int .i64 0])) ?_
  refine s_store 0 #[.int .i64 0, .int .i64 0, .int .i64 0, .string ByteArray.empty, .int .i64 0] ?_
  refine sp (.int .i64 17) ?_
  refine s_nt ?_
  refine k_ret ?_
  refine xs_ret ?_
  refine xs_mem (fun _ h => hp_shut (st := st) (n := (st.objs.length : Int)) ⟨⟨hi4, ha5, ht6⟩, rfl⟩ (h.re [1, 1, 1, 1] [])) ?_
  have hf : 65536 ≤ st.count := by omega
  refine xs_fin [.agg #[.int .i64 0, .int .i64 0, .int .i64 0, .string ByteArray.empty, .int .i64 0], .int .i64 17] (hpA b st :: F) (SI.agg 4 26 1 (SI.tmp 5 SI.nil)) (fun _ h => hpA_shut (h.re [0] [1, 1])) ⟨?_, ?_⟩
  · rw [(hmakeV_full hf).1, (hmakeV_full (k := 0) hf).2]; rfl
  · rw [hmake_full hf]
 ·
  have p10 := of_decide_eq_false c8
  refine k_st ?_
  refine k_sr ?_
  refine sp (pB b 0) ?_
  refine sp (pB b 0) ?_
  refine sp (pB b 1) ?_
  refine s_lt (t_load 1 (.int .i64 (st.objs.length : Int))) ?_
  refine s_lt (t_add (st.objs.length : Int) 1 (by (try simp only [lnm]); omega)) ?_
  refine sp (pB b 0) ?_
  refine sp (pB b 1) ?_
  refine s_store 1 #[.map (some mb1), .int .i64 ((st.objs.length : Int) + 1), .map (some tb2)] ?_
  refine s_nt ?_
  refine k_seq ?_
  refine k_draw ?_
  refine sp (pB b 0) ?_
  refine sp (pB b 0) ?_
  refine sp (pB b 0) ?_
  refine s_lt (t_load 1 (.map (some mb1))) ?_
  refine sp (pB b 0) ?_
  refine sp (pB b 0) ?_
  refine sp (pB b 1) ?_
  refine s_lt (t_load 1 (.int .i64 ((st.objs.length : Int) + 1))) ?_
  refine sp (pB q.1 0) ?_
  refine s_update 2 intOk Tryz.underlying87 ((st.objs.length : Int) + 1) q ?_
  refine s_nil ?_
  refine x_dynS (fun _ h => by kernel_rfl) ?_
  refine xs_then ?_
  refine k_seq ?_
  refine k_draw ?_
  refine sp (pB b 0) ?_
  refine sp (pB b 0) ?_
  refine sp (pB b 2) ?_
  refine s_lt (t_load 1 (.map (some tb2))) ?_
  refine sp (pB b 0) ?_
  refine sp (pB b 0) ?_
  refine sp (pB b 1) ?_
  refine s_lt (t_load 1 (.int .i64 ((st.objs.length : Int) + 1))) ?_
  refine s_update 3 intOk Tryz.underlying88 ((st.objs.length : Int) + 1) true ?_
  refine s_nil ?_
  refine x_dynS (fun _ h => by kernel_rfl) ?_
  refine xs_then ?_
  refine k_seq ?_
  refine k_draw ?_
  refine sp (pB q.1 0) ?_
  refine sp (pB q.1 0) ?_
  refine sp (pB q.1 0) ?_
  refine s_memX (fun H h => ob_open (h.re [5] [])) (fun v11 hw => ?_)
  refine s_lt (t_load 0 (.int .i64 o.kind)) ?_
  refine sp (pB b 0) ?_
  refine sp (pB b 0) ?_
  refine sp (pB b 1) ?_
  refine s_lt (t_load 4 (.int .i64 ((st.objs.length : Int) + 1))) ?_
  refine s_lt (t_kern (.agg #[.int .i64 o.kind, .int .i64 0, .int .i64 0, .string ByteArray.empty, .int .i64 ((st.objs.length : Int) + 1)])) ?_
  refine s_store 3 #[.int .i64 o.kind, .int .i64 0, .int .i64 0, .string ByteArray.empty, .int .i64 ((st.objs.length : Int) + 1)] ?_
  refine sp (.int .i64 0) ?_
  refine s_nil ?_
  refine x_dynS (fun _ h => by kernel_rfl) ?_
  refine xs_then ?_
  refine k_ret ?_
  refine xs_mem (fun _ h => ob_shut (o := o) (h.re [0, 0, 0] [])) ?_
  have hf : st.count < 65536 := by omega
  refine xs_fact (fun H h => hnd0) (fun hnd => ?_)
  refine xs_mem (fun _ h => all_add ha5 hf hnd (h.re [0, 4] [])) ?_
  refine xs_mem (fun _ h => hp_shut (st := (hmake st o)) (n := ((st.objs.length : Int) + 1)) ⟨⟨hmake_inv hi4 hob, HA.make ha5 o q hf, TA.make ht6 hi4 o hf⟩, by rw [hmake_len hf]; rfl⟩ (h.re [2, 2, 2, 0] [])) ?_
  refine xs_fin [.agg #[.int .i64 o.kind, .int .i64 0, .int .i64 0, .string ByteArray.empty, .int .i64 ((st.objs.length : Int) + 1)], .int .i64 0] (hpA b (hmake st o) :: F) (SI.agg 4 26 1 (SI.tmp 5 SI.nil)) (fun _ h => hpA_shut (h.re [0] [1])) ⟨?_, rfl⟩
  rw [(hmakeV_ok hf).1, (hmakeV_ok (k := 0) hf).2]; rfl
theorem hnewtable_s {Z : Zone} {F : List Asr} {b : Nat} {st : Hst} (hl : st.objs.length ≤ 1000000) : SF Tryz.prog 21 #[.pointer (some ⟨b, 0, none⟩)] Z (hpA b st :: F) fun r Bs => r = pairV (hmakeV st 4) (hmakeE st) ∧ Bs = hpA b (hmake st (newO 4 0 ByteArray.empty [])) :: F := by
 refine sf_enter Tryz.func21 14 [(0, pB b 0)] (fun w0 => ?_)
 refine k_sr ?_
 refine s_alloc (.agg #[.int .i64 0, .int .i64 0, .int .i64 0, .string ByteArray.empty, .int .i64 0]) #[.int .i64 0, .int .i64 0, .int .i64 0, .string ByteArray.empty, .int .i64 0] (fun g1 => ?_)
 refine sp (.int .i64 0) ?_
 refine s_nt ?_
 refine k_seq ?_
 refine k_sr ?_
 refine sp (pB b 0) ?_
 refine sp (.bool false) ?_
 refine s_nt ?_
 refine k_false ?_
 refine k_st ?_
 refine k_sr ?_
 refine sp (pB b 0) ?_
 refine s_pcall (fun _ h => tbnew_s) ?_
 rintro _ _ ⟨tg2, rfl, rfl⟩
 refine s_lt (t_kern (.agg #[.int .i64 4, .int .i64 0, .string ByteArray.empty, pB tg2 0, .int .i64 0, .int .i64 0, .int .i64 0, .string ByteArray.empty, .int .i64 0, (.slice none 0 0)])) ?_
 refine s_box #[.int .i64 4, .int .i64 0, .string ByteArray.empty, pB tg2 0, .int .i64 0, .int .i64 0, .int .i64 0, .string ByteArray.empty, .int .i64 0, (.slice none 0 0)] (fun g3 => ?_)
 refine s_memX (fun H h => hpA_open (h.re [3] [])) (fun ps4 _ => ?_)
 refine s_fact (fun H h => hp_facts (h.re [0] [])) (fun hf5 => ?_)
 obtain ⟨hi6, ha7⟩ := hf5
 refine s_mem (fun _ h => Holds.nilS (T := VlT) h) ?_
 refine s_mem (fun _ h => tabO_shut (q := (g3, tg2)) (o := (newO 4 0 ByteArray.empty [])) (T := noTb) rfl (h.re [3] [])) ?_
 refine s_mem (fun _ h => ob_shut (q := (g3, tg2)) (o := (newO 4 0 ByteArray.empty [])) (h.re [3, 1, 0] [])) ?_
 refine s_call [1, 0] (hcreate_s (st := st) (ps := ps4) (q := (g3, tg2)) (o := (newO 4 0 ByteArray.empty [])) (newO_inv _ _ _ (by decide)) (by omega)) ?_
 rintro _ _ ⟨rfl, rfl⟩
 refine sp (.agg #[.int .i64 ((hmakeV st 4).kind), .int .i64 ((hmakeV st 4).p), .int .i64 ((hmakeV st 4).q), .string ((hmakeV st 4).str), .int .i64 ((hmakeV st 4).ref)]) ?_
 refine sp (.int .i64 (hmakeE st)) ?_
 refine s_store 1 #[.int .i64 ((hmakeV st 4).kind), .int .i64 ((hmakeV st 4).p), .int .i64 ((hmakeV st 4).q), .string ((hmakeV st 4).str), .int .i64 ((hmakeV st 4).ref)] ?_
 refine sp (.int .i64 (hmakeE st)) ?_
 refine s_nt ?_
 refine k_ret ?_
 exact xs_fin [.agg #[.int .i64 ((hmakeV st 4).kind), .int .i64 ((hmakeV st 4).p), .int .i64 ((hmakeV st 4).q), .string ((hmakeV st 4).str), .int .i64 ((hmakeV st 4).ref)], .int .i64 (hmakeE st)] (hpA b (hmake st (newO 4 0 ByteArray.empty [])) :: F) (SI.agg 2 26 1 (SI.tmp 3 SI.nil)) (fun _ h => h.re [0] [1]) ⟨rfl, rfl⟩
theorem hnewfunc_s {Z : Zone} {F : List Asr} {b : Nat} {st : Hst} (hl : st.objs.length ≤ 1000000) (tag : Int) : SF Tryz.prog 29 #[.pointer (some ⟨b, 0, none⟩), .int .i64 tag] Z (hpA b st :: F) fun r Bs => r = pairV (hmakeV st 5) (hmakeE st) ∧ Bs = hpA b (hmake st (newO 5 tag ByteArray.empty [])) :: F := by
 refine sf_enter Tryz.func29 16 [(0, pB b 0), (1, .int .i64 tag)] (fun w0 => ?_)
 refine k_sr ?_
 refine s_alloc (.agg #[.int .i64 0, .int .i64 0, .int .i64 0, .string ByteArray.empty, .int .i64 0]) #[.int .i64 0, .int .i64 0, .int .i64 0, .string ByteArray.empty, .int .i64 0] (fun g1 => ?_)
 refine sp (.int .i64 0) ?_
 refine s_nt ?_
 refine k_seq ?_
 refine k_sr ?_
 refine sp (pB b 0) ?_
 refine sp (.bool false) ?_
 refine s_nt ?_
 refine k_false ?_
 refine k_st ?_
 refine k_sr ?_
 refine sp (pB b 0) ?_
 refine sp (.int .i64 tag) ?_
 refine s_lt (t_kern (.agg #[.int .i64 5, .int .i64 tag, .string ByteArray.empty, .pointer none, .int .i64 0, .int .i64 0, .int .i64 0, .string ByteArray.empty, .int .i64 0, (.slice none 0 0)])) ?_
 refine s_box #[.int .i64 5, .int .i64 tag, .string ByteArray.empty, .pointer none, .int .i64 0, .int .i64 0, .int .i64 0, .string ByteArray.empty, .int .i64 0, (.slice none 0 0)] (fun g2 => ?_)
 refine s_memX (fun H h => hpA_open (h.re [2] [])) (fun ps3 _ => ?_)
 refine s_fact (fun H h => hp_facts (h.re [0] [])) (fun hf4 => ?_)
 obtain ⟨hi5, ha6⟩ := hf4
 refine s_mem (fun _ h => Holds.nilS (T := VlT) h) ?_
 refine s_mem (fun _ h => tabO_none (q := (g2, 0)) (o := (newO 5 tag ByteArray.empty [])) (show (5 : Int) ≠ 4 by decide) h) ?_
 refine s_mem (fun _ h => ob_shut (q := (g2, 0)) (o := (newO 5 tag ByteArray.empty [])) (h.re [3, 1, 0] [])) ?_
 refine s_call [1, 0] (hcreate_s (st := st) (ps := ps3) (q := (g2, 0)) (o := (newO 5 tag ByteArray.empty [])) (newO_inv _ _ _ (by decide)) (by omega)) ?_
 rintro _ _ ⟨rfl, rfl⟩
 refine sp (.agg #[.int .i64 ((hmakeV st 5).kind), .int .i64 ((hmakeV st 5).p), .int .i64 ((hmakeV st 5).q), .string ((hmakeV st 5).str), .int .i64 ((hmakeV st 5).ref)]) ?_
 refine sp (.int .i64 (hmakeE st)) ?_
 refine s_store 1 #[.int .i64 ((hmakeV st 5).kind), .int .i64 ((hmakeV st 5).p), .int .i64 ((hmakeV st 5).q), .string ((hmakeV st 5).str), .int .i64 ((hmakeV st 5).ref)] ?_
 refine sp (.int .i64 (hmakeE st)) ?_
 refine s_nt ?_
 refine k_ret ?_
 exact xs_fin [.agg #[.int .i64 ((hmakeV st 5).kind), .int .i64 ((hmakeV st 5).p), .int .i64 ((hmakeV st 5).q), .string ((hmakeV st 5).str), .int .i64 ((hmakeV st 5).ref)], .int .i64 (hmakeE st)] (hpA b (hmake st (newO 5 tag ByteArray.empty [])) :: F) (SI.agg 4 26 1 (SI.tmp 5 SI.nil)) (fun _ h => h.re [0] [1]) ⟨rfl, rfl⟩
def hdataV (st : Hst) (name : ByteArray) : Vl := if 40 < (name.size : Int) then zVl else hmakeV st 8
def hdataE (st : Hst) (name : ByteArray) : Int := if 40 < (name.size : Int) then 14 else hmakeE st
def hdata (st : Hst) (name : ByteArray) : Hst := if 40 < (name.size : Int) then st else hmake st (newO 8 0 name (List.replicate 16 zVl))
theorem hnewdata_s {Z : Zone} {F : List Asr} {b : Nat} {st : Hst} (hl : st.objs.length ≤ 1000000) (name : ByteArray) : SF Tryz.prog 27 #[.pointer (some ⟨b, 0, none⟩), .string name] Z (hpA b st :: F) fun r Bs => r = pairV (hdataV st name) (hdataE st name) ∧ Bs = hpA b (hdata st name) :: F := by
 refine sf_enter Tryz.func27 23 [(0, pB b 0), (1, .string name)] (fun w0 => ?_)
 refine k_sr ?_
 refine s_alloc (.agg #[.int .i64 0, .int .i64 0, .int .i64 0, .string ByteArray.empty, .int .i64 0]) #[.int .i64 0, .int .i64 0, .int .i64 0, .string ByteArray.empty, .int .i64 0] (fun g1 => ?_)
 refine sp (.int .i64 0) ?_
 refine s_nt ?_
 refine k_seq ?_
 refine k_block ?_
 refine k_sr ?_
 refine sp (pB b 0) ?_
 refine sp (.bool false) ?_
 refine sp (.bool false) ?_
 refine s_nt ?_
 refine k_false ?_
 refine k_sr ?_
 refine sp (.string name) ?_
 refine s_lt (t_kern (.int .i64 (name.size : Int))) ?_
 refine s_lt t_cmp ?_
 refine sp (.bool (decide ((40 : Int) < (name.size : Int)))) ?_
 refine s_nt ?_
 refine k_cond (decide ((40 : Int) < (name.size : Int))) (fun c2 => ?_) (fun c2 => ?_)
 ·
  have p3 := of_decide_eq_true c2
  refine k_sr ?_
  refine s_lt (t_kern (.agg #[.int .i64 0, .int .i64 0, .int .i64 0, .string ByteArray.empty, .int .i64 0])) ?_
  refine s_store 0 #[.int .i64 0, .int .i64 0, .int .i64 0, .string ByteArray.empty, .int .i64 0] ?_
  refine sp (.int .i64 14) ?_
  refine s_nt ?_
  refine k_ret ?_
  refine xs_retBlock ?_
  refine xs_ret ?_
  have hp := of_decide_eq_true c2
  refine xs_fin [.agg #[.int .i64 0, .int .i64 0, .int .i64 0, .string ByteArray.empty, .int .i64 0], .int .i64 14] (hpA b st :: F) (SI.agg 4 26 0 (SI.tmp 5 SI.nil)) (fun _ h => h.re [1] [1]) ⟨?_, ?_⟩
  · unfold hdataV hdataE; rw [if_pos hp, if_pos hp]; rfl
  · unfold hdata; rw [if_pos hp]
 ·
  have p4 := of_decide_eq_false c2
  refine k_skip ?_
  refine xs_block ?_
  refine xs_then ?_
  refine k_sr ?_
  refine sp (pB b 0) ?_
  refine sp (.string name) ?_
  refine s_make VlT_ok Tryz.underlying33 16 (by omega) (by show 48 * _ ≤ _; omega) (by omega) (fun v5 => ?_)
  refine s_fact (fun H h => ((Acc.own (T := VlT) (L := (List.replicate 16 VlT.zero)) 0 rfl) H h).form) (fun hf6 => ?_)
  refine s_lt (show Lt _ _ _ _ _ (.agg #[.int .i64 8, .int .i64 0, .string name, .pointer none, .int .i64 0, .int .i64 0, .int .i64 0, .string ByteArray.empty, .int .i64 0, v5]) from by obtain ⟨_, _, e⟩ := hf6; rw [e]; clear e; exact t_kern _) ?_
  refine s_box #[.int .i64 8, .int .i64 0, .string name, .pointer none, .int .i64 0, .int .i64 0, .int .i64 0, .string ByteArray.empty, .int .i64 0, v5] (fun g7 => ?_)
  refine s_memX (fun H h => hpA_open (h.re [3] [])) (fun ps8 _ => ?_)
  refine s_fact (fun H h => hp_facts (h.re [0] [])) (fun hf9 => ?_)
  obtain ⟨hi10, ha11⟩ := hf9
  refine s_mem (fun _ h => tabO_none (q := (g7, 0)) (o := (newO 8 0 name (List.replicate 16 VlT.zero))) (show (8 : Int) ≠ 4 by decide) h) ?_
  refine s_mem (fun _ h => ob_shut (q := (g7, 0)) (o := (newO 8 0 name (List.replicate 16 VlT.zero))) (h.re [2, 2, 0] [])) ?_
  refine s_call [1, 0] (hcreate_s (st := st) (ps := ps8) (q := (g7, 0)) (o := (newO 8 0 name (List.replicate 16 VlT.zero))) (newO_inv _ _ _ (by decide)) (by omega)) ?_
  rintro _ _ ⟨rfl, rfl⟩
  refine sp (.agg #[.int .i64 ((hmakeV st 8).kind), .int .i64 ((hmakeV st 8).p), .int .i64 ((hmakeV st 8).q), .string ((hmakeV st 8).str), .int .i64 ((hmakeV st 8).ref)]) ?_
  refine sp (.int .i64 (hmakeE st)) ?_
  refine s_store 1 #[.int .i64 ((hmakeV st 8).kind), .int .i64 ((hmakeV st 8).p), .int .i64 ((hmakeV st 8).q), .string ((hmakeV st 8).str), .int .i64 ((hmakeV st 8).ref)] ?_
  refine sp (.int .i64 (hmakeE st)) ?_
  refine s_nt ?_
  refine k_ret ?_
  have hp := of_decide_eq_false c2
  refine xs_fin [.agg #[.int .i64 ((hmakeV st 8).kind), .int .i64 ((hmakeV st 8).p), .int .i64 ((hmakeV st 8).q), .string ((hmakeV st 8).str), .int .i64 ((hmakeV st 8).ref)], .int .i64 (hmakeE st)] (hpA b (hmake st (newO 8 0 name (List.replicate 16 VlT.zero))) :: F) (SI.agg 4 26 1 (SI.tmp 5 SI.nil)) (fun _ h => h.re [0] [1]) ⟨?_, ?_⟩
  · unfold hdataV hdataE; rw [if_neg hp, if_neg hp]; rfl
  · unfold hdata; rw [if_neg hp]; rfl
theorem hnew_s {Z : Zone} : SF Tryz.prog 20 #[] Z [] fun r Bs => ∃ b, r = .pointer (some ⟨b, 0, none⟩) ∧ Bs = [hpA b hp0] := by
 refine sf_enter Tryz.func20 5 [] (fun w0 => ?_)
 refine k_sr ?_
 refine sp (.pointer none) ?_
 refine s_nr ?_
 refine s_makeMap iK oV (fun b1 => ?_)
 refine s_makeMap iK bV (fun b2 => ?_)
 refine s_lt (t_kern (.agg #[.map (some b1), .int .i64 0, .map (some b2)])) ?_
 refine s_box #[.map (some b1), .int .i64 0, .map (some b2)] (fun g3 => ?_)
 refine sp (pB g3 0) ?_
 refine s_nt ?_
 refine k_ret ?_
 refine xs_fin [pB g3 0] [hpA g3 hp0] (SI.tmp 0 SI.nil) (fun _ h => hpA_shut (ps := []) (hp_shut (b := g3) (st := hp0) (tm := []) ⟨⟨HInv.nil, HA.nil, TA.nil⟩, rfl⟩ ((Holds.star_nil h).re [1, 2, 1, 0] []))) ⟨g3, rfl, rfl⟩
end Go.Proofs.YtplkkhpokodbmaaGreatDoor
end
