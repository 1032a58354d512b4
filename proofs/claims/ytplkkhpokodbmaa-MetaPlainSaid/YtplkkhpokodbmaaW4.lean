/-
  Tables of the reference. Each law says its conditions.
-/
import Derived.Test.YtplkkhpokodbmaaW3
set_option linter.unusedSimpArgs false
set_option linter.unusedVariables false
set_option maxRecDepth 100000
set_option maxHeartbeats 2000000
namespace Go.Proofs.Ytplkkhpokodbmaa
open Go.Hp Go.J Go.S
open Go.Mem (Ty KTy blk elemAt pre suf blk_pre blk_suf aget aset strK aggDesc)
open Go.Mem (adel apos aget_aset aget_adel)
/-- A table of the reference in memory. -/
def rtA (b : Nat) (L : List Vl) (S : List Slt) : Asr := exA fun lv => exA fun r => stA True [blkA b #[lv, .pointer (some ⟨r, 0, none⟩)] 128, own VlT lv L, rmA r S]
theorem rt_open {b : Nat} {L : List Vl} {S : List Slt} {Z : Zone} {F : List Asr} {H : Heap} (h : Holds Z (rtA b L S :: F) H) : ∃ (lv : Value) (r : Nat), True ∧ Holds Z (blkA b #[lv, .pointer (some ⟨r, 0, none⟩)] 128 :: own VlT lv L :: rmA r S :: F) H := by
  obtain ⟨lv, h⟩ := h.open_ex
  obtain ⟨r, h⟩ := h.open_ex
  exact ⟨lv, r, h.open_st⟩
theorem rt_shut {b : Nat} {L : List Vl} {S : List Slt} {Z : Zone} {F : List Asr} {H : Heap} {lv : Value} {r : Nat} (h : Holds Z (blkA b #[lv, .pointer (some ⟨r, 0, none⟩)] 128 :: own VlT lv L :: rmA r S :: F) H) : Holds Z (rtA b L S :: F) H :=
  Holds.shut_ex lv (Holds.shut_ex r (Holds.shut_st trivial h))
theorem rt_inv {b : Nat} {L : List Vl} {S : List Slt} {Z : Zone} {F : List Asr} {H : Heap} (h : Holds Z (rtA b L S :: F) H) : OInv S := by
  obtain ⟨_, _, _, h⟩ := rt_open h; exact rm_inv (h.re [2] [])
theorem whole_not {k : Vl} (h : k.kind ≠ 2 ∨ validB k = false) : whole k = 0 := by
  unfold whole; rcases h with h | h <;> simp [h]
theorem whole_yes {k : Vl} (h1 : k.kind = 2) (h2 : validB k = true) : whole k = if k.q = 1 then k.p else 0 := by
  unfold whole; simp [h1, h2]
theorem num_valid {k : Vl} (h1 : k.kind = 2) (h2 : validB k = true) : validN k.p k.q = true := by
  unfold validB at h2
  rw [h1, if_neg (by decide), if_neg (by decide), if_pos rfl, Bool.and_eq_true] at h2
  exact h2.2
theorem oget_valid0 {S : List Slt} (h : OInv S) {k : Vl} (hk : validB k = false) : oget S k = zVl := oget_bad h (by simp [okKey, hk])
theorem tget_ref {T : Tb} (h : OInv T.rest) {k : Vl} (hb : ¬ (1 ≤ whole k ∧ whole k ≤ (T.list.length : Int))) : tget T k = oget T.rest k := by
  cases hv : validB k with
  | false => rw [tget_bad hv, oget_valid0 h hv]
  | true => exact tget_out hv hb
theorem whole_valid {k : Vl} (h : 1 ≤ whole k) : validB k = true := by
  cases hv : validB k with
  | true => rfl
  | false => rw [whole_not (.inr hv)] at h; omega
theorem rwhole_s {Z : Zone} (p q : Int) : SF Try.prog 111 #[.agg #[.int .i64 p, .int .i64 q]] Z [] fun r Bs => r = .tuple #[.int .i64 (if validN p q = true ∧ q = 1 then p else 0), .bool (validN p q && decide (q = 1))] ∧ Bs = [] := by
 refine sf_enter Try.func111 13 [(0, .agg #[.int .i64 p, .int .i64 q])] (fun w0 => ?_)
 refine k_sr ?_
 refine s_box #[.int .i64 p, .int .i64 q] (fun g1 => ?_)
 refine sp (.int .i64 0) ?_
 refine sp (.bool false) ?_
 refine s_nt ?_
 refine k_seq ?_
 refine k_sr ?_
 refine s_lt (t_loadA 0 #[.int .i64 p, .int .i64 q]) ?_
 refine s_vcall (fun _ h => rvnum_s p q) ?_
 rintro _ rfl
 refine sp (.bool (validN p q)) ?_
 refine s_fork 6 (validN p q) (fun c2 => ?_) (fun c2 => ?_)
 ·
  refine sp (pB g1 1) ?_
  refine s_lt (t_load 0 (.int .i64 q)) ?_
  refine s_lt t_cmp ?_
  refine sp (.bool (decide (q = 1))) ?_
  refine s_nt ?_
  refine k_cond (decide (q = 1)) (fun c3 => ?_) (fun c3 => ?_)
  ·
   have p4 := of_decide_eq_true c3
   refine k_sr ?_
   refine sp (pB g1 0) ?_
   refine s_lt (t_load 0 (.int .i64 p)) ?_
   refine sp (.int .i64 p) ?_
   refine sp (.bool true) ?_
   refine s_nt ?_
   refine k_ret ?_
   refine xs_ret ?_
   refine xs_fin [.int .i64 p, .bool true] [] (SI.tmp 2 (SI.tmp 3 SI.nil)) (fun _ h => h.re [] [0]) ⟨?_, rfl⟩
   show Value.tuple _ = Value.tuple _; first | (simp [c2, c3, c2, p4]; done) | simp_all
  ·
   have p5 := of_decide_eq_false c3
   refine k_st ?_
   refine k_sr ?_
   refine sp (.int .i64 0) ?_
   refine sp (.bool false) ?_
   refine s_nt ?_
   refine k_ret ?_
   refine xs_fin [.int .i64 0, .bool false] [] (SI.tmp 2 (SI.tmp 3 SI.nil)) (fun _ h => h.re [] [0]) ⟨?_, rfl⟩
   show Value.tuple _ = Value.tuple _; first | (simp [c2, c3, c2, p5]; done) | simp_all
 ·
  refine s_skip ?_
  refine s_skip ?_
  refine s_skip ?_
  refine sp (.bool false) ?_
  refine s_nt ?_
  refine k_false ?_
  refine k_st ?_
  refine k_sr ?_
  refine sp (.int .i64 0) ?_
  refine sp (.bool false) ?_
  refine s_nt ?_
  refine k_ret ?_
  refine xs_fin [.int .i64 0, .bool false] [] (SI.tmp 2 (SI.tmp 3 SI.nil)) (fun _ h => h.re [] [0]) ⟨?_, rfl⟩
  show Value.tuple _ = Value.tuple _; first | (simp [c2, c2]; done) | simp_all
theorem rwhole2_s {Z : Zone} (k : Vl) : SF Try.prog 95 #[k.v] Z [] fun r Bs => r = .int .i64 (whole k) ∧ Bs = [] := by
 refine sf_enter Try.func95 20 [(0, .agg #[.int .i64 k.kind, .int .i64 k.p, .int .i64 k.q, .string k.str, .int .i64 k.ref])] (fun w0 => ?_)
 refine k_sr ?_
 refine s_box #[.int .i64 k.kind, .int .i64 k.p, .int .i64 k.q, .string k.str, .int .i64 k.ref] (fun g1 => ?_)
 refine sp (.int .i64 0) ?_
 refine s_nt ?_
 refine k_seq ?_
 refine k_cut (ι := Unit) (fun _ => True) (fun _ => [(1, pB g1 0), (12, .bool ((decide (k.kind ≠ 2)) || (!(validB k))))]) (fun _ => [blkA g1 #[.int .i64 k.kind, .int .i64 k.p, .int .i64 k.q, .string k.str, .int .i64 k.ref] 26]) ?_ (fun _ _ => ?_)
 ·
  refine k_reg ?_
  refine sp (pB g1 0) ?_
  refine s_lt (t_load 0 (.int .i64 k.kind)) ?_
  refine s_lt t_cmp ?_
  refine sp (.bool (decide (k.kind ≠ 2))) ?_
  refine s_fork 8 (decide (k.kind ≠ 2)) (fun c2 => ?_) (fun c2 => ?_)
  ·
   have p3 := of_decide_eq_true c2
   refine s_skip ?_
   refine s_skip ?_
   refine s_skip ?_
   refine sp (.bool true) ?_
   refine s_nil ?_
   exact xs_cut () trivial (sub_of rfl ⟨⟨rfl, rfl⟩, ⟨⟨rfl, show Value.bool true = Value.bool ((decide (k.kind ≠ 2)) || (!(validB k))) by first | (simp only [c2, bls]; done) | simp [c2]⟩, trivial⟩⟩) (fun _ h => h.re [0] [])
  ·
   have p4 := Decidable.not_not.1 (of_decide_eq_false c2)
   refine s_lt (t_loadA 0 #[.int .i64 k.kind, .int .i64 k.p, .int .i64 k.q, .string k.str, .int .i64 k.ref]) ?_
   refine s_vcall (fun _ h => rvalid_s k) ?_
   rintro _ rfl
   refine sp (.bool (!(validB k))) ?_
   refine sp (.bool (!(validB k))) ?_
   refine s_nil ?_
   exact xs_cut () trivial (sub_of rfl ⟨⟨rfl, rfl⟩, ⟨⟨rfl, show Value.bool (!(validB k)) = Value.bool ((decide (k.kind ≠ 2)) || (!(validB k))) by first | (simp only [c2, bls]; done) | simp [c2]⟩, trivial⟩⟩) (fun _ h => h.re [0] [])
 ·
  refine k_cond ((decide (k.kind ≠ 2)) || (!(validB k))) (fun c5 => ?_) (fun c5 => ?_)
  ·
   have p6 := c5
   simp only [Bool.and_eq_true, Bool.or_eq_true, Bool.and_eq_false_iff, Bool.or_eq_false_iff, Bool.not_eq_true', Bool.not_eq_false', decide_eq_true_eq, decide_eq_false_iff_not] at p6
   refine k_sr ?_
   refine sp (.int .i64 0) ?_
   refine s_nt ?_
   refine k_ret ?_
   refine xs_ret ?_
   refine xs_fin [.int .i64 0] [] (SI.tmp 2 SI.nil) (fun _ h => h.re [] [0]) ⟨congrArg (Value.int .i64) ?_, rfl⟩
   exact (whole_not (by first | exact p6 | exact .inl p6 | exact .inr p6)).symm
  ·
   obtain ⟨c7, c8⟩ := or_f c5
   have p9 := Decidable.not_not.1 (of_decide_eq_false c7)
   have c10 := not_f c8
   refine k_st ?_
   refine k_sr ?_
   refine sp (pB g1 1) ?_
   refine s_lt (t_loadA 0 #[.int .i64 k.p, .int .i64 k.q]) ?_
   refine s_vcall (fun _ h => rwhole_s k.p k.q) ?_
   rintro _ rfl
   refine sp (.tuple #[.int .i64 (if validN k.p k.q = true ∧ k.q = 1 then k.p else 0), .bool (validN k.p k.q && decide (k.q = 1))]) ?_
   refine sp (.int .i64 (if validN k.p k.q = true ∧ k.q = 1 then k.p else 0)) ?_
   refine sp (.bool (validN k.p k.q && decide (k.q = 1))) ?_
   refine sp (.int .i64 (if validN k.p k.q = true ∧ k.q = 1 then k.p else 0)) ?_
   refine sp (.bool (validN k.p k.q && decide (k.q = 1))) ?_
   refine s_nr ?_
   refine sp (.int .i64 (if validN k.p k.q = true ∧ k.q = 1 then k.p else 0)) ?_
   refine sp (.int .i64 (if validN k.p k.q = true ∧ k.q = 1 then k.p else 0)) ?_
   refine s_nt ?_
   refine k_ret ?_
   refine xs_fin [.int .i64 (if validN k.p k.q = true ∧ k.q = 1 then k.p else 0)] [] (SI.tmp 2 SI.nil) (fun _ h => h.re [] [0]) ⟨congrArg (Value.int .i64) ?_, rfl⟩
   have h2 : k.kind = 2 := Decidable.not_not.1 (of_decide_eq_false c7)
   rw [whole_yes h2 c10, num_valid h2 c10]; simp
theorem rtnew_s {Z : Zone} : SF Try.prog 85 #[] Z [] fun r Bs => ∃ b, r = .pointer (some ⟨b, 0, none⟩) ∧ Bs = [rtA b [] []] := by
 refine sf_enter Try.func85 4 [] (fun w0 => ?_)
 refine k_sr ?_
 refine sp (.pointer none) ?_
 refine s_nr ?_
 refine s_pcall (fun _ h => rmnew_s) ?_
 rintro _ _ ⟨r1, rfl, rfl⟩
 refine s_lt (t_kern (.agg #[(.slice none 0 0), pB r1 0])) ?_
 refine s_box #[(.slice none 0 0), pB r1 0] (fun g2 => ?_)
 refine sp (pB g2 0) ?_
 refine s_nt ?_
 refine k_ret ?_
 refine xs_fin [pB g2 0] [rtA g2 [] []] (SI.tmp 0 SI.nil) (fun _ h => rt_shut (b := g2) (lv := .slice none 0 0) (r := r1) ((Holds.nilS (T := VlT) h).re [1, 0, 0] [])) ⟨g2, rfl, rfl⟩
theorem rtget_s {Z : Zone} {F : List Asr} {b : Nat} {L : List Vl} {S : List Slt} (hl : L.length ≤ 1000000) (hs : S.length ≤ 1000000) (k : Vl) : SF Try.prog 72 #[.pointer (some ⟨b, 0, none⟩), k.v] Z (rtA b L S :: F) fun r Bs => r = (tget ⟨L, S⟩ k).v ∧ Bs = rtA b L S :: F := by
 refine sf_enter Try.func72 36 [(0, pB b 0), (1, .agg #[.int .i64 k.kind, .int .i64 k.p, .int .i64 k.q, .string k.str, .int .i64 k.ref])] (fun w0 => ?_)
 refine k_fact (fun H h => rt_inv (h.re [0] [])) (fun hinv0 => ?_)
 have hol := okeys_len S
 refine k_sr ?_
 refine s_box #[.int .i64 k.kind, .int .i64 k.p, .int .i64 k.q, .string k.str, .int .i64 k.ref] (fun g1 => ?_)
 refine s_alloc (.agg #[.int .i64 0, .int .i64 0, .int .i64 0, .string ByteArray.empty, .int .i64 0]) #[.int .i64 0, .int .i64 0, .int .i64 0, .string ByteArray.empty, .int .i64 0] (fun g2 => ?_)
 refine s_nt ?_
 refine k_seq ?_
 refine k_sr ?_
 refine sp (pB b 0) ?_
 refine sp (.bool false) ?_
 refine s_nt ?_
 refine k_false ?_
 refine k_st ?_
 refine k_seq ?_
 refine k_sr ?_
 refine s_lt (t_loadA 1 #[.int .i64 k.kind, .int .i64 k.p, .int .i64 k.q, .string k.str, .int .i64 k.ref]) ?_
 refine s_vcall (fun _ h => rwhole2_s k) ?_
 rintro _ rfl
 refine sp (.int .i64 (whole k)) ?_
 refine s_nr ?_
 refine sp (.int .i64 (whole k)) ?_
 refine s_lt t_cmp ?_
 refine sp (.bool (decide ((1 : Int) ≤ (whole k)))) ?_
 refine s_fork 13 (decide ((1 : Int) ≤ (whole k))) (fun c3 => ?_) (fun c3 => ?_)
 ·
  have p4 := of_decide_eq_true c3
  refine sp (.int .i64 (whole k)) ?_
  refine sp (pB b 0) ?_
  refine sp (pB b 0) ?_
  refine sp (pB b 0) ?_
  refine s_mem2 (fun H h => rt_open (h.re [2] [])) (fun lv5 r6 hw => ?_)
  refine s_lt (t_load 0 lv5) ?_
  refine s_lt (t_len VlT_ok Try.underlying33 (.own 1)) ?_
  refine s_lt t_cmp ?_
  refine sp (.bool (decide ((whole k) ≤ (L.length : Int)))) ?_
  refine s_nt ?_
  refine k_cond (decide ((whole k) ≤ (L.length : Int))) (fun c7 => ?_) (fun c7 => ?_)
  ·
   have p8 := of_decide_eq_true c7
   refine k_sr ?_
   refine sp (pB b 0) ?_
   refine sp (pB b 0) ?_
   refine sp (pB b 0) ?_
   refine s_lt (t_load 0 lv5) ?_
   refine sp (.int .i64 (whole k)) ?_
   refine s_lt (t_sub (whole k) 1 (by (try simp only [lnm]); omega)) ?_
   refine s_lt (t_index VlT_ok Try.underlying33 (.own 1) ((whole k) - 1) ((((whole k) - 1)).toNat) (by omega) (by (try simp only [lnm]); omega) (by omega)) ?_
   obtain ⟨y9, hy10⟩ : ∃ y, L[(((whole k) - 1)).toNat]? = some y := ⟨_, List.getElem?_eq_getElem (by (try simp only [lnm]); omega)⟩
   refine s_lt (t_loadE VlT_ok (.own 1) hy10) ?_
   refine s_store 3 #[.int .i64 y9.kind, .int .i64 y9.p, .int .i64 y9.q, .string y9.str, .int .i64 y9.ref] ?_
   refine s_nt ?_
   refine k_ret ?_
   refine xs_ret ?_
   refine xs_mem (fun _ h => rt_shut (h.re [0, 0, 0] [])) ?_
   refine xs_fin [.agg #[.int .i64 y9.kind, .int .i64 y9.p, .int .i64 y9.q, .string y9.str, .int .i64 y9.ref]] (rtA b L S :: F) (SI.agg 4 26 1 SI.nil) (fun _ h => h.re [0] [1, 1]) ⟨?_, rfl⟩
   rw [tget_in (T := ⟨L, S⟩) (whole_valid (by omega)) (by omega) (by show _ ≤ (L.length : Int); omega) hy10]; rfl
  ·
   have p11 := of_decide_eq_false c7
   refine k_st ?_
   refine k_seq ?_
   refine k_draw ?_
   refine sp (pB b 0) ?_
   refine sp (pB b 0) ?_
   refine sp (pB b 1) ?_
   refine s_lt (t_load 0 (pB r6 0)) ?_
   refine s_lt (t_loadA 4 #[.int .i64 k.kind, .int .i64 k.p, .int .i64 k.q, .string k.str, .int .i64 k.ref]) ?_
   refine s_call [2] (rmget_s (S := S) (by (try simp only [lnm]); omega) k) ?_
   rintro _ _ ⟨rfl, rfl⟩
   refine s_store 3 #[.int .i64 ((oget S k).kind), .int .i64 ((oget S k).p), .int .i64 ((oget S k).q), .string ((oget S k).str), .int .i64 ((oget S k).ref)] ?_
   refine s_nil ?_
   refine x_dynS (fun _ h => by kernel_rfl) ?_
   refine xs_then ?_
   refine k_ret ?_
   refine xs_mem (fun _ h => rt_shut (h.re [1, 1, 0] [])) ?_
   refine xs_fin [.agg #[.int .i64 ((oget S k).kind), .int .i64 ((oget S k).p), .int .i64 ((oget S k).q), .string ((oget S k).str), .int .i64 ((oget S k).ref)]] (rtA b L S :: F) (SI.agg 4 26 1 SI.nil) (fun _ h => h.re [0] [1, 1]) ⟨?_, rfl⟩
   rw [tget_ref (T := ⟨L, S⟩) hinv0 (by show ¬ (_ ∧ _ ≤ (L.length : Int)); omega)]; rfl
 ·
  have p12 := of_decide_eq_false c3
  refine s_skip ?_
  refine s_skip ?_
  refine s_skip ?_
  refine s_skip ?_
  refine s_skip ?_
  refine s_skip ?_
  refine s_skip ?_
  refine sp (.bool false) ?_
  refine s_nt ?_
  refine k_false ?_
  refine k_st ?_
  refine k_seq ?_
  refine k_draw ?_
  refine sp (pB b 0) ?_
  refine sp (pB b 0) ?_
  refine sp (pB b 1) ?_
  refine s_mem2 (fun H h => rt_open (h.re [2] [])) (fun lv13 r14 hw => ?_)
  refine s_lt (t_load 0 (pB r14 0)) ?_
  refine s_lt (t_loadA 4 #[.int .i64 k.kind, .int .i64 k.p, .int .i64 k.q, .string k.str, .int .i64 k.ref]) ?_
  refine s_call [2] (rmget_s (S := S) (by (try simp only [lnm]); omega) k) ?_
  rintro _ _ ⟨rfl, rfl⟩
  refine s_store 3 #[.int .i64 ((oget S k).kind), .int .i64 ((oget S k).p), .int .i64 ((oget S k).q), .string ((oget S k).str), .int .i64 ((oget S k).ref)] ?_
  refine s_nil ?_
  refine x_dynS (fun _ h => by kernel_rfl) ?_
  refine xs_then ?_
  refine k_ret ?_
  refine xs_mem (fun _ h => rt_shut (h.re [1, 1, 0] [])) ?_
  refine xs_fin [.agg #[.int .i64 ((oget S k).kind), .int .i64 ((oget S k).p), .int .i64 ((oget S k).q), .string ((oget S k).str), .int .i64 ((oget S k).ref)]] (rtA b L S :: F) (SI.agg 4 26 1 SI.nil) (fun _ h => h.re [0] [1, 1]) ⟨?_, rfl⟩
  rw [tget_ref (T := ⟨L, S⟩) hinv0 (by show ¬ (_ ∧ _ ≤ (L.length : Int)); omega)]; rfl
theorem rtpurge_s {Z : Zone} {F : List Asr} {b : Nat} {L : List Vl} {S : List Slt} (hl : L.length ≤ 1000000) (hs : S.length ≤ 100000) {n : Nat} {x : Int} (hn : n ≤ L.length) (hx : x = (n : Int) + 1) : SF Try.prog 108 #[.pointer (some ⟨b, 0, none⟩), .int .i64 x] Z (rtA b L S :: F) fun r Bs => r = .tuple #[] ∧ Bs = rtA b L (if staleB S n L.length then purge S L.length else S) :: F := by
 refine sf_enter Try.func108 90 [(0, pB b 0), (1, .int .i64 x)] (fun w0 => ?_)
 refine k_fact (fun H h => rt_inv (h.re [0] [])) (fun hinv0 => ?_)
 have hol := okeys_len S
 refine k_sr ?_
 refine sp (.bool false) ?_
 refine s_nt ?_
 refine k_seq ?_
 refine k_sr ?_
 refine sp (.int .i64 x) ?_
 refine sp (.int .i64 x) ?_
 refine s_nt ?_
 refine k_block ?_
 refine k_loop (ι := Nat) (fun j => n ≤ j ∧ j ≤ L.length) (fun j => [(0, pB b 0), (4, .bool (staleB S n j)), (5, .int .i64 ((j : Int) + 1))]) (fun j => rtA b L S :: F) (fun j => L.length - j) n ⟨Nat.le_refl _, hn⟩ (sub_of rfl ⟨⟨rfl, rfl⟩, ⟨⟨rfl, congrArg Value.bool (staleB_self S n).symm⟩, ⟨⟨rfl, congrArg (Value.int .i64) hx⟩, trivial⟩⟩⟩) (fun _ h => h.re [0] []) ?_
 rintro j hi1
 show SK _ _ _ _ _ [(0, .pointer (some ⟨b, 0, none⟩)), (4, .bool (staleB S n j)), (5, .int .i64 ((j : Int) + 1))] _ (rtA b L S :: F)
 refine k_seq ?_
 refine k_sr ?_
 refine sp (.int .i64 ((j : Int) + 1)) ?_
 refine sp (pB b 0) ?_
 refine sp (pB b 0) ?_
 refine sp (pB b 0) ?_
 refine s_mem2 (fun H h => rt_open (h.re [0] [])) (fun lv2 r3 hw => ?_)
 refine s_lt (t_load 0 lv2) ?_
 refine s_lt (t_len VlT_ok Try.underlying33 (.own 1)) ?_
 refine s_lt t_cmp ?_
 refine s_nt ?_
 refine k_cond (decide (((j : Int) + 1) ≤ (L.length : Int))) (fun c4 => ?_) (fun c4 => ?_)
 ·
  have p5 := of_decide_eq_true c4
  refine k_st ?_
  refine k_seq ?_
  refine k_block ?_
  refine k_cut (ι := Unit) (fun _ => True) (fun _ => [(0, pB b 0), (4, .bool (staleB S n j)), (5, .int .i64 ((j : Int) + 1)), (9, .int .i64 ((onext S (ofI ((j : Int) + 1))).2.2.2))]) (fun _ => blkA b #[lv2, pB r3 0] 128 :: own VlT lv2 L :: rmA r3 S :: F) ?_ (fun _ _ => ?_)
  ·
   refine k_held [blkA b #[lv2, pB r3 0] 128, own VlT lv2 L] ?_
   refine hp_ 0 [0, 0] (pB b 0) ?_
   refine hp_ 1 [0, 0] (pB b 0) ?_
   refine hp_ 2 [0, 0] (pB b 1) ?_
   refine h_l 3 rfl [0, 0] (fun _ => (t_load 0 (pB r3 0))) ?_
   refine hp_ 4 [0, 0] (.int .i64 ((j : Int) + 1)) ?_
   refine h_stepS3 5 12 13 ?_ ?_ ?_
   ·
    refine s_vcall (fun _ h => rkey_s ((j : Int) + 1)) ?_
    rintro _ rfl
    refine s_nil (xs_held [0, 0] ?_)
    refine h_stepS3 6 12 13 ?_ ?_ ?_
    ·
     refine s_call [2] (rmnext_s (S := S) (by (try simp only [lnm]); omega) (ofI ((j : Int) + 1))) ?_
     rintro _ _ ⟨rfl, rfl⟩
     refine s_nil (xs_held [1, 1] ?_)
     refine hp_ 7 [1, 1] (.tuple #[.agg #[.int .i64 (((onext S (ofI ((j : Int) + 1))).1).kind), .int .i64 (((onext S (ofI ((j : Int) + 1))).1).p), .int .i64 (((onext S (ofI ((j : Int) + 1))).1).q), .string (((onext S (ofI ((j : Int) + 1))).1).str), .int .i64 (((onext S (ofI ((j : Int) + 1))).1).ref)], .agg #[.int .i64 (((onext S (ofI ((j : Int) + 1))).2.1).kind), .int .i64 (((onext S (ofI ((j : Int) + 1))).2.1).p), .int .i64 (((onext S (ofI ((j : Int) + 1))).2.1).q), .string (((onext S (ofI ((j : Int) + 1))).2.1).str), .int .i64 (((onext S (ofI ((j : Int) + 1))).2.1).ref)], .bool ((onext S (ofI ((j : Int) + 1))).2.2.1), .int .i64 ((onext S (ofI ((j : Int) + 1))).2.2.2)]) ?_
     refine hp_ 8 [1, 1] (.agg #[.int .i64 (((onext S (ofI ((j : Int) + 1))).1).kind), .int .i64 (((onext S (ofI ((j : Int) + 1))).1).p), .int .i64 (((onext S (ofI ((j : Int) + 1))).1).q), .string (((onext S (ofI ((j : Int) + 1))).1).str), .int .i64 (((onext S (ofI ((j : Int) + 1))).1).ref)]) ?_
     refine hp_ 9 [1, 1] (.agg #[.int .i64 (((onext S (ofI ((j : Int) + 1))).2.1).kind), .int .i64 (((onext S (ofI ((j : Int) + 1))).2.1).p), .int .i64 (((onext S (ofI ((j : Int) + 1))).2.1).q), .string (((onext S (ofI ((j : Int) + 1))).2.1).str), .int .i64 (((onext S (ofI ((j : Int) + 1))).2.1).ref)]) ?_
     refine hp_ 10 [1, 1] (.bool ((onext S (ofI ((j : Int) + 1))).2.2.1)) ?_
     refine hp_ 11 [1, 1] (.int .i64 ((onext S (ofI ((j : Int) + 1))).2.2.2)) ?_
     refine h_stepS2 12 13 ?_ ?_
     ·
      refine s_alloc (.agg #[.int .i64 0, .int .i64 0, .int .i64 0, .string ByteArray.empty, .int .i64 0]) #[.int .i64 0, .int .i64 0, .int .i64 0, .string ByteArray.empty, .int .i64 0] (fun g6 => ?_)
      refine s_nil (xs_held [2, 2] ?_)
      refine h_stepS 13 ?_
      refine s_alloc (.agg #[.int .i64 0, .int .i64 0, .int .i64 0, .string ByteArray.empty, .int .i64 0]) #[.int .i64 0, .int .i64 0, .int .i64 0, .string ByteArray.empty, .int .i64 0] (fun g7 => ?_)
      refine s_nil (xs_held [3, 3] ?_)
      refine h_stepS 14 ?_
      refine s_store 1 #[.int .i64 (((onext S (ofI ((j : Int) + 1))).1).kind), .int .i64 (((onext S (ofI ((j : Int) + 1))).1).p), .int .i64 (((onext S (ofI ((j : Int) + 1))).1).q), .string (((onext S (ofI ((j : Int) + 1))).1).str), .int .i64 (((onext S (ofI ((j : Int) + 1))).1).ref)] ?_
      refine s_nil (xs_held [3, 3] ?_)
      refine h_stepS 15 ?_
      refine s_store 0 #[.int .i64 (((onext S (ofI ((j : Int) + 1))).2.1).kind), .int .i64 (((onext S (ofI ((j : Int) + 1))).2.1).p), .int .i64 (((onext S (ofI ((j : Int) + 1))).2.1).q), .string (((onext S (ofI ((j : Int) + 1))).2.1).str), .int .i64 (((onext S (ofI ((j : Int) + 1))).2.1).ref)] ?_
      refine s_nil (xs_held [3, 3] ?_)
      refine hp_ 16 [3, 3] (.bool ((onext S (ofI ((j : Int) + 1))).2.2.1)) ?_
      refine hp_ 17 [3, 3] (.int .i64 ((onext S (ofI ((j : Int) + 1))).2.2.2)) ?_
      refine h_doneS ?_
      exact xcut () (fun _ h => h.re [3, 3, 2] [3, 3])
     ·
      refine s_alloc (.agg #[.int .i64 0, .int .i64 0, .int .i64 0, .string ByteArray.empty, .int .i64 0]) #[.int .i64 0, .int .i64 0, .int .i64 0, .string ByteArray.empty, .int .i64 0] (fun g8 => ?_)
      refine s_nil (xs_held [2, 2] ?_)
      refine h_stepS 12 ?_
      refine s_alloc (.agg #[.int .i64 0, .int .i64 0, .int .i64 0, .string ByteArray.empty, .int .i64 0]) #[.int .i64 0, .int .i64 0, .int .i64 0, .string ByteArray.empty, .int .i64 0] (fun g9 => ?_)
      refine s_nil (xs_held [3, 3] ?_)
      refine h_stepS 14 ?_
      refine s_store 0 #[.int .i64 (((onext S (ofI ((j : Int) + 1))).1).kind), .int .i64 (((onext S (ofI ((j : Int) + 1))).1).p), .int .i64 (((onext S (ofI ((j : Int) + 1))).1).q), .string (((onext S (ofI ((j : Int) + 1))).1).str), .int .i64 (((onext S (ofI ((j : Int) + 1))).1).ref)] ?_
      refine s_nil (xs_held [3, 3] ?_)
      refine h_stepS 15 ?_
      refine s_store 1 #[.int .i64 (((onext S (ofI ((j : Int) + 1))).2.1).kind), .int .i64 (((onext S (ofI ((j : Int) + 1))).2.1).p), .int .i64 (((onext S (ofI ((j : Int) + 1))).2.1).q), .string (((onext S (ofI ((j : Int) + 1))).2.1).str), .int .i64 (((onext S (ofI ((j : Int) + 1))).2.1).ref)] ?_
      refine s_nil (xs_held [3, 3] ?_)
      refine hp_ 16 [3, 3] (.bool ((onext S (ofI ((j : Int) + 1))).2.2.1)) ?_
      refine hp_ 17 [3, 3] (.int .i64 ((onext S (ofI ((j : Int) + 1))).2.2.2)) ?_
      refine h_doneS ?_
      exact xcut () (fun _ h => h.re [3, 3, 2] [3, 3])
    ·
     refine s_alloc (.agg #[.int .i64 0, .int .i64 0, .int .i64 0, .string ByteArray.empty, .int .i64 0]) #[.int .i64 0, .int .i64 0, .int .i64 0, .string ByteArray.empty, .int .i64 0] (fun g10 => ?_)
     refine s_nil (xs_held [1, 1] ?_)
     refine h_stepS2 6 13 ?_ ?_
     ·
      refine s_call [3] (rmnext_s (S := S) (by (try simp only [lnm]); omega) (ofI ((j : Int) + 1))) ?_
      rintro _ _ ⟨rfl, rfl⟩
      refine s_nil (xs_held [2, 2] ?_)
      refine hp_ 7 [2, 2] (.tuple #[.agg #[.int .i64 (((onext S (ofI ((j : Int) + 1))).1).kind), .int .i64 (((onext S (ofI ((j : Int) + 1))).1).p), .int .i64 (((onext S (ofI ((j : Int) + 1))).1).q), .string (((onext S (ofI ((j : Int) + 1))).1).str), .int .i64 (((onext S (ofI ((j : Int) + 1))).1).ref)], .agg #[.int .i64 (((onext S (ofI ((j : Int) + 1))).2.1).kind), .int .i64 (((onext S (ofI ((j : Int) + 1))).2.1).p), .int .i64 (((onext S (ofI ((j : Int) + 1))).2.1).q), .string (((onext S (ofI ((j : Int) + 1))).2.1).str), .int .i64 (((onext S (ofI ((j : Int) + 1))).2.1).ref)], .bool ((onext S (ofI ((j : Int) + 1))).2.2.1), .int .i64 ((onext S (ofI ((j : Int) + 1))).2.2.2)]) ?_
      refine hp_ 8 [2, 2] (.agg #[.int .i64 (((onext S (ofI ((j : Int) + 1))).1).kind), .int .i64 (((onext S (ofI ((j : Int) + 1))).1).p), .int .i64 (((onext S (ofI ((j : Int) + 1))).1).q), .string (((onext S (ofI ((j : Int) + 1))).1).str), .int .i64 (((onext S (ofI ((j : Int) + 1))).1).ref)]) ?_
      refine hp_ 9 [2, 2] (.agg #[.int .i64 (((onext S (ofI ((j : Int) + 1))).2.1).kind), .int .i64 (((onext S (ofI ((j : Int) + 1))).2.1).p), .int .i64 (((onext S (ofI ((j : Int) + 1))).2.1).q), .string (((onext S (ofI ((j : Int) + 1))).2.1).str), .int .i64 (((onext S (ofI ((j : Int) + 1))).2.1).ref)]) ?_
      refine hp_ 10 [2, 2] (.bool ((onext S (ofI ((j : Int) + 1))).2.2.1)) ?_
      refine hp_ 11 [2, 2] (.int .i64 ((onext S (ofI ((j : Int) + 1))).2.2.2)) ?_
      refine h_stepS 13 ?_
      refine s_alloc (.agg #[.int .i64 0, .int .i64 0, .int .i64 0, .string ByteArray.empty, .int .i64 0]) #[.int .i64 0, .int .i64 0, .int .i64 0, .string ByteArray.empty, .int .i64 0] (fun g11 => ?_)
      refine s_nil (xs_held [3, 3] ?_)
      refine h_stepS 14 ?_
      refine s_store 2 #[.int .i64 (((onext S (ofI ((j : Int) + 1))).1).kind), .int .i64 (((onext S (ofI ((j : Int) + 1))).1).p), .int .i64 (((onext S (ofI ((j : Int) + 1))).1).q), .string (((onext S (ofI ((j : Int) + 1))).1).str), .int .i64 (((onext S (ofI ((j : Int) + 1))).1).ref)] ?_
      refine s_nil (xs_held [3, 3] ?_)
      refine h_stepS 15 ?_
      refine s_store 0 #[.int .i64 (((onext S (ofI ((j : Int) + 1))).2.1).kind), .int .i64 (((onext S (ofI ((j : Int) + 1))).2.1).p), .int .i64 (((onext S (ofI ((j : Int) + 1))).2.1).q), .string (((onext S (ofI ((j : Int) + 1))).2.1).str), .int .i64 (((onext S (ofI ((j : Int) + 1))).2.1).ref)] ?_
      refine s_nil (xs_held [3, 3] ?_)
      refine hp_ 16 [3, 3] (.bool ((onext S (ofI ((j : Int) + 1))).2.2.1)) ?_
      refine hp_ 17 [3, 3] (.int .i64 ((onext S (ofI ((j : Int) + 1))).2.2.2)) ?_
      refine h_doneS ?_
      exact xcut () (fun _ h => h.re [3, 3, 1] [3, 3])
     ·
      refine s_alloc (.agg #[.int .i64 0, .int .i64 0, .int .i64 0, .string ByteArray.empty, .int .i64 0]) #[.int .i64 0, .int .i64 0, .int .i64 0, .string ByteArray.empty, .int .i64 0] (fun g12 => ?_)
      refine s_nil (xs_held [2, 2] ?_)
      refine h_stepS 6 ?_
      refine s_call [4] (rmnext_s (S := S) (by (try simp only [lnm]); omega) (ofI ((j : Int) + 1))) ?_
      rintro _ _ ⟨rfl, rfl⟩
      refine s_nil (xs_held [3, 3] ?_)
      refine hp_ 7 [3, 3] (.tuple #[.agg #[.int .i64 (((onext S (ofI ((j : Int) + 1))).1).kind), .int .i64 (((onext S (ofI ((j : Int) + 1))).1).p), .int .i64 (((onext S (ofI ((j : Int) + 1))).1).q), .string (((onext S (ofI ((j : Int) + 1))).1).str), .int .i64 (((onext S (ofI ((j : Int) + 1))).1).ref)], .agg #[.int .i64 (((onext S (ofI ((j : Int) + 1))).2.1).kind), .int .i64 (((onext S (ofI ((j : Int) + 1))).2.1).p), .int .i64 (((onext S (ofI ((j : Int) + 1))).2.1).q), .string (((onext S (ofI ((j : Int) + 1))).2.1).str), .int .i64 (((onext S (ofI ((j : Int) + 1))).2.1).ref)], .bool ((onext S (ofI ((j : Int) + 1))).2.2.1), .int .i64 ((onext S (ofI ((j : Int) + 1))).2.2.2)]) ?_
      refine hp_ 8 [3, 3] (.agg #[.int .i64 (((onext S (ofI ((j : Int) + 1))).1).kind), .int .i64 (((onext S (ofI ((j : Int) + 1))).1).p), .int .i64 (((onext S (ofI ((j : Int) + 1))).1).q), .string (((onext S (ofI ((j : Int) + 1))).1).str), .int .i64 (((onext S (ofI ((j : Int) + 1))).1).ref)]) ?_
      refine hp_ 9 [3, 3] (.agg #[.int .i64 (((onext S (ofI ((j : Int) + 1))).2.1).kind), .int .i64 (((onext S (ofI ((j : Int) + 1))).2.1).p), .int .i64 (((onext S (ofI ((j : Int) + 1))).2.1).q), .string (((onext S (ofI ((j : Int) + 1))).2.1).str), .int .i64 (((onext S (ofI ((j : Int) + 1))).2.1).ref)]) ?_
      refine hp_ 10 [3, 3] (.bool ((onext S (ofI ((j : Int) + 1))).2.2.1)) ?_
      refine hp_ 11 [3, 3] (.int .i64 ((onext S (ofI ((j : Int) + 1))).2.2.2)) ?_
      refine h_stepS 14 ?_
      refine s_store 2 #[.int .i64 (((onext S (ofI ((j : Int) + 1))).1).kind), .int .i64 (((onext S (ofI ((j : Int) + 1))).1).p), .int .i64 (((onext S (ofI ((j : Int) + 1))).1).q), .string (((onext S (ofI ((j : Int) + 1))).1).str), .int .i64 (((onext S (ofI ((j : Int) + 1))).1).ref)] ?_
      refine s_nil (xs_held [3, 3] ?_)
      refine h_stepS 15 ?_
      refine s_store 1 #[.int .i64 (((onext S (ofI ((j : Int) + 1))).2.1).kind), .int .i64 (((onext S (ofI ((j : Int) + 1))).2.1).p), .int .i64 (((onext S (ofI ((j : Int) + 1))).2.1).q), .string (((onext S (ofI ((j : Int) + 1))).2.1).str), .int .i64 (((onext S (ofI ((j : Int) + 1))).2.1).ref)] ?_
      refine s_nil (xs_held [3, 3] ?_)
      refine hp_ 16 [3, 3] (.bool ((onext S (ofI ((j : Int) + 1))).2.2.1)) ?_
      refine hp_ 17 [3, 3] (.int .i64 ((onext S (ofI ((j : Int) + 1))).2.2.2)) ?_
      refine h_doneS ?_
      exact xcut () (fun _ h => h.re [3, 3, 0] [3, 3])
    ·
     refine s_alloc (.agg #[.int .i64 0, .int .i64 0, .int .i64 0, .string ByteArray.empty, .int .i64 0]) #[.int .i64 0, .int .i64 0, .int .i64 0, .string ByteArray.empty, .int .i64 0] (fun g13 => ?_)
     refine s_nil (xs_held [1, 1] ?_)
     refine h_stepS2 6 12 ?_ ?_
     ·
      refine s_call [3] (rmnext_s (S := S) (by (try simp only [lnm]); omega) (ofI ((j : Int) + 1))) ?_
      rintro _ _ ⟨rfl, rfl⟩
      refine s_nil (xs_held [2, 2] ?_)
      refine hp_ 7 [2, 2] (.tuple #[.agg #[.int .i64 (((onext S (ofI ((j : Int) + 1))).1).kind), .int .i64 (((onext S (ofI ((j : Int) + 1))).1).p), .int .i64 (((onext S (ofI ((j : Int) + 1))).1).q), .string (((onext S (ofI ((j : Int) + 1))).1).str), .int .i64 (((onext S (ofI ((j : Int) + 1))).1).ref)], .agg #[.int .i64 (((onext S (ofI ((j : Int) + 1))).2.1).kind), .int .i64 (((onext S (ofI ((j : Int) + 1))).2.1).p), .int .i64 (((onext S (ofI ((j : Int) + 1))).2.1).q), .string (((onext S (ofI ((j : Int) + 1))).2.1).str), .int .i64 (((onext S (ofI ((j : Int) + 1))).2.1).ref)], .bool ((onext S (ofI ((j : Int) + 1))).2.2.1), .int .i64 ((onext S (ofI ((j : Int) + 1))).2.2.2)]) ?_
      refine hp_ 8 [2, 2] (.agg #[.int .i64 (((onext S (ofI ((j : Int) + 1))).1).kind), .int .i64 (((onext S (ofI ((j : Int) + 1))).1).p), .int .i64 (((onext S (ofI ((j : Int) + 1))).1).q), .string (((onext S (ofI ((j : Int) + 1))).1).str), .int .i64 (((onext S (ofI ((j : Int) + 1))).1).ref)]) ?_
      refine hp_ 9 [2, 2] (.agg #[.int .i64 (((onext S (ofI ((j : Int) + 1))).2.1).kind), .int .i64 (((onext S (ofI ((j : Int) + 1))).2.1).p), .int .i64 (((onext S (ofI ((j : Int) + 1))).2.1).q), .string (((onext S (ofI ((j : Int) + 1))).2.1).str), .int .i64 (((onext S (ofI ((j : Int) + 1))).2.1).ref)]) ?_
      refine hp_ 10 [2, 2] (.bool ((onext S (ofI ((j : Int) + 1))).2.2.1)) ?_
      refine hp_ 11 [2, 2] (.int .i64 ((onext S (ofI ((j : Int) + 1))).2.2.2)) ?_
      refine h_stepS 12 ?_
      refine s_alloc (.agg #[.int .i64 0, .int .i64 0, .int .i64 0, .string ByteArray.empty, .int .i64 0]) #[.int .i64 0, .int .i64 0, .int .i64 0, .string ByteArray.empty, .int .i64 0] (fun g14 => ?_)
      refine s_nil (xs_held [3, 3] ?_)
      refine h_stepS 14 ?_
      refine s_store 0 #[.int .i64 (((onext S (ofI ((j : Int) + 1))).1).kind), .int .i64 (((onext S (ofI ((j : Int) + 1))).1).p), .int .i64 (((onext S (ofI ((j : Int) + 1))).1).q), .string (((onext S (ofI ((j : Int) + 1))).1).str), .int .i64 (((onext S (ofI ((j : Int) + 1))).1).ref)] ?_
      refine s_nil (xs_held [3, 3] ?_)
      refine h_stepS 15 ?_
      refine s_store 2 #[.int .i64 (((onext S (ofI ((j : Int) + 1))).2.1).kind), .int .i64 (((onext S (ofI ((j : Int) + 1))).2.1).p), .int .i64 (((onext S (ofI ((j : Int) + 1))).2.1).q), .string (((onext S (ofI ((j : Int) + 1))).2.1).str), .int .i64 (((onext S (ofI ((j : Int) + 1))).2.1).ref)] ?_
      refine s_nil (xs_held [3, 3] ?_)
      refine hp_ 16 [3, 3] (.bool ((onext S (ofI ((j : Int) + 1))).2.2.1)) ?_
      refine hp_ 17 [3, 3] (.int .i64 ((onext S (ofI ((j : Int) + 1))).2.2.2)) ?_
      refine h_doneS ?_
      exact xcut () (fun _ h => h.re [3, 3, 1] [3, 3])
     ·
      refine s_alloc (.agg #[.int .i64 0, .int .i64 0, .int .i64 0, .string ByteArray.empty, .int .i64 0]) #[.int .i64 0, .int .i64 0, .int .i64 0, .string ByteArray.empty, .int .i64 0] (fun g15 => ?_)
      refine s_nil (xs_held [2, 2] ?_)
      refine h_stepS 6 ?_
      refine s_call [4] (rmnext_s (S := S) (by (try simp only [lnm]); omega) (ofI ((j : Int) + 1))) ?_
      rintro _ _ ⟨rfl, rfl⟩
      refine s_nil (xs_held [3, 3] ?_)
      refine hp_ 7 [3, 3] (.tuple #[.agg #[.int .i64 (((onext S (ofI ((j : Int) + 1))).1).kind), .int .i64 (((onext S (ofI ((j : Int) + 1))).1).p), .int .i64 (((onext S (ofI ((j : Int) + 1))).1).q), .string (((onext S (ofI ((j : Int) + 1))).1).str), .int .i64 (((onext S (ofI ((j : Int) + 1))).1).ref)], .agg #[.int .i64 (((onext S (ofI ((j : Int) + 1))).2.1).kind), .int .i64 (((onext S (ofI ((j : Int) + 1))).2.1).p), .int .i64 (((onext S (ofI ((j : Int) + 1))).2.1).q), .string (((onext S (ofI ((j : Int) + 1))).2.1).str), .int .i64 (((onext S (ofI ((j : Int) + 1))).2.1).ref)], .bool ((onext S (ofI ((j : Int) + 1))).2.2.1), .int .i64 ((onext S (ofI ((j : Int) + 1))).2.2.2)]) ?_
      refine hp_ 8 [3, 3] (.agg #[.int .i64 (((onext S (ofI ((j : Int) + 1))).1).kind), .int .i64 (((onext S (ofI ((j : Int) + 1))).1).p), .int .i64 (((onext S (ofI ((j : Int) + 1))).1).q), .string (((onext S (ofI ((j : Int) + 1))).1).str), .int .i64 (((onext S (ofI ((j : Int) + 1))).1).ref)]) ?_
      refine hp_ 9 [3, 3] (.agg #[.int .i64 (((onext S (ofI ((j : Int) + 1))).2.1).kind), .int .i64 (((onext S (ofI ((j : Int) + 1))).2.1).p), .int .i64 (((onext S (ofI ((j : Int) + 1))).2.1).q), .string (((onext S (ofI ((j : Int) + 1))).2.1).str), .int .i64 (((onext S (ofI ((j : Int) + 1))).2.1).ref)]) ?_
      refine hp_ 10 [3, 3] (.bool ((onext S (ofI ((j : Int) + 1))).2.2.1)) ?_
      refine hp_ 11 [3, 3] (.int .i64 ((onext S (ofI ((j : Int) + 1))).2.2.2)) ?_
      refine h_stepS 14 ?_
      refine s_store 1 #[.int .i64 (((onext S (ofI ((j : Int) + 1))).1).kind), .int .i64 (((onext S (ofI ((j : Int) + 1))).1).p), .int .i64 (((onext S (ofI ((j : Int) + 1))).1).q), .string (((onext S (ofI ((j : Int) + 1))).1).str), .int .i64 (((onext S (ofI ((j : Int) + 1))).1).ref)] ?_
      refine s_nil (xs_held [3, 3] ?_)
      refine h_stepS 15 ?_
      refine s_store 2 #[.int .i64 (((onext S (ofI ((j : Int) + 1))).2.1).kind), .int .i64 (((onext S (ofI ((j : Int) + 1))).2.1).p), .int .i64 (((onext S (ofI ((j : Int) + 1))).2.1).q), .string (((onext S (ofI ((j : Int) + 1))).2.1).str), .int .i64 (((onext S (ofI ((j : Int) + 1))).2.1).ref)] ?_
      refine s_nil (xs_held [3, 3] ?_)
      refine hp_ 16 [3, 3] (.bool ((onext S (ofI ((j : Int) + 1))).2.2.1)) ?_
      refine hp_ 17 [3, 3] (.int .i64 ((onext S (ofI ((j : Int) + 1))).2.2.2)) ?_
      refine h_doneS ?_
      exact xcut () (fun _ h => h.re [3, 3, 0] [3, 3])
   ·
    refine s_alloc (.agg #[.int .i64 0, .int .i64 0, .int .i64 0, .string ByteArray.empty, .int .i64 0]) #[.int .i64 0, .int .i64 0, .int .i64 0, .string ByteArray.empty, .int .i64 0] (fun g16 => ?_)
    refine s_nil (xs_held [1, 1] ?_)
    refine h_stepS2 5 13 ?_ ?_
    ·
     refine s_vcall (fun _ h => rkey_s ((j : Int) + 1)) ?_
     rintro _ rfl
     refine s_nil (xs_held [1, 1] ?_)
     refine h_stepS2 6 13 ?_ ?_
     ·
      refine s_call [3] (rmnext_s (S := S) (by (try simp only [lnm]); omega) (ofI ((j : Int) + 1))) ?_
      rintro _ _ ⟨rfl, rfl⟩
      refine s_nil (xs_held [2, 2] ?_)
      refine hp_ 7 [2, 2] (.tuple #[.agg #[.int .i64 (((onext S (ofI ((j : Int) + 1))).1).kind), .int .i64 (((onext S (ofI ((j : Int) + 1))).1).p), .int .i64 (((onext S (ofI ((j : Int) + 1))).1).q), .string (((onext S (ofI ((j : Int) + 1))).1).str), .int .i64 (((onext S (ofI ((j : Int) + 1))).1).ref)], .agg #[.int .i64 (((onext S (ofI ((j : Int) + 1))).2.1).kind), .int .i64 (((onext S (ofI ((j : Int) + 1))).2.1).p), .int .i64 (((onext S (ofI ((j : Int) + 1))).2.1).q), .string (((onext S (ofI ((j : Int) + 1))).2.1).str), .int .i64 (((onext S (ofI ((j : Int) + 1))).2.1).ref)], .bool ((onext S (ofI ((j : Int) + 1))).2.2.1), .int .i64 ((onext S (ofI ((j : Int) + 1))).2.2.2)]) ?_
      refine hp_ 8 [2, 2] (.agg #[.int .i64 (((onext S (ofI ((j : Int) + 1))).1).kind), .int .i64 (((onext S (ofI ((j : Int) + 1))).1).p), .int .i64 (((onext S (ofI ((j : Int) + 1))).1).q), .string (((onext S (ofI ((j : Int) + 1))).1).str), .int .i64 (((onext S (ofI ((j : Int) + 1))).1).ref)]) ?_
      refine hp_ 9 [2, 2] (.agg #[.int .i64 (((onext S (ofI ((j : Int) + 1))).2.1).kind), .int .i64 (((onext S (ofI ((j : Int) + 1))).2.1).p), .int .i64 (((onext S (ofI ((j : Int) + 1))).2.1).q), .string (((onext S (ofI ((j : Int) + 1))).2.1).str), .int .i64 (((onext S (ofI ((j : Int) + 1))).2.1).ref)]) ?_
      refine hp_ 10 [2, 2] (.bool ((onext S (ofI ((j : Int) + 1))).2.2.1)) ?_
      refine hp_ 11 [2, 2] (.int .i64 ((onext S (ofI ((j : Int) + 1))).2.2.2)) ?_
      refine h_stepS 13 ?_
      refine s_alloc (.agg #[.int .i64 0, .int .i64 0, .int .i64 0, .string ByteArray.empty, .int .i64 0]) #[.int .i64 0, .int .i64 0, .int .i64 0, .string ByteArray.empty, .int .i64 0] (fun g17 => ?_)
      refine s_nil (xs_held [3, 3] ?_)
      refine h_stepS 14 ?_
      refine s_store 2 #[.int .i64 (((onext S (ofI ((j : Int) + 1))).1).kind), .int .i64 (((onext S (ofI ((j : Int) + 1))).1).p), .int .i64 (((onext S (ofI ((j : Int) + 1))).1).q), .string (((onext S (ofI ((j : Int) + 1))).1).str), .int .i64 (((onext S (ofI ((j : Int) + 1))).1).ref)] ?_
      refine s_nil (xs_held [3, 3] ?_)
      refine h_stepS 15 ?_
      refine s_store 0 #[.int .i64 (((onext S (ofI ((j : Int) + 1))).2.1).kind), .int .i64 (((onext S (ofI ((j : Int) + 1))).2.1).p), .int .i64 (((onext S (ofI ((j : Int) + 1))).2.1).q), .string (((onext S (ofI ((j : Int) + 1))).2.1).str), .int .i64 (((onext S (ofI ((j : Int) + 1))).2.1).ref)] ?_
      refine s_nil (xs_held [3, 3] ?_)
      refine hp_ 16 [3, 3] (.bool ((onext S (ofI ((j : Int) + 1))).2.2.1)) ?_
      refine hp_ 17 [3, 3] (.int .i64 ((onext S (ofI ((j : Int) + 1))).2.2.2)) ?_
      refine h_doneS ?_
      exact xcut () (fun _ h => h.re [3, 3, 1] [3, 3])
     ·
      refine s_alloc (.agg #[.int .i64 0, .int .i64 0, .int .i64 0, .string ByteArray.empty, .int .i64 0]) #[.int .i64 0, .int .i64 0, .int .i64 0, .string ByteArray.empty, .int .i64 0] (fun g18 => ?_)
      refine s_nil (xs_held [2, 2] ?_)
      refine h_stepS 6 ?_
      refine s_call [4] (rmnext_s (S := S) (by (try simp only [lnm]); omega) (ofI ((j : Int) + 1))) ?_
      rintro _ _ ⟨rfl, rfl⟩
      refine s_nil (xs_held [3, 3] ?_)
      refine hp_ 7 [3, 3] (.tuple #[.agg #[.int .i64 (((onext S (ofI ((j : Int) + 1))).1).kind), .int .i64 (((onext S (ofI ((j : Int) + 1))).1).p), .int .i64 (((onext S (ofI ((j : Int) + 1))).1).q), .string (((onext S (ofI ((j : Int) + 1))).1).str), .int .i64 (((onext S (ofI ((j : Int) + 1))).1).ref)], .agg #[.int .i64 (((onext S (ofI ((j : Int) + 1))).2.1).kind), .int .i64 (((onext S (ofI ((j : Int) + 1))).2.1).p), .int .i64 (((onext S (ofI ((j : Int) + 1))).2.1).q), .string (((onext S (ofI ((j : Int) + 1))).2.1).str), .int .i64 (((onext S (ofI ((j : Int) + 1))).2.1).ref)], .bool ((onext S (ofI ((j : Int) + 1))).2.2.1), .int .i64 ((onext S (ofI ((j : Int) + 1))).2.2.2)]) ?_
      refine hp_ 8 [3, 3] (.agg #[.int .i64 (((onext S (ofI ((j : Int) + 1))).1).kind), .int .i64 (((onext S (ofI ((j : Int) + 1))).1).p), .int .i64 (((onext S (ofI ((j : Int) + 1))).1).q), .string (((onext S (ofI ((j : Int) + 1))).1).str), .int .i64 (((onext S (ofI ((j : Int) + 1))).1).ref)]) ?_
      refine hp_ 9 [3, 3] (.agg #[.int .i64 (((onext S (ofI ((j : Int) + 1))).2.1).kind), .int .i64 (((onext S (ofI ((j : Int) + 1))).2.1).p), .int .i64 (((onext S (ofI ((j : Int) + 1))).2.1).q), .string (((onext S (ofI ((j : Int) + 1))).2.1).str), .int .i64 (((onext S (ofI ((j : Int) + 1))).2.1).ref)]) ?_
      refine hp_ 10 [3, 3] (.bool ((onext S (ofI ((j : Int) + 1))).2.2.1)) ?_
      refine hp_ 11 [3, 3] (.int .i64 ((onext S (ofI ((j : Int) + 1))).2.2.2)) ?_
      refine h_stepS 14 ?_
      refine s_store 2 #[.int .i64 (((onext S (ofI ((j : Int) + 1))).1).kind), .int .i64 (((onext S (ofI ((j : Int) + 1))).1).p), .int .i64 (((onext S (ofI ((j : Int) + 1))).1).q), .string (((onext S (ofI ((j : Int) + 1))).1).str), .int .i64 (((onext S (ofI ((j : Int) + 1))).1).ref)] ?_
      refine s_nil (xs_held [3, 3] ?_)
      refine h_stepS 15 ?_
      refine s_store 1 #[.int .i64 (((onext S (ofI ((j : Int) + 1))).2.1).kind), .int .i64 (((onext S (ofI ((j : Int) + 1))).2.1).p), .int .i64 (((onext S (ofI ((j : Int) + 1))).2.1).q), .string (((onext S (ofI ((j : Int) + 1))).2.1).str), .int .i64 (((onext S (ofI ((j : Int) + 1))).2.1).ref)] ?_
      refine s_nil (xs_held [3, 3] ?_)
      refine hp_ 16 [3, 3] (.bool ((onext S (ofI ((j : Int) + 1))).2.2.1)) ?_
      refine hp_ 17 [3, 3] (.int .i64 ((onext S (ofI ((j : Int) + 1))).2.2.2)) ?_
      refine h_doneS ?_
      exact xcut () (fun _ h => h.re [3, 3, 0] [3, 3])
    ·
     refine s_alloc (.agg #[.int .i64 0, .int .i64 0, .int .i64 0, .string ByteArray.empty, .int .i64 0]) #[.int .i64 0, .int .i64 0, .int .i64 0, .string ByteArray.empty, .int .i64 0] (fun g19 => ?_)
     refine s_nil (xs_held [2, 2] ?_)
     refine h_stepS 5 ?_
     refine s_vcall (fun _ h => rkey_s ((j : Int) + 1)) ?_
     rintro _ rfl
     refine s_nil (xs_held [2, 2] ?_)
     refine h_stepS 6 ?_
     refine s_call [4] (rmnext_s (S := S) (by (try simp only [lnm]); omega) (ofI ((j : Int) + 1))) ?_
     rintro _ _ ⟨rfl, rfl⟩
     refine s_nil (xs_held [3, 3] ?_)
     refine hp_ 7 [3, 3] (.tuple #[.agg #[.int .i64 (((onext S (ofI ((j : Int) + 1))).1).kind), .int .i64 (((onext S (ofI ((j : Int) + 1))).1).p), .int .i64 (((onext S (ofI ((j : Int) + 1))).1).q), .string (((onext S (ofI ((j : Int) + 1))).1).str), .int .i64 (((onext S (ofI ((j : Int) + 1))).1).ref)], .agg #[.int .i64 (((onext S (ofI ((j : Int) + 1))).2.1).kind), .int .i64 (((onext S (ofI ((j : Int) + 1))).2.1).p), .int .i64 (((onext S (ofI ((j : Int) + 1))).2.1).q), .string (((onext S (ofI ((j : Int) + 1))).2.1).str), .int .i64 (((onext S (ofI ((j : Int) + 1))).2.1).ref)], .bool ((onext S (ofI ((j : Int) + 1))).2.2.1), .int .i64 ((onext S (ofI ((j : Int) + 1))).2.2.2)]) ?_
     refine hp_ 8 [3, 3] (.agg #[.int .i64 (((onext S (ofI ((j : Int) + 1))).1).kind), .int .i64 (((onext S (ofI ((j : Int) + 1))).1).p), .int .i64 (((onext S (ofI ((j : Int) + 1))).1).q), .string (((onext S (ofI ((j : Int) + 1))).1).str), .int .i64 (((onext S (ofI ((j : Int) + 1))).1).ref)]) ?_
     refine hp_ 9 [3, 3] (.agg #[.int .i64 (((onext S (ofI ((j : Int) + 1))).2.1).kind), .int .i64 (((onext S (ofI ((j : Int) + 1))).2.1).p), .int .i64 (((onext S (ofI ((j : Int) + 1))).2.1).q), .string (((onext S (ofI ((j : Int) + 1))).2.1).str), .int .i64 (((onext S (ofI ((j : Int) + 1))).2.1).ref)]) ?_
     refine hp_ 10 [3, 3] (.bool ((onext S (ofI ((j : Int) + 1))).2.2.1)) ?_
     refine hp_ 11 [3, 3] (.int .i64 ((onext S (ofI ((j : Int) + 1))).2.2.2)) ?_
     refine h_stepS 14 ?_
     refine s_store 2 #[.int .i64 (((onext S (ofI ((j : Int) + 1))).1).kind), .int .i64 (((onext S (ofI ((j : Int) + 1))).1).p), .int .i64 (((onext S (ofI ((j : Int) + 1))).1).q), .string (((onext S (ofI ((j : Int) + 1))).1).str), .int .i64 (((onext S (ofI ((j : Int) + 1))).1).ref)] ?_
     refine s_nil (xs_held [3, 3] ?_)
     refine h_stepS 15 ?_
     refine s_store 1 #[.int .i64 (((onext S (ofI ((j : Int) + 1))).2.1).kind), .int .i64 (((onext S (ofI ((j : Int) + 1))).2.1).p), .int .i64 (((onext S (ofI ((j : Int) + 1))).2.1).q), .string (((onext S (ofI ((j : Int) + 1))).2.1).str), .int .i64 (((onext S (ofI ((j : Int) + 1))).2.1).ref)] ?_
     refine s_nil (xs_held [3, 3] ?_)
     refine hp_ 16 [3, 3] (.bool ((onext S (ofI ((j : Int) + 1))).2.2.1)) ?_
     refine hp_ 17 [3, 3] (.int .i64 ((onext S (ofI ((j : Int) + 1))).2.2.2)) ?_
     refine h_doneS ?_
     exact xcut () (fun _ h => h.re [3, 3, 0] [3, 3])
   ·
    refine s_alloc (.agg #[.int .i64 0, .int .i64 0, .int .i64 0, .string ByteArray.empty, .int .i64 0]) #[.int .i64 0, .int .i64 0, .int .i64 0, .string ByteArray.empty, .int .i64 0] (fun g20 => ?_)
    refine s_nil (xs_held [1, 1] ?_)
    refine h_stepS2 5 12 ?_ ?_
    ·
     refine s_vcall (fun _ h => rkey_s ((j : Int) + 1)) ?_
     rintro _ rfl
     refine s_nil (xs_held [1, 1] ?_)
     refine h_stepS2 6 12 ?_ ?_
     ·
      refine s_call [3] (rmnext_s (S := S) (by (try simp only [lnm]); omega) (ofI ((j : Int) + 1))) ?_
      rintro _ _ ⟨rfl, rfl⟩
      refine s_nil (xs_held [2, 2] ?_)
      refine hp_ 7 [2, 2] (.tuple #[.agg #[.int .i64 (((onext S (ofI ((j : Int) + 1))).1).kind), .int .i64 (((onext S (ofI ((j : Int) + 1))).1).p), .int .i64 (((onext S (ofI ((j : Int) + 1))).1).q), .string (((onext S (ofI ((j : Int) + 1))).1).str), .int .i64 (((onext S (ofI ((j : Int) + 1))).1).ref)], .agg #[.int .i64 (((onext S (ofI ((j : Int) + 1))).2.1).kind), .int .i64 (((onext S (ofI ((j : Int) + 1))).2.1).p), .int .i64 (((onext S (ofI ((j : Int) + 1))).2.1).q), .string (((onext S (ofI ((j : Int) + 1))).2.1).str), .int .i64 (((onext S (ofI ((j : Int) + 1))).2.1).ref)], .bool ((onext S (ofI ((j : Int) + 1))).2.2.1), .int .i64 ((onext S (ofI ((j : Int) + 1))).2.2.2)]) ?_
      refine hp_ 8 [2, 2] (.agg #[.int .i64 (((onext S (ofI ((j : Int) + 1))).1).kind), .int .i64 (((onext S (ofI ((j : Int) + 1))).1).p), .int .i64 (((onext S (ofI ((j : Int) + 1))).1).q), .string (((onext S (ofI ((j : Int) + 1))).1).str), .int .i64 (((onext S (ofI ((j : Int) + 1))).1).ref)]) ?_
      refine hp_ 9 [2, 2] (.agg #[.int .i64 (((onext S (ofI ((j : Int) + 1))).2.1).kind), .int .i64 (((onext S (ofI ((j : Int) + 1))).2.1).p), .int .i64 (((onext S (ofI ((j : Int) + 1))).2.1).q), .string (((onext S (ofI ((j : Int) + 1))).2.1).str), .int .i64 (((onext S (ofI ((j : Int) + 1))).2.1).ref)]) ?_
      refine hp_ 10 [2, 2] (.bool ((onext S (ofI ((j : Int) + 1))).2.2.1)) ?_
      refine hp_ 11 [2, 2] (.int .i64 ((onext S (ofI ((j : Int) + 1))).2.2.2)) ?_
      refine h_stepS 12 ?_
      refine s_alloc (.agg #[.int .i64 0, .int .i64 0, .int .i64 0, .string ByteArray.empty, .int .i64 0]) #[.int .i64 0, .int .i64 0, .int .i64 0, .string ByteArray.empty, .int .i64 0] (fun g21 => ?_)
      refine s_nil (xs_held [3, 3] ?_)
      refine h_stepS 14 ?_
      refine s_store 0 #[.int .i64 (((onext S (ofI ((j : Int) + 1))).1).kind), .int .i64 (((onext S (ofI ((j : Int) + 1))).1).p), .int .i64 (((onext S (ofI ((j : Int) + 1))).1).q), .string (((onext S (ofI ((j : Int) + 1))).1).str), .int .i64 (((onext S (ofI ((j : Int) + 1))).1).ref)] ?_
      refine s_nil (xs_held [3, 3] ?_)
      refine h_stepS 15 ?_
      refine s_store 2 #[.int .i64 (((onext S (ofI ((j : Int) + 1))).2.1).kind), .int .i64 (((onext S (ofI ((j : Int) + 1))).2.1).p), .int .i64 (((onext S (ofI ((j : Int) + 1))).2.1).q), .string (((onext S (ofI ((j : Int) + 1))).2.1).str), .int .i64 (((onext S (ofI ((j : Int) + 1))).2.1).ref)] ?_
      refine s_nil (xs_held [3, 3] ?_)
      refine hp_ 16 [3, 3] (.bool ((onext S (ofI ((j : Int) + 1))).2.2.1)) ?_
      refine hp_ 17 [3, 3] (.int .i64 ((onext S (ofI ((j : Int) + 1))).2.2.2)) ?_
      refine h_doneS ?_
      exact xcut () (fun _ h => h.re [3, 3, 1] [3, 3])
     ·
      refine s_alloc (.agg #[.int .i64 0, .int .i64 0, .int .i64 0, .string ByteArray.empty, .int .i64 0]) #[.int .i64 0, .int .i64 0, .int .i64 0, .string ByteArray.empty, .int .i64 0] (fun g22 => ?_)
      refine s_nil (xs_held [2, 2] ?_)
      refine h_stepS 6 ?_
      refine s_call [4] (rmnext_s (S := S) (by (try simp only [lnm]); omega) (ofI ((j : Int) + 1))) ?_
      rintro _ _ ⟨rfl, rfl⟩
      refine s_nil (xs_held [3, 3] ?_)
      refine hp_ 7 [3, 3] (.tuple #[.agg #[.int .i64 (((onext S (ofI ((j : Int) + 1))).1).kind), .int .i64 (((onext S (ofI ((j : Int) + 1))).1).p), .int .i64 (((onext S (ofI ((j : Int) + 1))).1).q), .string (((onext S (ofI ((j : Int) + 1))).1).str), .int .i64 (((onext S (ofI ((j : Int) + 1))).1).ref)], .agg #[.int .i64 (((onext S (ofI ((j : Int) + 1))).2.1).kind), .int .i64 (((onext S (ofI ((j : Int) + 1))).2.1).p), .int .i64 (((onext S (ofI ((j : Int) + 1))).2.1).q), .string (((onext S (ofI ((j : Int) + 1))).2.1).str), .int .i64 (((onext S (ofI ((j : Int) + 1))).2.1).ref)], .bool ((onext S (ofI ((j : Int) + 1))).2.2.1), .int .i64 ((onext S (ofI ((j : Int) + 1))).2.2.2)]) ?_
      refine hp_ 8 [3, 3] (.agg #[.int .i64 (((onext S (ofI ((j : Int) + 1))).1).kind), .int .i64 (((onext S (ofI ((j : Int) + 1))).1).p), .int .i64 (((onext S (ofI ((j : Int) + 1))).1).q), .string (((onext S (ofI ((j : Int) + 1))).1).str), .int .i64 (((onext S (ofI ((j : Int) + 1))).1).ref)]) ?_
      refine hp_ 9 [3, 3] (.agg #[.int .i64 (((onext S (ofI ((j : Int) + 1))).2.1).kind), .int .i64 (((onext S (ofI ((j : Int) + 1))).2.1).p), .int .i64 (((onext S (ofI ((j : Int) + 1))).2.1).q), .string (((onext S (ofI ((j : Int) + 1))).2.1).str), .int .i64 (((onext S (ofI ((j : Int) + 1))).2.1).ref)]) ?_
      refine hp_ 10 [3, 3] (.bool ((onext S (ofI ((j : Int) + 1))).2.2.1)) ?_
      refine hp_ 11 [3, 3] (.int .i64 ((onext S (ofI ((j : Int) + 1))).2.2.2)) ?_
      refine h_stepS 14 ?_
      refine s_store 1 #[.int .i64 (((onext S (ofI ((j : Int) + 1))).1).kind), .int .i64 (((onext S (ofI ((j : Int) + 1))).1).p), .int .i64 (((onext S (ofI ((j : Int) + 1))).1).q), .string (((onext S (ofI ((j : Int) + 1))).1).str), .int .i64 (((onext S (ofI ((j : Int) + 1))).1).ref)] ?_
      refine s_nil (xs_held [3, 3] ?_)
      refine h_stepS 15 ?_
      refine s_store 2 #[.int .i64 (((onext S (ofI ((j : Int) + 1))).2.1).kind), .int .i64 (((onext S (ofI ((j : Int) + 1))).2.1).p), .int .i64 (((onext S (ofI ((j : Int) + 1))).2.1).q), .string (((onext S (ofI ((j : Int) + 1))).2.1).str), .int .i64 (((onext S (ofI ((j : Int) + 1))).2.1).ref)] ?_
      refine s_nil (xs_held [3, 3] ?_)
      refine hp_ 16 [3, 3] (.bool ((onext S (ofI ((j : Int) + 1))).2.2.1)) ?_
      refine hp_ 17 [3, 3] (.int .i64 ((onext S (ofI ((j : Int) + 1))).2.2.2)) ?_
      refine h_doneS ?_
      exact xcut () (fun _ h => h.re [3, 3, 0] [3, 3])
    ·
     refine s_alloc (.agg #[.int .i64 0, .int .i64 0, .int .i64 0, .string ByteArray.empty, .int .i64 0]) #[.int .i64 0, .int .i64 0, .int .i64 0, .string ByteArray.empty, .int .i64 0] (fun g23 => ?_)
     refine s_nil (xs_held [2, 2] ?_)
     refine h_stepS 5 ?_
     refine s_vcall (fun _ h => rkey_s ((j : Int) + 1)) ?_
     rintro _ rfl
     refine s_nil (xs_held [2, 2] ?_)
     refine h_stepS 6 ?_
     refine s_call [4] (rmnext_s (S := S) (by (try simp only [lnm]); omega) (ofI ((j : Int) + 1))) ?_
     rintro _ _ ⟨rfl, rfl⟩
     refine s_nil (xs_held [3, 3] ?_)
     refine hp_ 7 [3, 3] (.tuple #[.agg #[.int .i64 (((onext S (ofI ((j : Int) + 1))).1).kind), .int .i64 (((onext S (ofI ((j : Int) + 1))).1).p), .int .i64 (((onext S (ofI ((j : Int) + 1))).1).q), .string (((onext S (ofI ((j : Int) + 1))).1).str), .int .i64 (((onext S (ofI ((j : Int) + 1))).1).ref)], .agg #[.int .i64 (((onext S (ofI ((j : Int) + 1))).2.1).kind), .int .i64 (((onext S (ofI ((j : Int) + 1))).2.1).p), .int .i64 (((onext S (ofI ((j : Int) + 1))).2.1).q), .string (((onext S (ofI ((j : Int) + 1))).2.1).str), .int .i64 (((onext S (ofI ((j : Int) + 1))).2.1).ref)], .bool ((onext S (ofI ((j : Int) + 1))).2.2.1), .int .i64 ((onext S (ofI ((j : Int) + 1))).2.2.2)]) ?_
     refine hp_ 8 [3, 3] (.agg #[.int .i64 (((onext S (ofI ((j : Int) + 1))).1).kind), .int .i64 (((onext S (ofI ((j : Int) + 1))).1).p), .int .i64 (((onext S (ofI ((j : Int) + 1))).1).q), .string (((onext S (ofI ((j : Int) + 1))).1).str), .int .i64 (((onext S (ofI ((j : Int) + 1))).1).ref)]) ?_
     refine hp_ 9 [3, 3] (.agg #[.int .i64 (((onext S (ofI ((j : Int) + 1))).2.1).kind), .int .i64 (((onext S (ofI ((j : Int) + 1))).2.1).p), .int .i64 (((onext S (ofI ((j : Int) + 1))).2.1).q), .string (((onext S (ofI ((j : Int) + 1))).2.1).str), .int .i64 (((onext S (ofI ((j : Int) + 1))).2.1).ref)]) ?_
     refine hp_ 10 [3, 3] (.bool ((onext S (ofI ((j : Int) + 1))).2.2.1)) ?_
     refine hp_ 11 [3, 3] (.int .i64 ((onext S (ofI ((j : Int) + 1))).2.2.2)) ?_
     refine h_stepS 14 ?_
     refine s_store 1 #[.int .i64 (((onext S (ofI ((j : Int) + 1))).1).kind), .int .i64 (((onext S (ofI ((j : Int) + 1))).1).p), .int .i64 (((onext S (ofI ((j : Int) + 1))).1).q), .string (((onext S (ofI ((j : Int) + 1))).1).str), .int .i64 (((onext S (ofI ((j : Int) + 1))).1).ref)] ?_
     refine s_nil (xs_held [3, 3] ?_)
     refine h_stepS 15 ?_
     refine s_store 2 #[.int .i64 (((onext S (ofI ((j : Int) + 1))).2.1).kind), .int .i64 (((onext S (ofI ((j : Int) + 1))).2.1).p), .int .i64 (((onext S (ofI ((j : Int) + 1))).2.1).q), .string (((onext S (ofI ((j : Int) + 1))).2.1).str), .int .i64 (((onext S (ofI ((j : Int) + 1))).2.1).ref)] ?_
     refine s_nil (xs_held [3, 3] ?_)
     refine hp_ 16 [3, 3] (.bool ((onext S (ofI ((j : Int) + 1))).2.2.1)) ?_
     refine hp_ 17 [3, 3] (.int .i64 ((onext S (ofI ((j : Int) + 1))).2.2.2)) ?_
     refine h_doneS ?_
     exact xcut () (fun _ h => h.re [3, 3, 0] [3, 3])
  ·
   refine k_reg ?_
   refine sp (.bool (staleB S n j)) ?_
   refine sp (.bool (staleB S n j)) ?_
   refine s_fork 37 (staleB S n j) (fun c24 => ?_) (fun c24 => ?_)
   ·
    refine s_skip ?_
    refine s_skip ?_
    refine sp (.bool true) ?_
    refine sp (.bool true) ?_
    refine s_nil ?_
    refine xs_block ?_
    refine xs_then ?_
    refine k_reg ?_
    refine sp (.int .i64 ((j : Int) + 1)) ?_
    refine s_lt (t_add ((j : Int) + 1) 1 (by (try simp only [lnm]); omega)) ?_
    refine sp (.int .i64 (((j : Int) + 1) + 1)) ?_
    refine s_nil ?_
    have hst : true = staleB S n (j + 1) := by rw [← stale_step S hi1.1]; first | rfl | simp [c4, c24]
    refine xs_mem (fun _ h => rt_shut (h.re [0, 0, 0] [])) ?_
    exact xs_round (j + 1) (by omega) ⟨by omega, by omega⟩ (sub_of rfl ⟨⟨rfl, rfl⟩, ⟨⟨rfl, congrArg Value.bool hst⟩, ⟨⟨rfl, rfl⟩, trivial⟩⟩⟩) (fun _ h => h.re [0] [])
   ·
    refine sp (.int .i64 ((onext S (ofI ((j : Int) + 1))).2.2.2)) ?_
    refine s_lt t_cmp ?_
    refine sp (.bool (decide ((onext S (ofI ((j : Int) + 1))).2.2.2 = 0))) ?_
    refine sp (.bool (decide ((onext S (ofI ((j : Int) + 1))).2.2.2 = 0))) ?_
    refine s_nil ?_
    refine xs_block ?_
    refine xs_then ?_
    refine k_reg ?_
    refine sp (.int .i64 ((j : Int) + 1)) ?_
    refine s_lt (t_add ((j : Int) + 1) 1 (by (try simp only [lnm]); omega)) ?_
    refine sp (.int .i64 (((j : Int) + 1) + 1)) ?_
    refine s_nil ?_
    have hst : (decide ((onext S (ofI ((j : Int) + 1))).2.2.2 = 0)) = staleB S n (j + 1) := by rw [← stale_step S hi1.1]; first | rfl | simp [c4, c24]
    refine xs_mem (fun _ h => rt_shut (h.re [0, 0, 0] [])) ?_
    exact xs_round (j + 1) (by omega) ⟨by omega, by omega⟩ (sub_of rfl ⟨⟨rfl, rfl⟩, ⟨⟨rfl, congrArg Value.bool hst⟩, ⟨⟨rfl, rfl⟩, trivial⟩⟩⟩) (fun _ h => h.re [0] [])
 ·
  have p25 := of_decide_eq_false c4
  refine k_exit ?_
  refine xs_exit ?_
  refine xs_exit ?_
  refine xs_here ?_
  refine xs_then ?_
  refine k_seq ?_
  refine k_sr ?_
  refine sp (.bool (staleB S n j)) ?_
  refine sp (.bool (!(staleB S n j))) ?_
  refine s_nt ?_
  refine k_cond (!(staleB S n j)) (fun c26 => ?_) (fun c26 => ?_)
  ·
   have c27 := not_t c26
   refine k_ret ?_
   refine xs_ret ?_
   refine xs_mem (fun _ h => rt_shut (h.re [0, 0, 0] [])) ?_
   have hj : j = L.length := by omega
   have hT : (if staleB S n L.length then purge S L.length else S) = S := by rw [if_neg (by rw [← hj, c27]; decide)]
   refine xs_fin [] (rtA b L S :: F) SI.nil (fun _ h => h.re [0] []) ⟨rfl, ?_⟩
   rw [hT]
  ·
   have c28 := not_f c26
   refine k_st ?_
   refine k_sr ?_
   refine s_pcall (fun _ h => rmnew_s) ?_
   rintro _ _ ⟨r29, rfl, rfl⟩
   refine sp (pB r29 0) ?_
   refine s_nr ?_
   refine sp (pB b 0) ?_
   refine sp (pB b 0) ?_
   refine sp (pB b 1) ?_
   refine s_lt (t_load 1 (pB r3 0)) ?_
   refine s_call [3] (rmkeys_s (S := S) (by (try simp only [lnm]); omega)) ?_
   rintro v30 _ rfl
   refine s_fact (fun H h => ((Acc.own (T := VlT) (L := (okeys S)) 0 rfl) H h).form) (fun hf31 => ?_)
   refine sp v30 ?_
   refine s_nt ?_
   refine k_seq ?_
   refine k_sr ?_
   refine sp (.int .i64 0) ?_
   refine s_nt ?_
   refine k_block ?_
   refine k_mem (fun _ h => rt_shut (h.re [3, 3, 1] [])) ?_
   refine k_loop (ι := Nat) (fun i => i ≤ (okeys S).length) (fun i => [(0, pB b 0), (10, pB r29 0), (11, v30), (12, .int .i64 (i : Int))]) (fun i => rtA b L S :: own VlT v30 (okeys S) :: rmA r29 (purgeS S L.length i) :: F) (fun i => (okeys S).length - i) 0 (Nat.zero_le _) (sub_of rfl ⟨⟨rfl, rfl⟩, ⟨⟨rfl, rfl⟩, ⟨⟨rfl, rfl⟩, ⟨⟨rfl, rfl⟩, trivial⟩⟩⟩⟩) (fun _ h => h.re [0, 0, 0] []) ?_
   rintro i hi32
   show SK _ _ _ _ _ [(0, .pointer (some ⟨b, 0, none⟩)), (10, .pointer (some ⟨r29, 0, none⟩)), (11, v30), (12, .int .i64 (i : Int))] _ (rtA b L S :: own VlT v30 (okeys S) :: rmA r29 (purgeS S L.length i) :: F)
   have hpl := purgeS_len S L.length i
   refine k_seq ?_
   refine k_sr ?_
   refine sp (.int .i64 (i : Int)) ?_
   refine sp v30 ?_
   refine s_lt (t_len VlT_ok Try.underlying33 (.own 1)) ?_
   refine s_lt t_cmp ?_
   refine s_nt ?_
   refine k_cond (decide ((i : Int) < ((okeys S).length : Int))) (fun c33 => ?_) (fun c33 => ?_)
   ·
    have p34 := of_decide_eq_true c33
    refine k_st ?_
    refine k_seq ?_
    refine k_block ?_
    refine k_sr ?_
    refine sp v30 ?_
    refine sp (.int .i64 (i : Int)) ?_
    refine s_lt (t_index VlT_ok Try.underlying33 (.own 1) (i : Int) i (by omega) (by (try simp only [lnm]); omega) (by omega)) ?_
    obtain ⟨y35, hy36⟩ : ∃ y, (okeys S)[i]? = some y := ⟨_, List.getElem?_eq_getElem (by (try simp only [lnm]); omega)⟩
    obtain ⟨s37, hs38, rfl⟩ := okeys_get hy36
    refine s_lt (t_loadE VlT_ok (.own 1) hy36) ?_
    refine s_vcall (fun _ h => rwhole2_s s37.key) ?_
    rintro _ rfl
    refine sp (.int .i64 (whole s37.key)) ?_
    refine s_nr ?_
    refine sp (.int .i64 (whole s37.key)) ?_
    refine s_lt t_cmp ?_
    refine sp (.bool (decide ((whole s37.key) < 1))) ?_
    refine s_fork 62 (decide ((whole s37.key) < 1)) (fun c39 => ?_) (fun c39 => ?_)
    ·
     have p40 := of_decide_eq_true c39
     refine s_skip ?_
     refine s_skip ?_
     refine s_skip ?_
     refine s_skip ?_
     refine s_skip ?_
     refine s_skip ?_
     refine s_skip ?_
     refine sp (.bool true) ?_
     refine s_nt ?_
     refine k_true ?_
     refine k_mem2 (fun H h => rt_open (h.re [0] [])) (fun lv41 r42 hw => ?_)
     refine k_held [blkA b #[lv41, pB r42 0] 128, own VlT lv41 L, own VlT v30 (okeys S)] ?_
     refine hp_ 0 [0, 0, 1] (pB r29 0) ?_
     refine hp_ 1 [0, 0, 1] v30 ?_
     refine hp_ 2 [0, 0, 1] (.int .i64 (i : Int)) ?_
     refine h_l 3 rfl [0, 0, 1] (fun _ => (t_index VlT_ok Try.underlying33 (.own 2) (i : Int) i (by omega) (by (try simp only [lnm]); omega) (by omega))) ?_
     refine h_l 4 rfl [0, 0, 1] (fun _ => (t_loadE VlT_ok (.own 2) hy36)) ?_
     refine hp_ 5 [0, 0, 1] (pB b 0) ?_
     refine hp_ 6 [0, 0, 1] (pB b 0) ?_
     refine hp_ 7 [0, 0, 1] (pB b 1) ?_
     refine h_l 8 rfl [0, 0, 1] (fun _ => (t_load 0 (pB r42 0))) ?_
     refine hp_ 9 [0, 0, 1] v30 ?_
     refine hp_ 10 [0, 0, 1] (.int .i64 (i : Int)) ?_
     refine h_l 11 rfl [0, 0, 1] (fun _ => (t_index VlT_ok Try.underlying33 (.own 2) (i : Int) i (by omega) (by (try simp only [lnm]); omega) (by omega))) ?_
     refine h_l 12 rfl [0, 0, 1] (fun _ => (t_loadE VlT_ok (.own 2) hy36)) ?_
     refine h_stepS 13 ?_
     refine s_call [2] (rmget_s (S := S) (by (try simp only [lnm]); omega) s37.key) ?_
     rintro _ _ ⟨rfl, rfl⟩
     refine s_nil (xs_held [1, 1, 1] ?_)
     refine h_stepS 14 ?_
     refine s_call [4] (rmset_s (S := (purgeS S L.length i)) (by (try simp only [lnm]); omega) s37.key (oget S s37.key)) ?_
     rintro _ _ ⟨rfl, rfl⟩
     refine s_nil (xs_held [2, 2, 2] ?_)
     refine h_doneS ?_
     refine xs_block ?_
     refine xs_then ?_
     refine k_reg ?_
     refine sp (.int .i64 (i : Int)) ?_
     refine s_lt (t_add (i : Int) 1 (by (try simp only [lnm]); omega)) ?_
     refine sp (.int .i64 ((i : Int) + 1)) ?_
     refine s_nil ?_
     have hps := purge_step hinv0 (m := L.length) hs38
     have hib : inB (whole s37.key) L.length = false := inB_false (by omega)
     have hpe := hps.1 hib
     rw [hpe]
     refine xs_mem (fun _ h => rt_shut (h.re [2, 2, 1] [])) ?_
     exact xs_round (i + 1) (by omega) (by omega) (sub_of rfl ⟨⟨rfl, rfl⟩, ⟨⟨rfl, rfl⟩, ⟨⟨rfl, rfl⟩, ⟨⟨rfl, rfl⟩, trivial⟩⟩⟩⟩) (fun _ h => h.re [0, 1, 0] [])
    ·
     have p43 := of_decide_eq_false c39
     refine sp (.int .i64 (whole s37.key)) ?_
     refine sp (pB b 0) ?_
     refine sp (pB b 0) ?_
     refine sp (pB b 0) ?_
     refine s_mem2 (fun H h => rt_open (h.re [0] [])) (fun lv44 r45 hw => ?_)
     refine s_lt (t_load 0 lv44) ?_
     refine s_lt (t_len VlT_ok Try.underlying33 (.own 1)) ?_
     refine s_lt t_cmp ?_
     refine sp (.bool (decide ((L.length : Int) < (whole s37.key)))) ?_
     refine s_nt ?_
     refine k_cond (decide ((L.length : Int) < (whole s37.key))) (fun c46 => ?_) (fun c46 => ?_)
     ·
      have p47 := of_decide_eq_true c46
      refine k_held [blkA b #[lv44, pB r45 0] 128, own VlT lv44 L, own VlT v30 (okeys S)] ?_
      refine hp_ 0 [0, 0, 1] (pB r29 0) ?_
      refine hp_ 1 [0, 0, 1] v30 ?_
      refine hp_ 2 [0, 0, 1] (.int .i64 (i : Int)) ?_
      refine h_l 3 rfl [0, 0, 1] (fun _ => (t_index VlT_ok Try.underlying33 (.own 2) (i : Int) i (by omega) (by (try simp only [lnm]); omega) (by omega))) ?_
      refine h_l 4 rfl [0, 0, 1] (fun _ => (t_loadE VlT_ok (.own 2) hy36)) ?_
      refine hp_ 5 [0, 0, 1] (pB b 0) ?_
      refine hp_ 6 [0, 0, 1] (pB b 0) ?_
      refine hp_ 7 [0, 0, 1] (pB b 1) ?_
      refine h_l 8 rfl [0, 0, 1] (fun _ => (t_load 0 (pB r45 0))) ?_
      refine hp_ 9 [0, 0, 1] v30 ?_
      refine hp_ 10 [0, 0, 1] (.int .i64 (i : Int)) ?_
      refine h_l 11 rfl [0, 0, 1] (fun _ => (t_index VlT_ok Try.underlying33 (.own 2) (i : Int) i (by omega) (by (try simp only [lnm]); omega) (by omega))) ?_
      refine h_l 12 rfl [0, 0, 1] (fun _ => (t_loadE VlT_ok (.own 2) hy36)) ?_
      refine h_stepS 13 ?_
      refine s_call [2] (rmget_s (S := S) (by (try simp only [lnm]); omega) s37.key) ?_
      rintro _ _ ⟨rfl, rfl⟩
      refine s_nil (xs_held [1, 1, 1] ?_)
      refine h_stepS 14 ?_
      refine s_call [4] (rmset_s (S := (purgeS S L.length i)) (by (try simp only [lnm]); omega) s37.key (oget S s37.key)) ?_
      rintro _ _ ⟨rfl, rfl⟩
      refine s_nil (xs_held [2, 2, 2] ?_)
      refine h_doneS ?_
      refine xs_block ?_
      refine xs_then ?_
      refine k_reg ?_
      refine sp (.int .i64 (i : Int)) ?_
      refine s_lt (t_add (i : Int) 1 (by (try simp only [lnm]); omega)) ?_
      refine sp (.int .i64 ((i : Int) + 1)) ?_
      refine s_nil ?_
      have hps := purge_step hinv0 (m := L.length) hs38
      have hib : inB (whole s37.key) L.length = false := inB_false (by omega)
      have hpe := hps.1 hib
      rw [hpe]
      refine xs_mem (fun _ h => rt_shut (h.re [2, 2, 1] [])) ?_
      exact xs_round (i + 1) (by omega) (by omega) (sub_of rfl ⟨⟨rfl, rfl⟩, ⟨⟨rfl, rfl⟩, ⟨⟨rfl, rfl⟩, ⟨⟨rfl, rfl⟩, trivial⟩⟩⟩⟩) (fun _ h => h.re [0, 1, 0] [])
     ·
      have p48 := of_decide_eq_false c46
      refine k_skip ?_
      refine xs_block ?_
      refine xs_then ?_
      refine k_reg ?_
      refine sp (.int .i64 (i : Int)) ?_
      refine s_lt (t_add (i : Int) 1 (by (try simp only [lnm]); omega)) ?_
      refine sp (.int .i64 ((i : Int) + 1)) ?_
      refine s_nil ?_
      have hps := purge_step hinv0 (m := L.length) hs38
      have hib : inB (whole s37.key) L.length = true := inB_iff.2 (by omega)
      have hpe := hps.2 hib
      rw [hpe]
      refine xs_mem (fun _ h => rt_shut (h.re [0, 0, 0] [])) ?_
      exact xs_round (i + 1) (by omega) (by omega) (sub_of rfl ⟨⟨rfl, rfl⟩, ⟨⟨rfl, rfl⟩, ⟨⟨rfl, rfl⟩, ⟨⟨rfl, rfl⟩, trivial⟩⟩⟩⟩) (fun _ h => h.re [0, 0, 0] [])
   ·
    have p49 := of_decide_eq_false c33
    refine k_exit ?_
    refine xs_exit ?_
    refine xs_exit ?_
    refine xs_here ?_
    refine xs_then ?_
    refine k_reg ?_
    refine sp (pB b 0) ?_
    refine sp (pB r29 0) ?_
    refine sp (pB b 0) ?_
    refine sp (pB b 1) ?_
    refine s_mem2 (fun H h => rt_open (h.re [0] [])) (fun lv50 r51 hw => ?_)
    refine s_store 0 #[lv50, pB r29 0] ?_
    refine s_nil ?_
    refine xs_mem (fun _ h => rt_shut (h.re [0, 0, 2] [])) ?_
    have hj : j = L.length := by omega
    have hpe : purgeS S L.length i = purge S L.length := purge_end S L.length i (by rw [← okeys_length]; omega)
    have hT : (if staleB S n L.length then purge S L.length else S) = purgeS S L.length i := by rw [if_pos (by rw [← hj]; exact c28), hpe]
    refine xs_finN [] (rtA b L (purgeS S L.length i) :: F) SI.nil (fun _ h => h.re [0] [1, 1]) ⟨rfl, ?_⟩
    rw [hT]
theorem rtset_s {Z : Zone} {F : List Asr} {b : Nat} {L : List Vl} {S : List Slt} (hti : TInv ⟨L, S⟩) (hl : L.length ≤ 100000) (hs : S.length ≤ 100000) (k v : Vl) : SF Try.prog 88 #[.pointer (some ⟨b, 0, none⟩), k.v, v.v] Z (rtA b L S :: F) fun r Bs => r = .int .i64 (tsetE k v) ∧ Bs = rtA b (tset ⟨L, S⟩ k v).list (tset ⟨L, S⟩ k v).rest :: F := by
 refine sf_enter Try.func88 126 [(0, pB b 0), (1, .agg #[.int .i64 k.kind, .int .i64 k.p, .int .i64 k.q, .string k.str, .int .i64 k.ref]), (2, .agg #[.int .i64 v.kind, .int .i64 v.p, .int .i64 v.q, .string v.str, .int .i64 v.ref])] (fun w0 => ?_)
 refine k_fact (fun H h => rt_inv (h.re [0] [])) (fun hinv0 => ?_)
 have hol := okeys_len S
 refine k_sr ?_
 refine s_box #[.int .i64 k.kind, .int .i64 k.p, .int .i64 k.q, .string k.str, .int .i64 k.ref] (fun g1 => ?_)
 refine s_box #[.int .i64 v.kind, .int .i64 v.p, .int .i64 v.q, .string v.str, .int .i64 v.ref] (fun g2 => ?_)
 refine sp (.int .i64 0) ?_
 refine s_nt ?_
 refine k_seq ?_
 refine k_sr ?_
 refine sp (pB b 0) ?_
 refine sp (.bool false) ?_
 refine s_nt ?_
 refine k_false ?_
 refine k_st ?_
 refine k_seq ?_
 refine k_sr ?_
 refine sp (pB g1 0) ?_
 refine s_lt (t_load 1 (.int .i64 k.kind)) ?_
 refine s_lt t_cmp ?_
 refine sp (.bool (decide (k.kind = 0))) ?_
 refine s_fork 13 (decide (k.kind = 0)) (fun c3 => ?_) (fun c3 => ?_)
 ·
  have p4 := of_decide_eq_true c3
  refine s_skip ?_
  refine s_skip ?_
  refine s_skip ?_
  refine sp (.bool true) ?_
  refine s_nt ?_
  refine k_true ?_
  refine k_sr ?_
  refine sp (.int .i64 13) ?_
  refine s_nt ?_
  refine k_ret ?_
  refine xs_ret ?_
  have hk : okKey k = false := okKey_bad (by first | exact p4 | exact .inl p4 | exact .inr p4)
  refine xs_fin [.int .i64 13] (rtA b L S :: F) (SI.tmp 6 SI.nil) (fun _ h => h.re [2] [1, 1]) ⟨congrArg (Value.int .i64) (tsetE_bad hk).symm, ?_⟩
  rw [tset_bad (v := v) (.inl hk)]
 ·
  have p5 := of_decide_eq_false c3
  refine s_lt (t_loadA 1 #[.int .i64 k.kind, .int .i64 k.p, .int .i64 k.q, .string k.str, .int .i64 k.ref]) ?_
  refine s_vcall (fun _ h => rvalid_s k) ?_
  rintro _ rfl
  refine sp (.bool (!(validB k))) ?_
  refine sp (.bool (!(validB k))) ?_
  refine s_nt ?_
  refine k_cond (!(validB k)) (fun c6 => ?_) (fun c6 => ?_)
  ·
   have c7 := not_t c6
   refine k_sr ?_
   refine sp (.int .i64 13) ?_
   refine s_nt ?_
   refine k_ret ?_
   refine xs_ret ?_
   have hk : okKey k = false := okKey_bad (by first | exact c7 | exact .inl c7 | exact .inr c7)
   refine xs_fin [.int .i64 13] (rtA b L S :: F) (SI.tmp 6 SI.nil) (fun _ h => h.re [2] [1, 1]) ⟨congrArg (Value.int .i64) (tsetE_bad hk).symm, ?_⟩
   rw [tset_bad (v := v) (.inl hk)]
  ·
   have c8 := not_f c6
   refine k_st ?_
   refine k_seq ?_
   refine k_sr ?_
   refine s_lt (t_loadA 0 #[.int .i64 v.kind, .int .i64 v.p, .int .i64 v.q, .string v.str, .int .i64 v.ref]) ?_
   refine s_vcall (fun _ h => rvalid_s v) ?_
   rintro _ rfl
   refine sp (.bool (!(validB v))) ?_
   refine s_nt ?_
   refine k_cond (!(validB v)) (fun c9 => ?_) (fun c9 => ?_)
   ·
    have c10 := not_t c9
    refine k_sr ?_
    refine sp (.int .i64 2) ?_
    refine s_nt ?_
    refine k_ret ?_
    refine xs_ret ?_
    have hk := okKey_good c3 c8
    refine xs_fin [.int .i64 2] (rtA b L S :: F) (SI.tmp 6 SI.nil) (fun _ h => h.re [2] [1, 1]) ⟨congrArg (Value.int .i64) (tsetE_val hk c10).symm, ?_⟩
    rw [tset_bad (v := v) (.inr c10)]
   ·
    have c11 := not_f c9
    refine k_st ?_
    refine k_sr ?_
    refine s_lt (t_loadA 1 #[.int .i64 k.kind, .int .i64 k.p, .int .i64 k.q, .string k.str, .int .i64 k.ref]) ?_
    refine s_vcall (fun _ h => rwhole2_s k) ?_
    rintro _ rfl
    refine sp (.int .i64 (whole k)) ?_
    refine s_nt ?_
    refine k_seq ?_
    refine k_sr ?_
    refine sp (.int .i64 (whole k)) ?_
    refine s_lt t_cmp ?_
    refine sp (.bool (decide ((1 : Int) ≤ (whole k)))) ?_
    refine s_fork 25 (decide ((1 : Int) ≤ (whole k))) (fun c12 => ?_) (fun c12 => ?_)
    ·
     have p13 := of_decide_eq_true c12
     refine sp (.int .i64 (whole k)) ?_
     refine sp (pB b 0) ?_
     refine sp (pB b 0) ?_
     refine sp (pB b 0) ?_
     refine s_mem2 (fun H h => rt_open (h.re [2] [])) (fun lv14 r15 hw => ?_)
     refine s_lt (t_load 0 lv14) ?_
     refine s_lt (t_len VlT_ok Try.underlying33 (.own 1)) ?_
     refine s_lt t_cmp ?_
     refine sp (.bool (decide ((whole k) ≤ (L.length : Int)))) ?_
     refine s_nt ?_
     refine k_cond (decide ((whole k) ≤ (L.length : Int))) (fun c16 => ?_) (fun c16 => ?_)
     ·
      have p17 := of_decide_eq_true c16
      refine k_seq ?_
      refine k_draw ?_
      refine sp (pB b 0) ?_
      refine sp (pB b 0) ?_
      refine sp (pB b 0) ?_
      refine s_lt (t_load 0 lv14) ?_
      refine sp (.int .i64 (whole k)) ?_
      refine s_lt (t_sub (whole k) 1 (by (try simp only [lnm]); omega)) ?_
      refine s_lt (t_loadA 3 #[.int .i64 v.kind, .int .i64 v.p, .int .i64 v.q, .string v.str, .int .i64 v.ref]) ?_
      refine s_lt (t_index VlT_ok Try.underlying33 (.own 1) ((whole k) - 1) ((((whole k) - 1)).toNat) (by omega) (by (try simp only [lnm]); omega) (by omega)) ?_
      obtain ⟨y18, hy19⟩ : ∃ y, L[(((whole k) - 1)).toNat]? = some y := ⟨_, List.getElem?_eq_getElem (by (try simp only [lnm]); omega)⟩
      refine s_storeE 1 0 v VlT_ok hy19 ?_
      refine s_nil ?_
      refine x_dynS (fun _ h => by kernel_rfl) ?_
      refine xs_then ?_
      refine k_seq ?_
      refine k_block ?_
      have hsl : (L.set (whole k - 1).toNat v).length = L.length := List.length_set
      refine k_loop (ι := Value × List Vl) (fun (lx, X) => shr (L.set (whole k - 1).toNat v) = shr X ∧ X.length ≤ L.length) (fun (lx, X) => [(0, pB b 0)]) (fun (lx, X) => blkA b #[lx, pB r15 0] 128 :: own VlT lx X :: rmA r15 S :: blkA g2 #[.int .i64 v.kind, .int .i64 v.p, .int .i64 v.q, .string v.str, .int .i64 v.ref] 26 :: blkA g1 #[.int .i64 k.kind, .int .i64 k.p, .int .i64 k.q, .string k.str, .int .i64 k.ref] 26 :: F) (fun (lx, X) => X.length) (lv14, (L.set ((((whole k) - 1)).toNat) v)) ⟨rfl, by omega⟩ (sub_of rfl ⟨⟨rfl, rfl⟩, trivial⟩) (fun _ h => h.re [0, 0, 0, 0, 0] []) ?_
      rintro ⟨lx, X⟩ hi20
      replace hi20 : shr (L.set (whole k - 1).toNat v) = shr X ∧ X.length ≤ L.length := hi20
      show SK _ _ _ _ _ [(0, .pointer (some ⟨b, 0, none⟩))] _ (blkA b #[lx, .pointer (some ⟨r15, 0, none⟩)] 128 :: own VlT lx X :: rmA r15 S :: blkA g2 #[.int .i64 v.kind, .int .i64 v.p, .int .i64 v.q, .string v.str, .int .i64 v.ref] 26 :: blkA g1 #[.int .i64 k.kind, .int .i64 k.p, .int .i64 k.q, .string k.str, .int .i64 k.ref] 26 :: F)
      refine k_seq ?_
      refine k_seq ?_
      refine k_draw ?_
      refine sp (pB b 0) ?_
      refine sp (pB b 0) ?_
      refine sp (pB b 0) ?_
      refine s_lt (t_load 0 lx) ?_
      refine s_fact (fun H h => ((Acc.own (T := VlT) (L := X) 1 rfl) H h).form) (fun hf21 => ?_)
      refine s_lt (t_len VlT_ok Try.underlying33 (.own 1)) ?_
      refine s_lt t_cmp ?_
      refine sp (.bool (decide ((0 : Int) < (X.length : Int)))) ?_
      refine s_fork 48 (decide ((0 : Int) < (X.length : Int))) (fun c22 => ?_) (fun c22 => ?_)
      ·
       have p23 := of_decide_eq_true c22
       refine sp (pB b 0) ?_
       refine sp (pB b 0) ?_
       refine sp (pB b 0) ?_
       refine s_lt (t_load 0 lx) ?_
       refine sp (pB b 0) ?_
       refine sp (pB b 0) ?_
       refine sp (pB b 0) ?_
       refine s_lt (t_load 0 lx) ?_
       refine s_lt (t_len VlT_ok Try.underlying33 (.own 1)) ?_
       refine s_lt (t_sub (X.length : Int) 1 (by (try simp only [lnm]); omega)) ?_
       refine s_lt (t_index VlT_ok Try.underlying33 (.own 1) ((X.length : Int) - 1) (X.length - 1) (by omega) (by (try simp only [lnm]); omega) (by omega)) ?_
       refine sp (.pointer (some (elemAt VlT.size lx (X.length - 1)))) ?_
       obtain ⟨y24, hy25⟩ : ∃ y, X[(X.length - 1)]? = some y := ⟨_, List.getElem?_eq_getElem (by (try simp only [lnm]); omega)⟩
       refine s_lt (t_loadF 0 VlT_ok (.own 1) hy25) ?_
       refine s_lt t_cmp ?_
       refine sp (.bool (decide (y24.kind = 0))) ?_
       refine s_nil ?_
       refine x_dynS (fun _ h => by obtain ⟨_, _, e⟩ := hf21; subst e; kernel_rfl) ?_
       refine xs_then ?_
       refine k_cond (decide (y24.kind = 0)) (fun c26 => ?_) (fun c26 => ?_)
       ·
        have p27 := of_decide_eq_true c26
        refine k_st ?_
        refine k_block ?_
        refine k_draw ?_
        refine sp (pB b 0) ?_
        refine sp (pB b 0) ?_
        refine sp (pB b 0) ?_
        refine sp (pB b 0) ?_
        refine s_lt (t_load 0 lx) ?_
        refine sp (pB b 0) ?_
        refine sp (pB b 0) ?_
        refine sp (pB b 0) ?_
        refine s_lt (t_load 0 lx) ?_
        refine s_lt (t_len VlT_ok Try.underlying33 (.own 1)) ?_
        refine s_lt (t_sub (X.length : Int) 1 (by (try simp only [lnm]); omega)) ?_
        refine s_lt (t_pre VlT_ok Try.underlying33 (.own 1) ((X.length : Int) - 1) (X.length - 1) (by omega) (by (try simp only [lnm]); omega) (by omega)) ?_
        refine sp (pB b 0) ?_
        refine sp (pB b 0) ?_
        refine s_mem (fun _ h => Holds.pre (i := 1) h VlT_ok (X.length - 1) rfl (by (try simp only [lnm]); omega)) ?_
        refine s_fact (fun H h => ((Acc.own (T := VlT) (L := (X.take (X.length - 1))) 1 rfl) H h).form) (fun hf28 => ?_)
        refine s_store (u := (pre lx (X.length - 1))) (m := 1) 0 #[(pre lx (X.length - 1)), pB r15 0] ?_ (hm := by (obtain ⟨_, _, e⟩ := hf28; rw [e]; rfl)) (h1 := by (obtain ⟨_, _, e⟩ := hf28; rw [e]; rfl)) (ha' := by (obtain ⟨_, _, e⟩ := hf28; rw [e]; rfl))
        refine s_nil ?_
        refine x_dynS (fun _ h => by obtain ⟨_, _, e⟩ := hf21; subst e; kernel_rfl) ?_
        refine xs_block ?_
        exact xs_round ((pre lx (X.length - 1)), X.take (X.length - 1)) (by show (X.take (X.length - 1)).length < X.length; rw [List.length_take]; omega) (by show shr _ = shr (X.take (X.length - 1)) ∧ (X.take (X.length - 1)).length ≤ L.length; rw [← shr_step (n := X.length - 1) (by omega) hy25 (by omega), show X.length - 1 + 1 = X.length by omega, List.take_length]; exact ⟨hi20.1, by rw [List.length_take]; omega⟩) (sub_of rfl ⟨⟨rfl, rfl⟩, trivial⟩) (fun _ h => h.re [0, 0, 0, 0, 0] [])
       ·
        have p29 := of_decide_eq_false c26
        refine k_exit ?_
        refine xs_exit ?_
        refine xs_exit ?_
        refine xs_here ?_
        refine xs_then ?_
        refine k_sr ?_
        refine sp (.int .i64 0) ?_
        refine s_nt ?_
        refine k_ret ?_
        refine xs_ret ?_
        refine xs_mem (fun _ h => rt_shut (h.re [0, 0, 0] [])) ?_
        have hk := okKey_good c3 c8
        have hS : shr X = X := by have h1 := shr_stop (n := X.length - 1) hy25 (by omega); rw [show X.length - 1 + 1 = X.length by omega, List.take_length] at h1; exact h1
        have hT : tset ⟨L, S⟩ k v = ⟨X, S⟩ := by rw [tset_in (T := ⟨L, S⟩) hk c11 (by omega) (by show _ ≤ (L.length : Int); omega)]; show (⟨shr (L.set _ v), S⟩ : Tb) = _; rw [hi20.1, hS]
        refine xs_fin [.int .i64 0] (rtA b X S :: F) (SI.tmp 6 SI.nil) (fun _ h => h.re [0] [1, 1]) ⟨congrArg (Value.int .i64) (tsetE_ok hk c11).symm, ?_⟩
        rw [hT]
      ·
       have p30 := of_decide_eq_false c22
       refine s_skip ?_
       refine s_skip ?_
       refine s_skip ?_
       refine s_skip ?_
       refine s_skip ?_
       refine s_skip ?_
       refine s_skip ?_
       refine s_skip ?_
       refine s_skip ?_
       refine s_skip ?_
       refine s_skip ?_
       refine s_skip ?_
       refine s_skip ?_
       refine s_skip ?_
       refine sp (.bool false) ?_
       refine s_nil ?_
       refine x_dynS (fun _ h => by obtain ⟨_, _, e⟩ := hf21; subst e; kernel_rfl) ?_
       refine xs_then ?_
       refine k_false ?_
       refine k_exit ?_
       refine xs_exit ?_
       refine xs_exit ?_
       refine xs_here ?_
       refine xs_then ?_
       refine k_sr ?_
       refine sp (.int .i64 0) ?_
       refine s_nt ?_
       refine k_ret ?_
       refine xs_ret ?_
       refine xs_mem (fun _ h => rt_shut (h.re [0, 0, 0] [])) ?_
       have hk := okKey_good c3 c8
       have hS : shr X = X := by obtain rfl : X = [] := List.eq_nil_of_length_eq_zero (by omega); rfl
       have hT : tset ⟨L, S⟩ k v = ⟨X, S⟩ := by rw [tset_in (T := ⟨L, S⟩) hk c11 (by omega) (by show _ ≤ (L.length : Int); omega)]; show (⟨shr (L.set _ v), S⟩ : Tb) = _; rw [hi20.1, hS]
       refine xs_fin [.int .i64 0] (rtA b X S :: F) (SI.tmp 6 SI.nil) (fun _ h => h.re [0] [1, 1]) ⟨congrArg (Value.int .i64) (tsetE_ok hk c11).symm, ?_⟩
       rw [hT]
     ·
      have p31 := of_decide_eq_false c16
      refine k_st ?_
      refine k_seq ?_
      refine k_sr ?_
      refine sp (.int .i64 (whole k)) ?_
      refine sp (pB b 0) ?_
      refine sp (pB b 0) ?_
      refine sp (pB b 0) ?_
      refine s_lt (t_load 0 lv14) ?_
      refine s_lt (t_len VlT_ok Try.underlying33 (.own 1)) ?_
      refine s_lt (t_add (L.length : Int) 1 (by (try simp only [lnm]); omega)) ?_
      refine s_lt t_cmp ?_
      refine sp (.bool (decide ((whole k) ≠ ((L.length : Int) + 1)))) ?_
      refine s_fork 86 (decide ((whole k) ≠ ((L.length : Int) + 1))) (fun c32 => ?_) (fun c32 => ?_)
      ·
       have p33 := of_decide_eq_true c32
       refine s_skip ?_
       refine s_skip ?_
       refine s_skip ?_
       refine sp (.bool true) ?_
       refine s_nt ?_
       refine k_true ?_
       refine k_seq ?_
       refine k_draw ?_
       refine sp (pB b 0) ?_
       refine sp (pB b 0) ?_
       refine sp (pB b 1) ?_
       refine s_lt (t_load 0 (pB r15 0)) ?_
       refine s_lt (t_loadA 4 #[.int .i64 k.kind, .int .i64 k.p, .int .i64 k.q, .string k.str, .int .i64 k.ref]) ?_
       refine s_lt (t_loadA 3 #[.int .i64 v.kind, .int .i64 v.p, .int .i64 v.q, .string v.str, .int .i64 v.ref]) ?_
       refine s_call [2] (rmset_s (S := S) (by (try simp only [lnm]); omega) k v) ?_
       rintro _ _ ⟨rfl, rfl⟩
       refine sp (.int .i64 (osetE k v)) ?_
       refine s_nil ?_
       refine x_dynS (fun _ h => by kernel_rfl) ?_
       refine xs_then ?_
       refine k_ret ?_
       refine xs_ret ?_
       refine xs_mem (fun _ h => rt_shut (h.re [1, 1, 0] [])) ?_
       have hk := okKey_good c3 c8
       refine xs_fin [.int .i64 (osetE k v)] (rtA b L (osetL S k v) :: F) (SI.tmp 6 SI.nil) (fun _ h => h.re [0] [1, 1]) ⟨congrArg (Value.int .i64) ((tsetE_oset k v)).symm, ?_⟩
       rw [tset_out (T := ⟨L, S⟩) hk c11 (by show ¬ (_ ∧ _ ≤ (L.length : Int)); omega) (by show ¬ (_ = (L.length : Int) + 1 ∧ _); rintro ⟨e1, e2⟩; first | omega | (have hq := p33; simp_all))]
      ·
       have p34 := Decidable.not_not.1 (of_decide_eq_false c32)
       refine sp (pB g2 0) ?_
       refine s_lt (t_load 3 (.int .i64 v.kind)) ?_
       refine s_lt t_cmp ?_
       refine sp (.bool (decide (v.kind = 0))) ?_
       refine s_nt ?_
       refine k_cond (decide (v.kind = 0)) (fun c35 => ?_) (fun c35 => ?_)
       ·
        have p36 := of_decide_eq_true c35
        refine k_seq ?_
        refine k_draw ?_
        refine sp (pB b 0) ?_
        refine sp (pB b 0) ?_
        refine sp (pB b 1) ?_
        refine s_lt (t_load 0 (pB r15 0)) ?_
        refine s_lt (t_loadA 4 #[.int .i64 k.kind, .int .i64 k.p, .int .i64 k.q, .string k.str, .int .i64 k.ref]) ?_
        refine s_lt (t_loadA 3 #[.int .i64 v.kind, .int .i64 v.p, .int .i64 v.q, .string v.str, .int .i64 v.ref]) ?_
        refine s_call [2] (rmset_s (S := S) (by (try simp only [lnm]); omega) k v) ?_
        rintro _ _ ⟨rfl, rfl⟩
        refine sp (.int .i64 (osetE k v)) ?_
        refine s_nil ?_
        refine x_dynS (fun _ h => by kernel_rfl) ?_
        refine xs_then ?_
        refine k_ret ?_
        refine xs_ret ?_
        refine xs_mem (fun _ h => rt_shut (h.re [1, 1, 0] [])) ?_
        have hk := okKey_good c3 c8
        refine xs_fin [.int .i64 (osetE k v)] (rtA b L (osetL S k v) :: F) (SI.tmp 6 SI.nil) (fun _ h => h.re [0] [1, 1]) ⟨congrArg (Value.int .i64) ((tsetE_oset k v)).symm, ?_⟩
        rw [tset_out (T := ⟨L, S⟩) hk c11 (by show ¬ (_ ∧ _ ≤ (L.length : Int)); omega) (by show ¬ (_ = (L.length : Int) + 1 ∧ _); rintro ⟨e1, e2⟩; first | omega | (have hq := p36; simp_all))]
       ·
        have p37 := of_decide_eq_false c35
        refine k_st ?_
        refine k_seq ?_
        refine k_block ?_
        have hmu0 := mu_le S L.length v
        refine k_loop (ι := Value × List Vl × Vl × Nat) (fun (lx, X, x, f) => grow S (S.length + 2) L v = grow S f X x ∧ mu S X.length x ≤ f ∧ L.length ≤ X.length ∧ X.length + mu S X.length x ≤ L.length + S.length + 1) (fun (lx, X, x, f) => [(0, pB b 0), (5, pB g2 0), (7, .int .i64 (whole k))]) (fun (lx, X, x, f) => blkA b #[lx, pB r15 0] 128 :: own VlT lx X :: rmA r15 S :: blkA g2 #[.int .i64 x.kind, .int .i64 x.p, .int .i64 x.q, .string x.str, .int .i64 x.ref] 26 :: blkA g1 #[.int .i64 k.kind, .int .i64 k.p, .int .i64 k.q, .string k.str, .int .i64 k.ref] 26 :: F) (fun (lx, X, x, f) => mu S X.length x) (lv14, L, v, S.length + 2) ⟨rfl, by omega, by omega, by omega⟩ (sub_of rfl ⟨⟨rfl, rfl⟩, ⟨⟨rfl, rfl⟩, ⟨⟨rfl, rfl⟩, trivial⟩⟩⟩) (fun _ h => h.re [0, 0, 0, 0, 0] []) ?_
        rintro ⟨lx, X, x, f⟩ hi38
        replace hi38 : grow S (S.length + 2) L v = grow S f X x ∧ mu S X.length x ≤ f ∧ L.length ≤ X.length ∧ X.length + mu S X.length x ≤ L.length + S.length + 1 := hi38
        show SK _ _ _ _ _ [(0, .pointer (some ⟨b, 0, none⟩)), (5, .pointer (some ⟨g2, 0, none⟩)), (7, .int .i64 (whole k))] _ (blkA b #[lx, .pointer (some ⟨r15, 0, none⟩)] 128 :: own VlT lx X :: rmA r15 S :: blkA g2 #[.int .i64 x.kind, .int .i64 x.p, .int .i64 x.q, .string x.str, .int .i64 x.ref] 26 :: blkA g1 #[.int .i64 k.kind, .int .i64 k.p, .int .i64 k.q, .string k.str, .int .i64 k.ref] 26 :: F)
        refine k_seq ?_
        refine k_sr ?_
        refine sp (pB g2 0) ?_
        refine s_lt (t_load 3 (.int .i64 x.kind)) ?_
        refine s_lt t_cmp ?_
        refine s_nt ?_
        refine k_cond (decide (x.kind ≠ 0)) (fun c39 => ?_) (fun c39 => ?_)
        ·
         have p40 := of_decide_eq_true c39
         have hx0 : x.kind ≠ 0 := of_decide_eq_true c39
         obtain ⟨f1, hf1, hg1⟩ := grow_step S X hx0 hi38.2.1
         have hg2 : grow S (S.length + 2) L v = grow S (f - 1) (X ++ [x]) (oget S (ofI ((X.length : Int) + 2))) := by rw [hi38.1, hg1, hf1]; rfl
         refine k_st ?_
         refine k_block ?_
         refine k_seq ?_
         refine k_draw ?_
         refine sp (pB b 0) ?_
         refine sp (pB b 0) ?_
         refine sp (pB b 0) ?_
         refine sp (pB b 0) ?_
         refine s_lt (t_load 0 lx) ?_
         refine s_lt (t_loadA 3 #[.int .i64 x.kind, .int .i64 x.p, .int .i64 x.q, .string x.str, .int .i64 x.ref]) ?_
         refine s_buildSlice (e := 26) [(0, .agg #[.int .i64 x.kind, .int .i64 x.p, .int .i64 x.q, .string x.str, .int .i64 x.ref])] #[.int .i64 x.kind, .int .i64 x.p, .int .i64 x.q, .string x.str, .int .i64 x.ref] (fun g41 => ?_) (hb := by kernel_rfl)
         refine s_append (L := X) 2 VlT_ok Try.underlying33 (.lit 0 VlT_ok [x]) (by show _ * 48 ≤ _; (try simp only [lnm]); omega) (by (try simp only [lnm]); omega) (fun v42 => ?_)
         obtain ⟨L2, hL2⟩ : ∃ y, y = X ++ [x] := ⟨_, rfl⟩
         rw [← hL2]
         have ll2 : L2.length = X.length + 1 := by rw [hL2]; simp
         refine sp (pB b 0) ?_
         refine sp (pB b 0) ?_
         refine s_fact (fun H h => ((Acc.own (T := VlT) (L := L2) 2 rfl) H h).form) (fun hf43 => ?_)
         refine s_store (u := v42) (m := 1) 1 #[v42, pB r15 0] ?_ (hm := by (obtain ⟨_, _, e⟩ := hf43; rw [e]; rfl)) (h1 := by (obtain ⟨_, _, e⟩ := hf43; rw [e]; rfl)) (ha' := by (obtain ⟨_, _, e⟩ := hf43; rw [e]; rfl))
         refine s_nil ?_
         refine x_dynS (fun _ h => by kernel_rfl) ?_
         refine xs_then ?_
         refine k_held [blkA g41 #[.int .i64 x.kind, .int .i64 x.p, .int .i64 x.q, .string x.str, .int .i64 x.ref] 26, blkA b #[v42, pB r15 0] 128, own VlT v42 L2, blkA g1 #[.int .i64 k.kind, .int .i64 k.p, .int .i64 k.q, .string k.str, .int .i64 k.ref] 26] ?_
         refine hp_ 0 [0, 0, 0, 2] (pB b 0) ?_
         refine hp_ 1 [0, 0, 0, 2] (pB b 0) ?_
         refine hp_ 2 [0, 0, 0, 2] (pB b 1) ?_
         refine h_l 3 rfl [0, 0, 0, 2] (fun _ => (t_load 1 (pB r15 0))) ?_
         refine hp_ 4 [0, 0, 0, 2] (pB b 0) ?_
         refine hp_ 5 [0, 0, 0, 2] (pB b 0) ?_
         refine hp_ 6 [0, 0, 0, 2] (pB b 0) ?_
         refine h_l 7 rfl [0, 0, 0, 2] (fun _ => (t_load 1 v42)) ?_
         refine h_l 8 rfl [0, 0, 0, 2] (fun _ => (t_len VlT_ok Try.underlying33 (.own 2))) ?_
         refine h_l 9 rfl [0, 0, 0, 2] (fun _ => (Lt.to (v' := .int .i64 ((X.length : Int) + 2)) (t_add (L2.length : Int) 1 (by omega)) (congrArg (Value.int .i64) (by omega)))) ?_
         refine h_stepS 10 ?_
         refine s_vcall (fun _ h => rkey_s ((X.length : Int) + 2)) ?_
         rintro _ rfl
         refine s_nil (xs_held [0, 0, 0, 2] ?_)
         refine h_stepS 11 ?_
         refine s_call [3] (rmget_s (S := S) (by (try simp only [lnm]); omega) (ofI ((X.length : Int) + 2))) ?_
         rintro _ _ ⟨rfl, rfl⟩
         refine s_nil (xs_held [1, 1, 1, 2] ?_)
         refine h_stepS 12 ?_
         refine s_store 4 #[.int .i64 ((oget S (ofI ((X.length : Int) + 2))).kind), .int .i64 ((oget S (ofI ((X.length : Int) + 2))).p), .int .i64 ((oget S (ofI ((X.length : Int) + 2))).q), .string ((oget S (ofI ((X.length : Int) + 2))).str), .int .i64 ((oget S (ofI ((X.length : Int) + 2))).ref)] ?_
         refine s_nil (xs_held [1, 1, 1, 2] ?_)
         refine h_doneS ?_
         refine xs_block ?_
         exact xs_round (v42, L2, (oget S (ofI ((X.length : Int) + 2))), f - 1) (by show mu S _ _ < mu S _ _; rw [ll2]; exact mu_lt hinv0 hx0) (by show grow S (S.length + 2) L v = _ ∧ _; exact ⟨by rw [hg2, hL2], by rw [ll2]; have := mu_lt hinv0 (n := X.length) hx0; omega, by omega, by rw [ll2]; have := mu_lt hinv0 (n := X.length) hx0; omega⟩) (sub_of rfl ⟨⟨rfl, rfl⟩, ⟨⟨rfl, rfl⟩, ⟨⟨rfl, rfl⟩, trivial⟩⟩⟩) (fun _ h => h.re [2, 2, 0, 1, 1] [5])
        ·
         have p44 := Decidable.not_not.1 (of_decide_eq_false c39)
         have hx0 : x.kind = 0 := Decidable.not_not.1 (of_decide_eq_false c39)
         have hgr : grow S (S.length + 2) L v = X := by rw [hi38.1]; exact grow_stop S X hx0
         refine k_exit ?_
         refine xs_exit ?_
         refine xs_exit ?_
         refine xs_here ?_
         refine xs_then ?_
         refine k_sr ?_
         refine sp (pB b 0) ?_
         refine sp (.int .i64 (whole k)) ?_
         refine s_mem (fun _ h => rt_shut (h.re [0, 0, 0] [])) ?_
         refine s_call [0] (rtpurge_s (L := X) (S := S) (n := L.length) (by omega) (by omega) (by omega) (by omega)) ?_
         rintro _ _ ⟨rfl, rfl⟩
         refine s_nr ?_
         refine sp (.int .i64 0) ?_
         refine s_nt ?_
         refine k_ret ?_
         have hk := okKey_good c3 c8
         have hT : tset ⟨L, S⟩ k v = ⟨X, if staleB S L.length X.length then purge S X.length else S⟩ := by rw [tset_add (T := ⟨L, S⟩) hk c11 (by show _ = (L.length : Int) + 1; omega) (of_decide_eq_false c35), tadd_eq hgr]
         refine xs_fin [.int .i64 0] (rtA b X (if staleB S L.length X.length then purge S X.length else S) :: F) (SI.tmp 6 SI.nil) (fun _ h => h.re [0] [1, 1]) ⟨congrArg (Value.int .i64) (tsetE_ok hk c11).symm, ?_⟩
         rw [hT]
    ·
     have p45 := of_decide_eq_false c12
     refine s_skip ?_
     refine s_skip ?_
     refine s_skip ?_
     refine s_skip ?_
     refine s_skip ?_
     refine s_skip ?_
     refine s_skip ?_
     refine sp (.bool false) ?_
     refine s_nt ?_
     refine k_false ?_
     refine k_st ?_
     refine k_seq ?_
     refine k_sr ?_
     refine sp (.int .i64 (whole k)) ?_
     refine sp (pB b 0) ?_
     refine sp (pB b 0) ?_
     refine sp (pB b 0) ?_
     refine s_mem2 (fun H h => rt_open (h.re [2] [])) (fun lv46 r47 hw => ?_)
     refine s_lt (t_load 0 lv46) ?_
     refine s_lt (t_len VlT_ok Try.underlying33 (.own 1)) ?_
     refine s_lt (t_add (L.length : Int) 1 (by (try simp only [lnm]); omega)) ?_
     refine s_lt t_cmp ?_
     refine sp (.bool (decide ((whole k) ≠ ((L.length : Int) + 1)))) ?_
     refine s_fork 86 (decide ((whole k) ≠ ((L.length : Int) + 1))) (fun c48 => ?_) (fun c48 => ?_)
     ·
      have p49 := of_decide_eq_true c48
      refine s_skip ?_
      refine s_skip ?_
      refine s_skip ?_
      refine sp (.bool true) ?_
      refine s_nt ?_
      refine k_true ?_
      refine k_seq ?_
      refine k_draw ?_
      refine sp (pB b 0) ?_
      refine sp (pB b 0) ?_
      refine sp (pB b 1) ?_
      refine s_lt (t_load 0 (pB r47 0)) ?_
      refine s_lt (t_loadA 4 #[.int .i64 k.kind, .int .i64 k.p, .int .i64 k.q, .string k.str, .int .i64 k.ref]) ?_
      refine s_lt (t_loadA 3 #[.int .i64 v.kind, .int .i64 v.p, .int .i64 v.q, .string v.str, .int .i64 v.ref]) ?_
      refine s_call [2] (rmset_s (S := S) (by (try simp only [lnm]); omega) k v) ?_
      rintro _ _ ⟨rfl, rfl⟩
      refine sp (.int .i64 (osetE k v)) ?_
      refine s_nil ?_
      refine x_dynS (fun _ h => by kernel_rfl) ?_
      refine xs_then ?_
      refine k_ret ?_
      refine xs_ret ?_
      refine xs_mem (fun _ h => rt_shut (h.re [1, 1, 0] [])) ?_
      have hk := okKey_good c3 c8
      refine xs_fin [.int .i64 (osetE k v)] (rtA b L (osetL S k v) :: F) (SI.tmp 6 SI.nil) (fun _ h => h.re [0] [1, 1]) ⟨congrArg (Value.int .i64) ((tsetE_oset k v)).symm, ?_⟩
      rw [tset_out (T := ⟨L, S⟩) hk c11 (by show ¬ (_ ∧ _ ≤ (L.length : Int)); omega) (by show ¬ (_ = (L.length : Int) + 1 ∧ _); rintro ⟨e1, e2⟩; first | omega | (have hq := p49; simp_all))]
     ·
      have p50 := Decidable.not_not.1 (of_decide_eq_false c48)
      refine sp (pB g2 0) ?_
      refine s_lt (t_load 3 (.int .i64 v.kind)) ?_
      refine s_lt t_cmp ?_
      refine sp (.bool (decide (v.kind = 0))) ?_
      refine s_nt ?_
      refine k_cond (decide (v.kind = 0)) (fun c51 => ?_) (fun c51 => ?_)
      ·
       have p52 := of_decide_eq_true c51
       refine k_seq ?_
       refine k_draw ?_
       refine sp (pB b 0) ?_
       refine sp (pB b 0) ?_
       refine sp (pB b 1) ?_
       refine s_lt (t_load 0 (pB r47 0)) ?_
       refine s_lt (t_loadA 4 #[.int .i64 k.kind, .int .i64 k.p, .int .i64 k.q, .string k.str, .int .i64 k.ref]) ?_
       refine s_lt (t_loadA 3 #[.int .i64 v.kind, .int .i64 v.p, .int .i64 v.q, .string v.str, .int .i64 v.ref]) ?_
       refine s_call [2] (rmset_s (S := S) (by (try simp only [lnm]); omega) k v) ?_
       rintro _ _ ⟨rfl, rfl⟩
       refine sp (.int .i64 (osetE k v)) ?_
       refine s_nil ?_
       refine x_dynS (fun _ h => by kernel_rfl) ?_
       refine xs_then ?_
       refine k_ret ?_
       refine xs_ret ?_
       refine xs_mem (fun _ h => rt_shut (h.re [1, 1, 0] [])) ?_
       have hk := okKey_good c3 c8
       refine xs_fin [.int .i64 (osetE k v)] (rtA b L (osetL S k v) :: F) (SI.tmp 6 SI.nil) (fun _ h => h.re [0] [1, 1]) ⟨congrArg (Value.int .i64) ((tsetE_oset k v)).symm, ?_⟩
       rw [tset_out (T := ⟨L, S⟩) hk c11 (by show ¬ (_ ∧ _ ≤ (L.length : Int)); omega) (by show ¬ (_ = (L.length : Int) + 1 ∧ _); rintro ⟨e1, e2⟩; first | omega | (have hq := p52; simp_all))]
      ·
       have p53 := of_decide_eq_false c51
       refine k_st ?_
       refine k_seq ?_
       refine k_block ?_
       have hmu0 := mu_le S L.length v
       refine k_loop (ι := Value × List Vl × Vl × Nat) (fun (lx, X, x, f) => grow S (S.length + 2) L v = grow S f X x ∧ mu S X.length x ≤ f ∧ L.length ≤ X.length ∧ X.length + mu S X.length x ≤ L.length + S.length + 1) (fun (lx, X, x, f) => [(0, pB b 0), (5, pB g2 0), (7, .int .i64 (whole k))]) (fun (lx, X, x, f) => blkA b #[lx, pB r47 0] 128 :: own VlT lx X :: rmA r47 S :: blkA g2 #[.int .i64 x.kind, .int .i64 x.p, .int .i64 x.q, .string x.str, .int .i64 x.ref] 26 :: blkA g1 #[.int .i64 k.kind, .int .i64 k.p, .int .i64 k.q, .string k.str, .int .i64 k.ref] 26 :: F) (fun (lx, X, x, f) => mu S X.length x) (lv46, L, v, S.length + 2) ⟨rfl, by omega, by omega, by omega⟩ (sub_of rfl ⟨⟨rfl, rfl⟩, ⟨⟨rfl, rfl⟩, ⟨⟨rfl, rfl⟩, trivial⟩⟩⟩) (fun _ h => h.re [0, 0, 0, 0, 0] []) ?_
       rintro ⟨lx, X, x, f⟩ hi54
       replace hi54 : grow S (S.length + 2) L v = grow S f X x ∧ mu S X.length x ≤ f ∧ L.length ≤ X.length ∧ X.length + mu S X.length x ≤ L.length + S.length + 1 := hi54
       show SK _ _ _ _ _ [(0, .pointer (some ⟨b, 0, none⟩)), (5, .pointer (some ⟨g2, 0, none⟩)), (7, .int .i64 (whole k))] _ (blkA b #[lx, .pointer (some ⟨r47, 0, none⟩)] 128 :: own VlT lx X :: rmA r47 S :: blkA g2 #[.int .i64 x.kind, .int .i64 x.p, .int .i64 x.q, .string x.str, .int .i64 x.ref] 26 :: blkA g1 #[.int .i64 k.kind, .int .i64 k.p, .int .i64 k.q, .string k.str, .int .i64 k.ref] 26 :: F)
       refine k_seq ?_
       refine k_sr ?_
       refine sp (pB g2 0) ?_
       refine s_lt (t_load 3 (.int .i64 x.kind)) ?_
       refine s_lt t_cmp ?_
       refine s_nt ?_
       refine k_cond (decide (x.kind ≠ 0)) (fun c55 => ?_) (fun c55 => ?_)
       ·
        have p56 := of_decide_eq_true c55
        have hx0 : x.kind ≠ 0 := of_decide_eq_true c55
        obtain ⟨f1, hf1, hg1⟩ := grow_step S X hx0 hi54.2.1
        have hg2 : grow S (S.length + 2) L v = grow S (f - 1) (X ++ [x]) (oget S (ofI ((X.length : Int) + 2))) := by rw [hi54.1, hg1, hf1]; rfl
        refine k_st ?_
        refine k_block ?_
        refine k_seq ?_
        refine k_draw ?_
        refine sp (pB b 0) ?_
        refine sp (pB b 0) ?_
        refine sp (pB b 0) ?_
        refine sp (pB b 0) ?_
        refine s_lt (t_load 0 lx) ?_
        refine s_lt (t_loadA 3 #[.int .i64 x.kind, .int .i64 x.p, .int .i64 x.q, .string x.str, .int .i64 x.ref]) ?_
        refine s_buildSlice (e := 26) [(0, .agg #[.int .i64 x.kind, .int .i64 x.p, .int .i64 x.q, .string x.str, .int .i64 x.ref])] #[.int .i64 x.kind, .int .i64 x.p, .int .i64 x.q, .string x.str, .int .i64 x.ref] (fun g57 => ?_) (hb := by kernel_rfl)
        refine s_append (L := X) 2 VlT_ok Try.underlying33 (.lit 0 VlT_ok [x]) (by show _ * 48 ≤ _; (try simp only [lnm]); omega) (by (try simp only [lnm]); omega) (fun v58 => ?_)
        obtain ⟨L2, hL2⟩ : ∃ y, y = X ++ [x] := ⟨_, rfl⟩
        rw [← hL2]
        have ll2 : L2.length = X.length + 1 := by rw [hL2]; simp
        refine sp (pB b 0) ?_
        refine sp (pB b 0) ?_
        refine s_fact (fun H h => ((Acc.own (T := VlT) (L := L2) 2 rfl) H h).form) (fun hf59 => ?_)
        refine s_store (u := v58) (m := 1) 1 #[v58, pB r47 0] ?_ (hm := by (obtain ⟨_, _, e⟩ := hf59; rw [e]; rfl)) (h1 := by (obtain ⟨_, _, e⟩ := hf59; rw [e]; rfl)) (ha' := by (obtain ⟨_, _, e⟩ := hf59; rw [e]; rfl))
        refine s_nil ?_
        refine x_dynS (fun _ h => by kernel_rfl) ?_
        refine xs_then ?_
        refine k_held [blkA g57 #[.int .i64 x.kind, .int .i64 x.p, .int .i64 x.q, .string x.str, .int .i64 x.ref] 26, blkA b #[v58, pB r47 0] 128, own VlT v58 L2, blkA g1 #[.int .i64 k.kind, .int .i64 k.p, .int .i64 k.q, .string k.str, .int .i64 k.ref] 26] ?_
        refine hp_ 0 [0, 0, 0, 2] (pB b 0) ?_
        refine hp_ 1 [0, 0, 0, 2] (pB b 0) ?_
        refine hp_ 2 [0, 0, 0, 2] (pB b 1) ?_
        refine h_l 3 rfl [0, 0, 0, 2] (fun _ => (t_load 1 (pB r47 0))) ?_
        refine hp_ 4 [0, 0, 0, 2] (pB b 0) ?_
        refine hp_ 5 [0, 0, 0, 2] (pB b 0) ?_
        refine hp_ 6 [0, 0, 0, 2] (pB b 0) ?_
        refine h_l 7 rfl [0, 0, 0, 2] (fun _ => (t_load 1 v58)) ?_
        refine h_l 8 rfl [0, 0, 0, 2] (fun _ => (t_len VlT_ok Try.underlying33 (.own 2))) ?_
        refine h_l 9 rfl [0, 0, 0, 2] (fun _ => (Lt.to (v' := .int .i64 ((X.length : Int) + 2)) (t_add (L2.length : Int) 1 (by omega)) (congrArg (Value.int .i64) (by omega)))) ?_
        refine h_stepS 10 ?_
        refine s_vcall (fun _ h => rkey_s ((X.length : Int) + 2)) ?_
        rintro _ rfl
        refine s_nil (xs_held [0, 0, 0, 2] ?_)
        refine h_stepS 11 ?_
        refine s_call [3] (rmget_s (S := S) (by (try simp only [lnm]); omega) (ofI ((X.length : Int) + 2))) ?_
        rintro _ _ ⟨rfl, rfl⟩
        refine s_nil (xs_held [1, 1, 1, 2] ?_)
        refine h_stepS 12 ?_
        refine s_store 4 #[.int .i64 ((oget S (ofI ((X.length : Int) + 2))).kind), .int .i64 ((oget S (ofI ((X.length : Int) + 2))).p), .int .i64 ((oget S (ofI ((X.length : Int) + 2))).q), .string ((oget S (ofI ((X.length : Int) + 2))).str), .int .i64 ((oget S (ofI ((X.length : Int) + 2))).ref)] ?_
        refine s_nil (xs_held [1, 1, 1, 2] ?_)
        refine h_doneS ?_
        refine xs_block ?_
        exact xs_round (v58, L2, (oget S (ofI ((X.length : Int) + 2))), f - 1) (by show mu S _ _ < mu S _ _; rw [ll2]; exact mu_lt hinv0 hx0) (by show grow S (S.length + 2) L v = _ ∧ _; exact ⟨by rw [hg2, hL2], by rw [ll2]; have := mu_lt hinv0 (n := X.length) hx0; omega, by omega, by rw [ll2]; have := mu_lt hinv0 (n := X.length) hx0; omega⟩) (sub_of rfl ⟨⟨rfl, rfl⟩, ⟨⟨rfl, rfl⟩, ⟨⟨rfl, rfl⟩, trivial⟩⟩⟩) (fun _ h => h.re [2, 2, 0, 1, 1] [5])
       ·
        have p60 := Decidable.not_not.1 (of_decide_eq_false c55)
        have hx0 : x.kind = 0 := Decidable.not_not.1 (of_decide_eq_false c55)
        have hgr : grow S (S.length + 2) L v = X := by rw [hi54.1]; exact grow_stop S X hx0
        refine k_exit ?_
        refine xs_exit ?_
        refine xs_exit ?_
        refine xs_here ?_
        refine xs_then ?_
        refine k_sr ?_
        refine sp (pB b 0) ?_
        refine sp (.int .i64 (whole k)) ?_
        refine s_mem (fun _ h => rt_shut (h.re [0, 0, 0] [])) ?_
        refine s_call [0] (rtpurge_s (L := X) (S := S) (n := L.length) (by omega) (by omega) (by omega) (by omega)) ?_
        rintro _ _ ⟨rfl, rfl⟩
        refine s_nr ?_
        refine sp (.int .i64 0) ?_
        refine s_nt ?_
        refine k_ret ?_
        have hk := okKey_good c3 c8
        have hT : tset ⟨L, S⟩ k v = ⟨X, if staleB S L.length X.length then purge S X.length else S⟩ := by rw [tset_add (T := ⟨L, S⟩) hk c11 (by show _ = (L.length : Int) + 1; omega) (of_decide_eq_false c51), tadd_eq hgr]
        refine xs_fin [.int .i64 0] (rtA b X (if staleB S L.length X.length then purge S X.length else S) :: F) (SI.tmp 6 SI.nil) (fun _ h => h.re [0] [1, 1]) ⟨congrArg (Value.int .i64) (tsetE_ok hk c11).symm, ?_⟩
        rw [hT]
end Go.Proofs.Ytplkkhpokodbmaa
