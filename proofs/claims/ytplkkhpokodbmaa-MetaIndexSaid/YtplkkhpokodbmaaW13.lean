/-
  Layer 15: what indexing needs, by the document. Each law says its conditions.
-/
import Derived.Test.YtplkkhpokodbmaaW12
set_option linter.unusedSimpArgs false
set_option linter.unusedVariables false
set_option maxRecDepth 100000
set_option maxHeartbeats 2000000
namespace Go.Proofs.Ytplkkhpokodbmaa
open Go.Hp Go.J Go.S
open Go.Mem (Ty KTy blk elemAt pre suf blk_pre blk_suf aget aset strK aggDesc)
open Go.Mem (adel apos aget_aset aget_adel)
theorem tget_valid {T : Tb} (h : TInv T) (k : Vl) : validB (tget T k) = true := by
  unfold tget
  split
  · rfl
  split
  · cases hx : T.list[(whole k - 1).toNat]? with
    | none => rfl
    | some y => exact h.list y (List.mem_of_getElem? hx)
  · unfold oget
    split
    · rename_i s hs
      obtain ⟨i, _, hi⟩ := Option.bind_eq_some_iff.1 hs
      have hm := List.mem_of_getElem? hi
      by_cases hg : s.gone = true
      · rw [h.rest.zero s hm hg]; rfl
      · exact (h.rest.vals s hm (by simpa using hg)).1
    · rfl
theorem hget_valid {st : Hst} (h : HInv st) (t k : Vl) : validB (hgetV st t k) = true := by
  unfold hgetV
  split
  · rename_i T hT
    obtain ⟨o, _, hg, _, _, rfl⟩ := htab_some hT
    exact tget_valid (h.obs o (get_mem hg).1).tab k
  · rfl
theorem zero_of {v : Vl} (h : validB v = true) (hk : v.kind = 0) : v = zVl := by
  unfold validB at h
  rw [if_pos hk] at h
  exact of_decide_eq_true h
section
variable {st : Hst} {i : Nat} {q k : Vl}
theorem idx_a (hi : i < 32) (h4 : q.kind = 4) (hx : (hgetV st q k).kind ≠ 0) : idx st k (32 - i) q = giveN (hgetV st q k) := (chn_set hi (by simp [stl, h4, hx])).trans (by simp [stl, h4])
theorem idx_b (hi : i < 32) (h3 : q.kind = 3) : idx st k (32 - i) q = giveN (methV k) := (chn_set hi (by simp [stl, h3])).trans (by simp [stl, h3])
theorem idx_c (hv : HInv st) (hi : i < 32) (h4 : q.kind = 4) (hx : (hgetV st q k).kind = 0) (hm : (hdl st q ⟨#[95, 95, 105, 110, 100, 101, 120]⟩).kind = 0) : idx st k (32 - i) q = giveN zVl := (chn_set hi (by simp [stl, h4, hm])).trans (by simp only [stl, h4, if_true]; rw [zero_of (hget_valid hv q k) hx])
theorem idx_no (h3 : ¬ q.kind = 3) (hx : q.kind = 4 → (hgetV st q k).kind = 0) (hm : q.kind = 4 → ¬ (hdl st q ⟨#[95, 95, 105, 110, 100, 101, 120]⟩).kind = 0) : (stl st k q (hdl st q ⟨#[95, 95, 105, 110, 100, 101, 120]⟩)).2 = false := by
  unfold stl
  split
  · rename_i h4; simp [hx h4, hm h4]
  · rfl
theorem idx_d (hi : i < 32) (h4 : ¬ q.kind = 4) (h3 : ¬ q.kind = 3) (hm : (hdl st q ⟨#[95, 95, 105, 110, 100, 101, 120]⟩).kind = 0) : idx st k (32 - i) q = failN (attB q.kind) := chn_none hi (idx_no h3 (fun h => absurd h h4) (fun h => absurd h h4)) hm
theorem idx_e (hi : i < 32) (h3 : ¬ q.kind = 3) (hx : q.kind = 4 → (hgetV st q k).kind = 0) (hm : ¬ (hdl st q ⟨#[95, 95, 105, 110, 100, 101, 120]⟩).kind = 0) (hf : fnB (hdl st q ⟨#[95, 95, 105, 110, 100, 101, 120]⟩) = true) : idx st k (32 - i) q = callN (hdl st q ⟨#[95, 95, 105, 110, 100, 101, 120]⟩) 1 [q, k] := chn_call hi (idx_no h3 hx (fun _ => hm)) hm hf
theorem idx_f (hi : i < 32) (h3 : ¬ q.kind = 3) (hx : q.kind = 4 → (hgetV st q k).kind = 0) (hm : ¬ (hdl st q ⟨#[95, 95, 105, 110, 100, 101, 120]⟩).kind = 0) (hf : fnB (hdl st q ⟨#[95, 95, 105, 110, 100, 101, 120]⟩) = false) : idx st k (32 - (i + 1)) (hdl st q ⟨#[95, 95, 105, 110, 100, 101, 120]⟩) = idx st k (32 - i) q := chn_step hi (idx_no h3 hx (fun _ => hm)) hm hf
end
theorem rindex15_s {Z : Zone} {F : List Asr} {b : Nat} {st : Hst} {n : Nat} (hsm : HSm n st) (hn : n ≤ 300) (v k : Vl) : SF Try.prog 21 #[.pointer (some ⟨b, 0, none⟩), v.v, k.v] Z (rhA b st :: F) fun r Bs => ∃ av, r = (idx st k 32 v).w av ∧ Bs = own VlT av (idx st k 32 v).args :: rhA b st :: F := by
 refine sf_enter Try.func21 76 [(0, pB b 0), (1, .agg #[.int .i64 v.kind, .int .i64 v.p, .int .i64 v.q, .string v.str, .int .i64 v.ref]), (2, .agg #[.int .i64 k.kind, .int .i64 k.p, .int .i64 k.q, .string k.str, .int .i64 k.ref])] (fun w0 => ?_)
 have hlen0 := hsm.len
 refine k_fact (fun H h => rh_inv (h.re [0] [])) (fun hi0 => ?_)
 refine k_sr ?_
 refine s_box #[.int .i64 v.kind, .int .i64 v.p, .int .i64 v.q, .string v.str, .int .i64 v.ref] (fun g1 => ?_)
 refine s_box #[.int .i64 k.kind, .int .i64 k.p, .int .i64 k.q, .string k.str, .int .i64 k.ref] (fun g2 => ?_)
 refine s_alloc (.agg #[.int .i64 0, .int .i64 0, .int .i64 0, .int .i64 0, .string ByteArray.empty, .int .i64 0, .int .i64 0, .int .i64 0, .int .i64 0, .string ByteArray.empty, .int .i64 0, (.slice none 0 0), .int .i64 0, .string ByteArray.empty]) #[.int .i64 0, .int .i64 0, .int .i64 0, .int .i64 0, .string ByteArray.empty, .int .i64 0, .int .i64 0, .int .i64 0, .int .i64 0, .string ByteArray.empty, .int .i64 0, (.slice none 0 0), .int .i64 0, .string ByteArray.empty] (fun g3 => ?_)
 refine s_nt ?_
 refine k_seq ?_
 refine k_sr ?_
 refine sp (.int .i64 0) ?_
 refine s_nt ?_
 refine k_block ?_
 refine k_loop (ι := Vl × Nat) (fun (q, i) => i ≤ 32 ∧ idx st k (32 - i) q = idx st k 32 v) (fun (q, i) => [(0, pB b 0), (4, pB g1 0), (5, pB g2 0), (6, pB g3 0), (7, .int .i64 (i : Int))]) (fun (q, i) => blkA g3 #[.int .i64 0, .int .i64 0, .int .i64 0, .int .i64 0, .string ByteArray.empty, .int .i64 0, .int .i64 0, .int .i64 0, .int .i64 0, .string ByteArray.empty, .int .i64 0, (.slice none 0 0), .int .i64 0, .string ByteArray.empty] 51 :: blkA g2 #[.int .i64 k.kind, .int .i64 k.p, .int .i64 k.q, .string k.str, .int .i64 k.ref] 26 :: blkA g1 #[.int .i64 q.kind, .int .i64 q.p, .int .i64 q.q, .string q.str, .int .i64 q.ref] 26 :: rhA b st :: F) (fun (q, i) => 32 - i) (v, 0) ⟨by omega, rfl⟩ (sub_of rfl ⟨⟨rfl, rfl⟩, ⟨⟨rfl, rfl⟩, ⟨⟨rfl, rfl⟩, ⟨⟨rfl, rfl⟩, ⟨⟨rfl, rfl⟩, trivial⟩⟩⟩⟩⟩) (fun _ h => h.re [0, 0, 0, 0] []) ?_
 rintro ⟨q, i⟩ hi4
 replace hi4 : i ≤ 32 ∧ idx st k (32 - i) q = idx st k 32 v := hi4
 show SK _ _ _ _ _ [(0, .pointer (some ⟨b, 0, none⟩)), (4, .pointer (some ⟨g1, 0, none⟩)), (5, .pointer (some ⟨g2, 0, none⟩)), (6, .pointer (some ⟨g3, 0, none⟩)), (7, .int .i64 (i : Int))] _ (blkA g3 #[.int .i64 0, .int .i64 0, .int .i64 0, .int .i64 0, .string ByteArray.empty, .int .i64 0, .int .i64 0, .int .i64 0, .int .i64 0, .string ByteArray.empty, .int .i64 0, (.slice none 0 0), .int .i64 0, .string ByteArray.empty] 51 :: blkA g2 #[.int .i64 k.kind, .int .i64 k.p, .int .i64 k.q, .string k.str, .int .i64 k.ref] 26 :: blkA g1 #[.int .i64 q.kind, .int .i64 q.p, .int .i64 q.q, .string q.str, .int .i64 q.ref] 26 :: rhA b st :: F)
 refine k_seq ?_
 refine k_sr ?_
 refine sp (.int .i64 (i : Int)) ?_
 refine s_lt t_cmp ?_
 refine s_nt ?_
 refine k_cond (decide ((i : Int) < 32)) (fun c5 => ?_) (fun c5 => ?_)
 ·
  have p6 := of_decide_eq_true c5
  refine k_st ?_
  refine k_seq ?_
  refine k_block ?_
  refine k_seq ?_
  refine k_sr ?_
  refine sp (pB g1 0) ?_
  refine s_lt (t_load 2 (.int .i64 q.kind)) ?_
  refine s_lt t_cmp ?_
  refine s_nt ?_
  refine k_cond (decide (q.kind = 4)) (fun c7 => ?_) (fun c7 => ?_)
  ·
   have p8 := of_decide_eq_true c7
   refine k_sr ?_
   refine sp (pB b 0) ?_
   refine s_lt (t_loadA 2 #[.int .i64 q.kind, .int .i64 q.p, .int .i64 q.q, .string q.str, .int .i64 q.ref]) ?_
   refine s_lt (t_loadA 1 #[.int .i64 k.kind, .int .i64 k.p, .int .i64 k.q, .string k.str, .int .i64 k.ref]) ?_
   refine s_call [3] (rhget_s (st := st) hsm (by omega) q k) ?_
   rintro _ _ ⟨rfl, rfl⟩
   refine sp (.tuple #[.agg #[.int .i64 ((hgetV st q k).kind), .int .i64 ((hgetV st q k).p), .int .i64 ((hgetV st q k).q), .string ((hgetV st q k).str), .int .i64 ((hgetV st q k).ref)], .int .i64 (hgetE st q)]) ?_
   refine sp (.agg #[.int .i64 ((hgetV st q k).kind), .int .i64 ((hgetV st q k).p), .int .i64 ((hgetV st q k).q), .string ((hgetV st q k).str), .int .i64 ((hgetV st q k).ref)]) ?_
   refine sp (.int .i64 (hgetE st q)) ?_
   refine s_alloc (.agg #[.int .i64 0, .int .i64 0, .int .i64 0, .string ByteArray.empty, .int .i64 0]) #[.int .i64 0, .int .i64 0, .int .i64 0, .string ByteArray.empty, .int .i64 0] (fun g9 => ?_)
   refine s_store 0 #[.int .i64 ((hgetV st q k).kind), .int .i64 ((hgetV st q k).p), .int .i64 ((hgetV st q k).q), .string ((hgetV st q k).str), .int .i64 ((hgetV st q k).ref)] ?_
   refine sp (.int .i64 (hgetE st q)) ?_
   refine s_nr ?_
   refine sp (pB g9 0) ?_
   refine s_lt (t_load 0 (.int .i64 ((hgetV st q k).kind))) ?_
   refine s_lt t_cmp ?_
   refine s_nt ?_
   refine k_cond (decide ((hgetV st q k).kind ≠ 0)) (fun c10 => ?_) (fun c10 => ?_)
   ·
    have p11 := of_decide_eq_true c10
    refine k_sr ?_
    refine s_lt (t_loadA 0 #[.int .i64 ((hgetV st q k).kind), .int .i64 ((hgetV st q k).p), .int .i64 ((hgetV st q k).q), .string ((hgetV st q k).str), .int .i64 ((hgetV st q k).ref)]) ?_
    refine s_vcall (fun _ h => give_s (hgetV st q k)) ?_
    rintro _ rfl
    refine s_store 2 #[.int .i64 1, .int .i64 ((hgetV st q k).kind), .int .i64 ((hgetV st q k).p), .int .i64 ((hgetV st q k).q), .string ((hgetV st q k).str), .int .i64 ((hgetV st q k).ref), .int .i64 0, .int .i64 0, .int .i64 0, .string ByteArray.empty, .int .i64 0, (.slice none 0 0), .int .i64 0, .string ByteArray.empty] ?_
    refine s_nt ?_
    refine k_ret ?_
    refine xs_ret ?_
    refine xs_retBlock ?_
    refine xs_ret ?_
    refine xs_ret ?_
    refine xs_retBlock ?_
    refine xs_ret ?_
    have hc : idx st k 32 v = giveN (hgetV st q k) := hi4.2.symm.trans (idx_a (by omega) (by omega) (of_decide_eq_true c10))
    refine xs_mem (fun _ h => Holds.nilS (T := VlT) h) ?_
    exact xs_fin [.agg #[.int .i64 1, .int .i64 ((hgetV st q k).kind), .int .i64 ((hgetV st q k).p), .int .i64 ((hgetV st q k).q), .string ((hgetV st q k).str), .int .i64 ((hgetV st q k).ref), .int .i64 0, .int .i64 0, .int .i64 0, .string ByteArray.empty, .int .i64 0, (.slice none 0 0), .int .i64 0, .string ByteArray.empty]] (own VlT (.slice none 0 0) [] :: rhA b st :: F) (SI.agg 6 51 3 SI.nil) (fun _ h => h.re [0, 1] [2, 2, 2, 2]) ⟨(.slice none 0 0), by rw [hc]; rfl, by rw [hc]; rfl⟩
   ·
    have p12 := Decidable.not_not.1 (of_decide_eq_false c10)
    refine k_st ?_
    refine k_seq ?_
    refine k_sr ?_
    refine sp (pB g1 0) ?_
    refine s_lt (t_load 4 (.int .i64 q.kind)) ?_
    refine s_lt (Lt.to t_cmp (congrArg Value.bool (decide_eq_false (by have := of_decide_eq_true c7; omega) : (decide (q.kind = 3)) = false))) ?_
    refine s_nt ?_
    refine k_false ?_
    refine k_st ?_
    refine k_sr ?_
    refine sp (pB b 0) ?_
    refine s_lt (t_loadA 4 #[.int .i64 q.kind, .int .i64 q.p, .int .i64 q.q, .string q.str, .int .i64 q.ref]) ?_
    refine s_call [1] (rhdl_s (st := st) hsm (by omega) q ⟨#[95, 95, 105, 110, 100, 101, 120]⟩) ?_
    rintro _ _ ⟨rfl, rfl⟩
    refine s_alloc (.agg #[.int .i64 0, .int .i64 0, .int .i64 0, .string ByteArray.empty, .int .i64 0]) #[.int .i64 0, .int .i64 0, .int .i64 0, .string ByteArray.empty, .int .i64 0] (fun g13 => ?_)
    refine s_store 0 #[.int .i64 ((hdl st q ⟨#[95, 95, 105, 110, 100, 101, 120]⟩).kind), .int .i64 ((hdl st q ⟨#[95, 95, 105, 110, 100, 101, 120]⟩).p), .int .i64 ((hdl st q ⟨#[95, 95, 105, 110, 100, 101, 120]⟩).q), .string ((hdl st q ⟨#[95, 95, 105, 110, 100, 101, 120]⟩).str), .int .i64 ((hdl st q ⟨#[95, 95, 105, 110, 100, 101, 120]⟩).ref)] ?_
    refine s_nt ?_
    refine k_seq ?_
    refine k_cut (ι := Unit) (fun _ => True) (fun _ => [(0, pB b 0), (4, pB g1 0), (5, pB g2 0), (6, pB g3 0), (7, .int .i64 (i : Int)), (10, pB g13 0), (58, .bool (decide ((hdl st q ⟨#[95, 95, 105, 110, 100, 101, 120]⟩).kind = 0)))]) (fun _ => blkA g13 #[.int .i64 ((hdl st q ⟨#[95, 95, 105, 110, 100, 101, 120]⟩).kind), .int .i64 ((hdl st q ⟨#[95, 95, 105, 110, 100, 101, 120]⟩).p), .int .i64 ((hdl st q ⟨#[95, 95, 105, 110, 100, 101, 120]⟩).q), .string ((hdl st q ⟨#[95, 95, 105, 110, 100, 101, 120]⟩).str), .int .i64 ((hdl st q ⟨#[95, 95, 105, 110, 100, 101, 120]⟩).ref)] 26 :: rhA b st :: blkA g9 #[.int .i64 ((hgetV st q k).kind), .int .i64 ((hgetV st q k).p), .int .i64 ((hgetV st q k).q), .string ((hgetV st q k).str), .int .i64 ((hgetV st q k).ref)] 26 :: blkA g3 #[.int .i64 0, .int .i64 0, .int .i64 0, .int .i64 0, .string ByteArray.empty, .int .i64 0, .int .i64 0, .int .i64 0, .int .i64 0, .string ByteArray.empty, .int .i64 0, (.slice none 0 0), .int .i64 0, .string ByteArray.empty] 51 :: blkA g2 #[.int .i64 k.kind, .int .i64 k.p, .int .i64 k.q, .string k.str, .int .i64 k.ref] 26 :: blkA g1 #[.int .i64 q.kind, .int .i64 q.p, .int .i64 q.q, .string q.str, .int .i64 q.ref] 26 :: F) ?_ (fun _ _ => ?_)
    ·
     refine k_reg ?_
     refine sp (pB g13 0) ?_
     refine s_lt (t_load 0 (.int .i64 ((hdl st q ⟨#[95, 95, 105, 110, 100, 101, 120]⟩).kind))) ?_
     refine s_lt t_cmp ?_
     refine sp (.bool (decide ((hdl st q ⟨#[95, 95, 105, 110, 100, 101, 120]⟩).kind = 0))) ?_
     refine s_fork 54 (decide ((hdl st q ⟨#[95, 95, 105, 110, 100, 101, 120]⟩).kind = 0)) (fun c14 => ?_) (fun c14 => ?_)
     ·
      have p15 := of_decide_eq_true c14
      refine sp (pB g1 0) ?_
      refine s_lt (t_load 5 (.int .i64 q.kind)) ?_
      refine s_lt (Lt.to t_cmp (congrArg Value.bool (c7 : (decide (q.kind = 4)) = true))) ?_
      refine sp (.bool true) ?_
      refine s_nil ?_
      exact xs_cut () trivial (sub_of rfl ⟨⟨rfl, rfl⟩, ⟨⟨rfl, rfl⟩, ⟨⟨rfl, rfl⟩, ⟨⟨rfl, rfl⟩, ⟨⟨rfl, rfl⟩, ⟨⟨rfl, rfl⟩, ⟨⟨rfl, show Value.bool true = Value.bool (decide ((hdl st q ⟨#[95, 95, 105, 110, 100, 101, 120]⟩).kind = 0)) by first | (simp only [c14, bls]; done) | simp [c14]⟩, trivial⟩⟩⟩⟩⟩⟩⟩) (fun _ h => h.re [0, 0, 0, 0, 0, 0] [])
     ·
      have p16 := of_decide_eq_false c14
      refine s_skip ?_
      refine s_skip ?_
      refine s_skip ?_
      refine sp (.bool false) ?_
      refine s_nil ?_
      exact xs_cut () trivial (sub_of rfl ⟨⟨rfl, rfl⟩, ⟨⟨rfl, rfl⟩, ⟨⟨rfl, rfl⟩, ⟨⟨rfl, rfl⟩, ⟨⟨rfl, rfl⟩, ⟨⟨rfl, rfl⟩, ⟨⟨rfl, show Value.bool false = Value.bool (decide ((hdl st q ⟨#[95, 95, 105, 110, 100, 101, 120]⟩).kind = 0)) by first | (simp only [c14, bls]; done) | simp [c14]⟩, trivial⟩⟩⟩⟩⟩⟩⟩) (fun _ h => h.re [0, 0, 0, 0, 0, 0] [])
    ·
     refine k_cond (decide ((hdl st q ⟨#[95, 95, 105, 110, 100, 101, 120]⟩).kind = 0)) (fun c17 => ?_) (fun c17 => ?_)
     ·
      have p18 := of_decide_eq_true c17
      refine k_sr ?_
      refine s_lt (t_kern (.agg #[.int .i64 0, .int .i64 0, .int .i64 0, .string ByteArray.empty, .int .i64 0])) ?_
      refine s_vcall (fun _ h => give_s zVl) ?_
      rintro _ rfl
      refine s_store 3 #[.int .i64 1, .int .i64 0, .int .i64 0, .int .i64 0, .string ByteArray.empty, .int .i64 0, .int .i64 0, .int .i64 0, .int .i64 0, .string ByteArray.empty, .int .i64 0, (.slice none 0 0), .int .i64 0, .string ByteArray.empty] ?_
      refine s_nt ?_
      refine k_ret ?_
      refine xs_ret ?_
      refine xs_retBlock ?_
      refine xs_ret ?_
      refine xs_ret ?_
      refine xs_retBlock ?_
      refine xs_ret ?_
      have hc : idx st k 32 v = giveN zVl := hi4.2.symm.trans (idx_c hi0 (by omega) (by omega) (by omega) (by omega))
      refine xs_mem (fun _ h => Holds.nilS (T := VlT) h) ?_
      exact xs_fin [.agg #[.int .i64 1, .int .i64 0, .int .i64 0, .int .i64 0, .string ByteArray.empty, .int .i64 0, .int .i64 0, .int .i64 0, .int .i64 0, .string ByteArray.empty, .int .i64 0, (.slice none 0 0), .int .i64 0, .string ByteArray.empty]] (own VlT (.slice none 0 0) [] :: rhA b st :: F) (SI.agg 6 51 4 SI.nil) (fun _ h => h.re [0, 1] [2, 2, 2, 2, 2]) ⟨(.slice none 0 0), by rw [hc]; rfl, by rw [hc]; rfl⟩
     ·
      have p19 := of_decide_eq_false c17
      refine k_st ?_
      refine k_seq ?_
      refine k_sr ?_
      refine sp (pB g13 0) ?_
      refine s_lt (t_load 0 (.int .i64 ((hdl st q ⟨#[95, 95, 105, 110, 100, 101, 120]⟩).kind))) ?_
      refine s_lt (Lt.to t_cmp (congrArg Value.bool (c17 : (decide ((hdl st q ⟨#[95, 95, 105, 110, 100, 101, 120]⟩).kind = 0)) = false))) ?_
      refine s_nt ?_
      refine k_false ?_
      refine k_st ?_
      refine k_seq ?_
      refine k_sr ?_
      refine s_lt (t_loadA 0 #[.int .i64 ((hdl st q ⟨#[95, 95, 105, 110, 100, 101, 120]⟩).kind), .int .i64 ((hdl st q ⟨#[95, 95, 105, 110, 100, 101, 120]⟩).p), .int .i64 ((hdl st q ⟨#[95, 95, 105, 110, 100, 101, 120]⟩).q), .string ((hdl st q ⟨#[95, 95, 105, 110, 100, 101, 120]⟩).str), .int .i64 ((hdl st q ⟨#[95, 95, 105, 110, 100, 101, 120]⟩).ref)]) ?_
      refine s_vcall (fun _ h => rfun_s (hdl st q ⟨#[95, 95, 105, 110, 100, 101, 120]⟩)) ?_
      rintro _ rfl
      refine s_nt ?_
      refine k_cond (fnB (hdl st q ⟨#[95, 95, 105, 110, 100, 101, 120]⟩)) (fun c20 => ?_) (fun c20 => ?_)
      ·
       refine k_sr ?_
       refine s_lt (t_loadA 0 #[.int .i64 ((hdl st q ⟨#[95, 95, 105, 110, 100, 101, 120]⟩).kind), .int .i64 ((hdl st q ⟨#[95, 95, 105, 110, 100, 101, 120]⟩).p), .int .i64 ((hdl st q ⟨#[95, 95, 105, 110, 100, 101, 120]⟩).q), .string ((hdl st q ⟨#[95, 95, 105, 110, 100, 101, 120]⟩).str), .int .i64 ((hdl st q ⟨#[95, 95, 105, 110, 100, 101, 120]⟩).ref)]) ?_
       refine s_lt (t_loadA 5 #[.int .i64 q.kind, .int .i64 q.p, .int .i64 q.q, .string q.str, .int .i64 q.ref]) ?_
       refine s_lt (t_loadA 4 #[.int .i64 k.kind, .int .i64 k.p, .int .i64 k.q, .string k.str, .int .i64 k.ref]) ?_
       refine s_buildSlice (e := 26) [(0, .agg #[.int .i64 q.kind, .int .i64 q.p, .int .i64 q.q, .string q.str, .int .i64 q.ref]), (1, .agg #[.int .i64 k.kind, .int .i64 k.p, .int .i64 k.q, .string k.str, .int .i64 k.ref])] #[.int .i64 q.kind, .int .i64 q.p, .int .i64 q.q, .string q.str, .int .i64 q.ref, .int .i64 k.kind, .int .i64 k.p, .int .i64 k.q, .string k.str, .int .i64 k.ref] (fun g21 => ?_) (hb := by kernel_rfl)
       refine s_vcall (fun _ h => rcall_s (hdl st q ⟨#[95, 95, 105, 110, 100, 101, 120]⟩) 1 (some ⟨g21, 0, none⟩) 2 2 []) ?_
       rintro _ rfl
       refine s_store 4 #[.int .i64 2, .int .i64 0, .int .i64 0, .int .i64 0, .string ByteArray.empty, .int .i64 0, .int .i64 ((hdl st q ⟨#[95, 95, 105, 110, 100, 101, 120]⟩).kind), .int .i64 ((hdl st q ⟨#[95, 95, 105, 110, 100, 101, 120]⟩).p), .int .i64 ((hdl st q ⟨#[95, 95, 105, 110, 100, 101, 120]⟩).q), .string ((hdl st q ⟨#[95, 95, 105, 110, 100, 101, 120]⟩).str), .int .i64 ((hdl st q ⟨#[95, 95, 105, 110, 100, 101, 120]⟩).ref), (.slice (some ⟨g21, 0, none⟩) 2 2), .int .i64 1, .string ByteArray.empty] ?_
       refine s_nt ?_
       refine k_ret ?_
       refine xs_ret ?_
       refine xs_retBlock ?_
       refine xs_ret ?_
       refine xs_ret ?_
       refine xs_retBlock ?_
       refine xs_ret ?_
       have hc : idx st k 32 v = callN (hdl st q ⟨#[95, 95, 105, 110, 100, 101, 120]⟩) 1 [q, k] := hi4.2.symm.trans (idx_e (by omega) (by omega) (by omega) (by omega) c20)
       refine xs_mem (fun _ h => Holds.slice 0 h VlT_ok [q, k]) ?_
       exact xs_fin [.agg #[.int .i64 2, .int .i64 0, .int .i64 0, .int .i64 0, .string ByteArray.empty, .int .i64 0, .int .i64 ((hdl st q ⟨#[95, 95, 105, 110, 100, 101, 120]⟩).kind), .int .i64 ((hdl st q ⟨#[95, 95, 105, 110, 100, 101, 120]⟩).p), .int .i64 ((hdl st q ⟨#[95, 95, 105, 110, 100, 101, 120]⟩).q), .string ((hdl st q ⟨#[95, 95, 105, 110, 100, 101, 120]⟩).str), .int .i64 ((hdl st q ⟨#[95, 95, 105, 110, 100, 101, 120]⟩).ref), (.slice (some ⟨g21, 0, none⟩) 2 2), .int .i64 1, .string ByteArray.empty]] (own VlT (.slice (some ⟨g21, 0, none⟩) 2 2) [q, k] :: rhA b st :: F) (SI.agg 6 51 4 SI.nil) (fun _ h => h.re [0, 1] [2, 2, 2, 2, 2]) ⟨(.slice (some ⟨g21, 0, none⟩) 2 2), by rw [hc]; rfl, by rw [hc]; rfl⟩
      ·
       refine k_st ?_
       refine k_reg ?_
       refine s_lt (t_loadA 0 #[.int .i64 ((hdl st q ⟨#[95, 95, 105, 110, 100, 101, 120]⟩).kind), .int .i64 ((hdl st q ⟨#[95, 95, 105, 110, 100, 101, 120]⟩).p), .int .i64 ((hdl st q ⟨#[95, 95, 105, 110, 100, 101, 120]⟩).q), .string ((hdl st q ⟨#[95, 95, 105, 110, 100, 101, 120]⟩).str), .int .i64 ((hdl st q ⟨#[95, 95, 105, 110, 100, 101, 120]⟩).ref)]) ?_
       refine s_store 5 #[.int .i64 ((hdl st q ⟨#[95, 95, 105, 110, 100, 101, 120]⟩).kind), .int .i64 ((hdl st q ⟨#[95, 95, 105, 110, 100, 101, 120]⟩).p), .int .i64 ((hdl st q ⟨#[95, 95, 105, 110, 100, 101, 120]⟩).q), .string ((hdl st q ⟨#[95, 95, 105, 110, 100, 101, 120]⟩).str), .int .i64 ((hdl st q ⟨#[95, 95, 105, 110, 100, 101, 120]⟩).ref)] ?_
       refine s_nil ?_
       refine xs_block ?_
       refine xs_then ?_
       refine k_reg ?_
       refine sp (.int .i64 (i : Int)) ?_
       refine s_lt (t_add (i : Int) 1 (by (try simp only [lnm]); omega)) ?_
       refine sp (.int .i64 ((i : Int) + 1)) ?_
       refine s_nil ?_
       exact xs_round ((hdl st q ⟨#[95, 95, 105, 110, 100, 101, 120]⟩), i + 1) (by show 32 - (i + 1) < 32 - i; omega) (by show i + 1 ≤ 32 ∧ _; exact ⟨by omega, (idx_f (i := i) (q := q) (by omega) (by omega) (by omega) (by omega) c20).trans hi4.2⟩) (sub_of rfl ⟨⟨rfl, rfl⟩, ⟨⟨rfl, rfl⟩, ⟨⟨rfl, rfl⟩, ⟨⟨rfl, rfl⟩, ⟨⟨rfl, rfl⟩, trivial⟩⟩⟩⟩⟩) (fun _ h => h.re [3, 3, 3, 1] [4, 4])
  ·
   have p22 := of_decide_eq_false c7
   refine k_st ?_
   refine k_seq ?_
   refine k_sr ?_
   refine sp (pB g1 0) ?_
   refine s_lt (t_load 2 (.int .i64 q.kind)) ?_
   refine s_lt t_cmp ?_
   refine s_nt ?_
   refine k_cond (decide (q.kind = 3)) (fun c23 => ?_) (fun c23 => ?_)
   ·
    have p24 := of_decide_eq_true c23
    refine k_seq ?_
    refine k_cut (ι := Unit) (fun _ => True) (fun _ => [(5, pB g2 0), (6, pB g3 0), (40, .bool ((decide (k.kind = 3)) && (libB k.str)))]) (fun _ => blkA g3 #[.int .i64 0, .int .i64 0, .int .i64 0, .int .i64 0, .string ByteArray.empty, .int .i64 0, .int .i64 0, .int .i64 0, .int .i64 0, .string ByteArray.empty, .int .i64 0, (.slice none 0 0), .int .i64 0, .string ByteArray.empty] 51 :: blkA g2 #[.int .i64 k.kind, .int .i64 k.p, .int .i64 k.q, .string k.str, .int .i64 k.ref] 26 :: blkA g1 #[.int .i64 q.kind, .int .i64 q.p, .int .i64 q.q, .string q.str, .int .i64 q.ref] 26 :: rhA b st :: F) ?_ (fun _ _ => ?_)
    ·
     refine k_reg ?_
     refine sp (pB g2 0) ?_
     refine s_lt (t_load 1 (.int .i64 k.kind)) ?_
     refine s_lt t_cmp ?_
     refine sp (.bool (decide (k.kind = 3))) ?_
     refine s_fork 36 (decide (k.kind = 3)) (fun c25 => ?_) (fun c25 => ?_)
     ·
      have p26 := of_decide_eq_true c25
      refine sp (pB g2 3) ?_
      refine s_lt (t_load 1 (.string k.str)) ?_
      refine s_vcall (fun _ h => lib_s k.str) ?_
      rintro _ rfl
      refine sp (.bool (libB k.str)) ?_
      refine s_nil ?_
      exact xs_cut () trivial (sub_of rfl ⟨⟨rfl, rfl⟩, ⟨⟨rfl, rfl⟩, ⟨⟨rfl, show Value.bool (libB k.str) = Value.bool ((decide (k.kind = 3)) && (libB k.str)) by first | (simp only [c25, bls]; done) | simp [c25]⟩, trivial⟩⟩⟩) (fun _ h => h.re [0, 0, 0, 0] [])
     ·
      have p27 := of_decide_eq_false c25
      refine s_skip ?_
      refine s_skip ?_
      refine s_skip ?_
      refine sp (.bool false) ?_
      refine s_nil ?_
      exact xs_cut () trivial (sub_of rfl ⟨⟨rfl, rfl⟩, ⟨⟨rfl, rfl⟩, ⟨⟨rfl, show Value.bool false = Value.bool ((decide (k.kind = 3)) && (libB k.str)) by first | (simp only [c25, bls]; done) | simp [c25]⟩, trivial⟩⟩⟩) (fun _ h => h.re [0, 0, 0, 0] [])
    ·
     refine k_cond ((decide (k.kind = 3)) && (libB k.str)) (fun c28 => ?_) (fun c28 => ?_)
     ·
      obtain ⟨c29, c30⟩ := and_t c28
      have p31 := of_decide_eq_true c29
      refine k_sr ?_
      refine sp (pB g2 3) ?_
      refine s_lt (t_load 1 (.string k.str)) ?_
      refine s_lt (t_cat ⟨#[115, 116, 114, 105, 110, 103, 46]⟩ k.str (cat_ok (by decide : (⟨#[115, 116, 114, 105, 110, 103, 46]⟩ : ByteArray).size ≤ 7) (lib_size (s := k.str) c30) (by decide))) ?_
      refine s_lt (t_kern (.agg #[.int .i64 6, .int .i64 0, .int .i64 0, .string (⟨#[115, 116, 114, 105, 110, 103, 46]⟩ ++ k.str), .int .i64 0])) ?_
      refine s_vcall (fun _ h => give_s (⟨6, 0, 0, (⟨#[115, 116, 114, 105, 110, 103, 46]⟩ ++ k.str), 0⟩ : Vl)) ?_
      rintro _ rfl
      refine s_store 0 #[.int .i64 1, .int .i64 6, .int .i64 0, .int .i64 0, .string (⟨#[115, 116, 114, 105, 110, 103, 46]⟩ ++ k.str), .int .i64 0, .int .i64 0, .int .i64 0, .int .i64 0, .string ByteArray.empty, .int .i64 0, (.slice none 0 0), .int .i64 0, .string ByteArray.empty] ?_
      refine s_nt ?_
      refine k_ret ?_
      refine xs_ret ?_
      refine xs_ret ?_
      refine xs_retBlock ?_
      refine xs_ret ?_
      refine xs_ret ?_
      refine xs_retBlock ?_
      refine xs_ret ?_
      have hmv : methV k = ⟨6, 0, 0, ⟨#[115, 116, 114, 105, 110, 103, 46]⟩ ++ k.str, 0⟩ := by unfold methV; rw [if_pos ⟨by omega, c30⟩]
      have hc : idx st k 32 v = giveN (methV k) := hi4.2.symm.trans (idx_b (by omega) (by omega))
      refine xs_mem (fun _ h => Holds.nilS (T := VlT) h) ?_
      exact xs_fin [.agg #[.int .i64 1, .int .i64 6, .int .i64 0, .int .i64 0, .string (⟨#[115, 116, 114, 105, 110, 103, 46]⟩ ++ k.str), .int .i64 0, .int .i64 0, .int .i64 0, .int .i64 0, .string ByteArray.empty, .int .i64 0, (.slice none 0 0), .int .i64 0, .string ByteArray.empty]] (own VlT (.slice none 0 0) [] :: rhA b st :: F) (SI.agg 6 51 1 SI.nil) (fun _ h => h.re [0, 3] [2, 2, 2]) ⟨(.slice none 0 0), by rw [hc]; rw [hmv]; rfl, by rw [hc]; rfl⟩
     ·
      have p32 := c28
      simp only [Bool.and_eq_true, Bool.or_eq_true, Bool.and_eq_false_iff, Bool.or_eq_false_iff, Bool.not_eq_true', Bool.not_eq_false', decide_eq_true_eq, decide_eq_false_iff_not] at p32
      refine k_st ?_
      refine k_sr ?_
      refine s_lt (t_kern (.agg #[.int .i64 0, .int .i64 0, .int .i64 0, .string ByteArray.empty, .int .i64 0])) ?_
      refine s_vcall (fun _ h => give_s zVl) ?_
      rintro _ rfl
      refine s_store 0 #[.int .i64 1, .int .i64 0, .int .i64 0, .int .i64 0, .string ByteArray.empty, .int .i64 0, .int .i64 0, .int .i64 0, .int .i64 0, .string ByteArray.empty, .int .i64 0, (.slice none 0 0), .int .i64 0, .string ByteArray.empty] ?_
      refine s_nt ?_
      refine k_ret ?_
      refine xs_ret ?_
      refine xs_retBlock ?_
      refine xs_ret ?_
      refine xs_ret ?_
      refine xs_retBlock ?_
      refine xs_ret ?_
      have hmv : methV k = zVl := by unfold methV; rw [if_neg (fun h => by simp_all)]
      have hc : idx st k 32 v = giveN (methV k) := hi4.2.symm.trans (idx_b (by omega) (by omega))
      refine xs_mem (fun _ h => Holds.nilS (T := VlT) h) ?_
      exact xs_fin [.agg #[.int .i64 1, .int .i64 0, .int .i64 0, .int .i64 0, .string ByteArray.empty, .int .i64 0, .int .i64 0, .int .i64 0, .int .i64 0, .string ByteArray.empty, .int .i64 0, (.slice none 0 0), .int .i64 0, .string ByteArray.empty]] (own VlT (.slice none 0 0) [] :: rhA b st :: F) (SI.agg 6 51 1 SI.nil) (fun _ h => h.re [0, 3] [2, 2, 2]) ⟨(.slice none 0 0), by rw [hc]; rw [hmv]; rfl, by rw [hc]; rfl⟩
   ·
    have p33 := of_decide_eq_false c23
    refine k_st ?_
    refine k_sr ?_
    refine sp (pB b 0) ?_
    refine s_lt (t_loadA 2 #[.int .i64 q.kind, .int .i64 q.p, .int .i64 q.q, .string q.str, .int .i64 q.ref]) ?_
    refine s_call [3] (rhdl_s (st := st) hsm (by omega) q ⟨#[95, 95, 105, 110, 100, 101, 120]⟩) ?_
    rintro _ _ ⟨rfl, rfl⟩
    refine s_alloc (.agg #[.int .i64 0, .int .i64 0, .int .i64 0, .string ByteArray.empty, .int .i64 0]) #[.int .i64 0, .int .i64 0, .int .i64 0, .string ByteArray.empty, .int .i64 0] (fun g34 => ?_)
    refine s_store 0 #[.int .i64 ((hdl st q ⟨#[95, 95, 105, 110, 100, 101, 120]⟩).kind), .int .i64 ((hdl st q ⟨#[95, 95, 105, 110, 100, 101, 120]⟩).p), .int .i64 ((hdl st q ⟨#[95, 95, 105, 110, 100, 101, 120]⟩).q), .string ((hdl st q ⟨#[95, 95, 105, 110, 100, 101, 120]⟩).str), .int .i64 ((hdl st q ⟨#[95, 95, 105, 110, 100, 101, 120]⟩).ref)] ?_
    refine s_nt ?_
    refine k_seq ?_
    refine k_cut (ι := Unit) (fun _ => True) (fun _ => [(0, pB b 0), (4, pB g1 0), (5, pB g2 0), (6, pB g3 0), (7, .int .i64 (i : Int)), (10, pB g34 0), (58, .bool false)]) (fun _ => blkA g34 #[.int .i64 ((hdl st q ⟨#[95, 95, 105, 110, 100, 101, 120]⟩).kind), .int .i64 ((hdl st q ⟨#[95, 95, 105, 110, 100, 101, 120]⟩).p), .int .i64 ((hdl st q ⟨#[95, 95, 105, 110, 100, 101, 120]⟩).q), .string ((hdl st q ⟨#[95, 95, 105, 110, 100, 101, 120]⟩).str), .int .i64 ((hdl st q ⟨#[95, 95, 105, 110, 100, 101, 120]⟩).ref)] 26 :: rhA b st :: blkA g3 #[.int .i64 0, .int .i64 0, .int .i64 0, .int .i64 0, .string ByteArray.empty, .int .i64 0, .int .i64 0, .int .i64 0, .int .i64 0, .string ByteArray.empty, .int .i64 0, (.slice none 0 0), .int .i64 0, .string ByteArray.empty] 51 :: blkA g2 #[.int .i64 k.kind, .int .i64 k.p, .int .i64 k.q, .string k.str, .int .i64 k.ref] 26 :: blkA g1 #[.int .i64 q.kind, .int .i64 q.p, .int .i64 q.q, .string q.str, .int .i64 q.ref] 26 :: F) ?_ (fun _ _ => ?_)
    ·
     refine k_reg ?_
     refine sp (pB g34 0) ?_
     refine s_lt (t_load 0 (.int .i64 ((hdl st q ⟨#[95, 95, 105, 110, 100, 101, 120]⟩).kind))) ?_
     refine s_lt t_cmp ?_
     refine sp (.bool (decide ((hdl st q ⟨#[95, 95, 105, 110, 100, 101, 120]⟩).kind = 0))) ?_
     refine s_fork 54 (decide ((hdl st q ⟨#[95, 95, 105, 110, 100, 101, 120]⟩).kind = 0)) (fun c35 => ?_) (fun c35 => ?_)
     ·
      have p36 := of_decide_eq_true c35
      refine sp (pB g1 0) ?_
      refine s_lt (t_load 4 (.int .i64 q.kind)) ?_
      refine s_lt (Lt.to t_cmp (congrArg Value.bool (c7 : (decide (q.kind = 4)) = false))) ?_
      refine sp (.bool false) ?_
      refine s_nil ?_
      exact xcut () (fun _ h => h.re [0, 0, 0, 0, 0] [])
     ·
      have p37 := of_decide_eq_false c35
      refine s_skip ?_
      refine s_skip ?_
      refine s_skip ?_
      refine sp (.bool false) ?_
      refine s_nil ?_
      exact xcut () (fun _ h => h.re [0, 0, 0, 0, 0] [])
    ·
     refine k_false ?_
     refine k_st ?_
     refine k_seq ?_
     refine k_sr ?_
     refine sp (pB g34 0) ?_
     refine s_lt (t_load 0 (.int .i64 ((hdl st q ⟨#[95, 95, 105, 110, 100, 101, 120]⟩).kind))) ?_
     refine s_lt t_cmp ?_
     refine s_nt ?_
     refine k_cond (decide ((hdl st q ⟨#[95, 95, 105, 110, 100, 101, 120]⟩).kind = 0)) (fun c38 => ?_) (fun c38 => ?_)
     ·
      have p39 := of_decide_eq_true c38
      refine k_sr ?_
      refine s_lt (t_loadA 4 #[.int .i64 q.kind, .int .i64 q.p, .int .i64 q.q, .string q.str, .int .i64 q.ref]) ?_
      refine s_vcall (fun _ h => rindex_s q) ?_
      rintro _ rfl
      refine s_vcall (fun _ h => fail_s (attB q.kind)) ?_
      rintro _ rfl
      refine s_store 2 #[.int .i64 3, .int .i64 0, .int .i64 0, .int .i64 0, .string ByteArray.empty, .int .i64 0, .int .i64 0, .int .i64 0, .int .i64 0, .string ByteArray.empty, .int .i64 0, (.slice none 0 0), .int .i64 0, .string (attB q.kind)] ?_
      refine s_nt ?_
      refine k_ret ?_
      refine xs_ret ?_
      refine xs_retBlock ?_
      refine xs_ret ?_
      refine xs_ret ?_
      refine xs_retBlock ?_
      refine xs_ret ?_
      have hc : idx st k 32 v = failN (attB q.kind) := hi4.2.symm.trans (idx_d (by omega) (by omega) (by omega) (by omega))
      refine xs_mem (fun _ h => Holds.nilS (T := VlT) h) ?_
      exact xs_fin [.agg #[.int .i64 3, .int .i64 0, .int .i64 0, .int .i64 0, .string ByteArray.empty, .int .i64 0, .int .i64 0, .int .i64 0, .int .i64 0, .string ByteArray.empty, .int .i64 0, (.slice none 0 0), .int .i64 0, .string (attB q.kind)]] (own VlT (.slice none 0 0) [] :: rhA b st :: F) (SI.agg 6 51 3 SI.nil) (fun _ h => h.re [0, 1] [2, 2, 2, 2]) ⟨(.slice none 0 0), by rw [hc]; rfl, by rw [hc]; rfl⟩
     ·
      have p40 := of_decide_eq_false c38
      refine k_st ?_
      refine k_seq ?_
      refine k_sr ?_
      refine s_lt (t_loadA 0 #[.int .i64 ((hdl st q ⟨#[95, 95, 105, 110, 100, 101, 120]⟩).kind), .int .i64 ((hdl st q ⟨#[95, 95, 105, 110, 100, 101, 120]⟩).p), .int .i64 ((hdl st q ⟨#[95, 95, 105, 110, 100, 101, 120]⟩).q), .string ((hdl st q ⟨#[95, 95, 105, 110, 100, 101, 120]⟩).str), .int .i64 ((hdl st q ⟨#[95, 95, 105, 110, 100, 101, 120]⟩).ref)]) ?_
      refine s_vcall (fun _ h => rfun_s (hdl st q ⟨#[95, 95, 105, 110, 100, 101, 120]⟩)) ?_
      rintro _ rfl
      refine s_nt ?_
      refine k_cond (fnB (hdl st q ⟨#[95, 95, 105, 110, 100, 101, 120]⟩)) (fun c41 => ?_) (fun c41 => ?_)
      ·
       refine k_sr ?_
       refine s_lt (t_loadA 0 #[.int .i64 ((hdl st q ⟨#[95, 95, 105, 110, 100, 101, 120]⟩).kind), .int .i64 ((hdl st q ⟨#[95, 95, 105, 110, 100, 101, 120]⟩).p), .int .i64 ((hdl st q ⟨#[95, 95, 105, 110, 100, 101, 120]⟩).q), .string ((hdl st q ⟨#[95, 95, 105, 110, 100, 101, 120]⟩).str), .int .i64 ((hdl st q ⟨#[95, 95, 105, 110, 100, 101, 120]⟩).ref)]) ?_
       refine s_lt (t_loadA 4 #[.int .i64 q.kind, .int .i64 q.p, .int .i64 q.q, .string q.str, .int .i64 q.ref]) ?_
       refine s_lt (t_loadA 3 #[.int .i64 k.kind, .int .i64 k.p, .int .i64 k.q, .string k.str, .int .i64 k.ref]) ?_
       refine s_buildSlice (e := 26) [(0, .agg #[.int .i64 q.kind, .int .i64 q.p, .int .i64 q.q, .string q.str, .int .i64 q.ref]), (1, .agg #[.int .i64 k.kind, .int .i64 k.p, .int .i64 k.q, .string k.str, .int .i64 k.ref])] #[.int .i64 q.kind, .int .i64 q.p, .int .i64 q.q, .string q.str, .int .i64 q.ref, .int .i64 k.kind, .int .i64 k.p, .int .i64 k.q, .string k.str, .int .i64 k.ref] (fun g42 => ?_) (hb := by kernel_rfl)
       refine s_vcall (fun _ h => rcall_s (hdl st q ⟨#[95, 95, 105, 110, 100, 101, 120]⟩) 1 (some ⟨g42, 0, none⟩) 2 2 []) ?_
       rintro _ rfl
       refine s_store 3 #[.int .i64 2, .int .i64 0, .int .i64 0, .int .i64 0, .string ByteArray.empty, .int .i64 0, .int .i64 ((hdl st q ⟨#[95, 95, 105, 110, 100, 101, 120]⟩).kind), .int .i64 ((hdl st q ⟨#[95, 95, 105, 110, 100, 101, 120]⟩).p), .int .i64 ((hdl st q ⟨#[95, 95, 105, 110, 100, 101, 120]⟩).q), .string ((hdl st q ⟨#[95, 95, 105, 110, 100, 101, 120]⟩).str), .int .i64 ((hdl st q ⟨#[95, 95, 105, 110, 100, 101, 120]⟩).ref), (.slice (some ⟨g42, 0, none⟩) 2 2), .int .i64 1, .string ByteArray.empty] ?_
       refine s_nt ?_
       refine k_ret ?_
       refine xs_ret ?_
       refine xs_retBlock ?_
       refine xs_ret ?_
       refine xs_ret ?_
       refine xs_retBlock ?_
       refine xs_ret ?_
       have hc : idx st k 32 v = callN (hdl st q ⟨#[95, 95, 105, 110, 100, 101, 120]⟩) 1 [q, k] := hi4.2.symm.trans (idx_e (by omega) (by omega) (by omega) (by omega) c41)
       refine xs_mem (fun _ h => Holds.slice 0 h VlT_ok [q, k]) ?_
       exact xs_fin [.agg #[.int .i64 2, .int .i64 0, .int .i64 0, .int .i64 0, .string ByteArray.empty, .int .i64 0, .int .i64 ((hdl st q ⟨#[95, 95, 105, 110, 100, 101, 120]⟩).kind), .int .i64 ((hdl st q ⟨#[95, 95, 105, 110, 100, 101, 120]⟩).p), .int .i64 ((hdl st q ⟨#[95, 95, 105, 110, 100, 101, 120]⟩).q), .string ((hdl st q ⟨#[95, 95, 105, 110, 100, 101, 120]⟩).str), .int .i64 ((hdl st q ⟨#[95, 95, 105, 110, 100, 101, 120]⟩).ref), (.slice (some ⟨g42, 0, none⟩) 2 2), .int .i64 1, .string ByteArray.empty]] (own VlT (.slice (some ⟨g42, 0, none⟩) 2 2) [q, k] :: rhA b st :: F) (SI.agg 6 51 3 SI.nil) (fun _ h => h.re [0, 1] [2, 2, 2, 2]) ⟨(.slice (some ⟨g42, 0, none⟩) 2 2), by rw [hc]; rfl, by rw [hc]; rfl⟩
      ·
       refine k_st ?_
       refine k_reg ?_
       refine s_lt (t_loadA 0 #[.int .i64 ((hdl st q ⟨#[95, 95, 105, 110, 100, 101, 120]⟩).kind), .int .i64 ((hdl st q ⟨#[95, 95, 105, 110, 100, 101, 120]⟩).p), .int .i64 ((hdl st q ⟨#[95, 95, 105, 110, 100, 101, 120]⟩).q), .string ((hdl st q ⟨#[95, 95, 105, 110, 100, 101, 120]⟩).str), .int .i64 ((hdl st q ⟨#[95, 95, 105, 110, 100, 101, 120]⟩).ref)]) ?_
       refine s_store 4 #[.int .i64 ((hdl st q ⟨#[95, 95, 105, 110, 100, 101, 120]⟩).kind), .int .i64 ((hdl st q ⟨#[95, 95, 105, 110, 100, 101, 120]⟩).p), .int .i64 ((hdl st q ⟨#[95, 95, 105, 110, 100, 101, 120]⟩).q), .string ((hdl st q ⟨#[95, 95, 105, 110, 100, 101, 120]⟩).str), .int .i64 ((hdl st q ⟨#[95, 95, 105, 110, 100, 101, 120]⟩).ref)] ?_
       refine s_nil ?_
       refine xs_block ?_
       refine xs_then ?_
       refine k_reg ?_
       refine sp (.int .i64 (i : Int)) ?_
       refine s_lt (t_add (i : Int) 1 (by (try simp only [lnm]); omega)) ?_
       refine sp (.int .i64 ((i : Int) + 1)) ?_
       refine s_nil ?_
       exact xs_round ((hdl st q ⟨#[95, 95, 105, 110, 100, 101, 120]⟩), i + 1) (by show 32 - (i + 1) < 32 - i; omega) (by show i + 1 ≤ 32 ∧ _; exact ⟨by omega, (idx_f (i := i) (q := q) (by omega) (by omega) (by omega) (by omega) c41).trans hi4.2⟩) (sub_of rfl ⟨⟨rfl, rfl⟩, ⟨⟨rfl, rfl⟩, ⟨⟨rfl, rfl⟩, ⟨⟨rfl, rfl⟩, ⟨⟨rfl, rfl⟩, trivial⟩⟩⟩⟩⟩) (fun _ h => h.re [2, 2, 2, 1] [4])
 ·
  have p43 := of_decide_eq_false c5
  refine k_exit ?_
  refine xs_exit ?_
  refine xs_exit ?_
  refine xs_here ?_
  refine xs_then ?_
  refine k_sr ?_
  refine s_vcall (fun _ h => fail_s ⟨#[99, 104, 97, 105, 110, 32, 111, 102, 32, 109, 101, 116, 97, 116, 97, 98, 108, 101, 115, 32, 116, 111, 111, 32, 108, 111, 110, 103]⟩) ?_
  rintro _ rfl
  refine s_store 0 #[.int .i64 3, .int .i64 0, .int .i64 0, .int .i64 0, .string ByteArray.empty, .int .i64 0, .int .i64 0, .int .i64 0, .int .i64 0, .string ByteArray.empty, .int .i64 0, (.slice none 0 0), .int .i64 0, .string ⟨#[99, 104, 97, 105, 110, 32, 111, 102, 32, 109, 101, 116, 97, 116, 97, 98, 108, 101, 115, 32, 116, 111, 111, 32, 108, 111, 110, 103]⟩] ?_
  refine s_nt ?_
  refine k_ret ?_
  have hc : idx st k 32 v = failN ⟨#[99, 104, 97, 105, 110, 32, 111, 102, 32, 109, 101, 116, 97, 116, 97, 98, 108, 101, 115, 32, 116, 111, 111, 32, 108, 111, 110, 103]⟩ := hi4.2.symm.trans (chn_end (by omega))
  refine xs_mem (fun _ h => Holds.nilS (T := VlT) h) ?_
  exact xs_fin [.agg #[.int .i64 3, .int .i64 0, .int .i64 0, .int .i64 0, .string ByteArray.empty, .int .i64 0, .int .i64 0, .int .i64 0, .int .i64 0, .string ByteArray.empty, .int .i64 0, (.slice none 0 0), .int .i64 0, .string ⟨#[99, 104, 97, 105, 110, 32, 111, 102, 32, 109, 101, 116, 97, 116, 97, 98, 108, 101, 115, 32, 116, 111, 111, 32, 108, 111, 110, 103]⟩]] (own VlT (.slice none 0 0) [] :: rhA b st :: F) (SI.agg 6 51 1 SI.nil) (fun _ h => h.re [0, 3] [2, 2, 2]) ⟨(.slice none 0 0), by rw [hc]; rfl, by rw [hc]; rfl⟩
end Go.Proofs.Ytplkkhpokodbmaa
