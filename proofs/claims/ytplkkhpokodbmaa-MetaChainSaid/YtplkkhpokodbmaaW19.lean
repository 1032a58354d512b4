/-
  Layer 15: MetaChain. Each law says its conditions.
-/
import Derived.Test.YtplkkhpokodbmaaW15
import Derived.Test.YtplkkhpokodbmaaW12
import Derived.Test.YtplkkhpokodbmaaCH
set_option linter.unusedSimpArgs false
set_option linter.unusedVariables false
set_option maxRecDepth 100000
set_option maxHeartbeats 2000000
namespace Go.Proofs.Ytplkkhpokodbmaa
open Go.Hp Go.J Go.S
open Go.Mem (Ty KTy blk elemAt pre suf blk_pre blk_suf aget aset strK aggDesc)
open Go.Mem (adel apos aget_aset aget_adel)
section
variable {st : Hst} {k last e x : Vl} {n : Int}
theorem lnk_hdl {j : Nat} {v : Vl} (h : lnk st k (strV ⟨#[95, 95, 105, 110, 100, 101, 120]⟩) (strV ⟨#[95, 95, 110, 101, 119, 105, 110, 100, 101, 120]⟩) last e n (j + 1) v) : ∃ u, hdl st v ⟨#[95, 95, 105, 110, 100, 101, 120]⟩ = u ∧ hdl st v ⟨#[95, 95, 110, 101, 119, 105, 110, 100, 101, 120]⟩ = u ∧ lnk st k (strV ⟨#[95, 95, 105, 110, 100, 101, 120]⟩) (strV ⟨#[95, 95, 110, 101, 119, 105, 110, 100, 101, 120]⟩) last e n j u := by
  obtain ⟨_, _, _, _, h5, _, u, h7, h8, h9⟩ := h
  refine ⟨u, ?_, ?_, h9⟩
  · unfold hdl; rw [if_neg (by omega)]; exact h7
  · unfold hdl; rw [if_neg (by omega)]; exact h8
theorem lnk_get {v : Vl} (hk : okKey k = true) (hev : validB e = true) (h : lnk st k (strV ⟨#[95, 95, 105, 110, 100, 101, 120]⟩) (strV ⟨#[95, 95, 110, 101, 119, 105, 110, 100, 101, 120]⟩) last e n 0 v) : v = last ∧ v.kind = 4 ∧ hgetV st v k = e := by
  obtain ⟨h1, h4, _, _, hg⟩ := h
  refine ⟨h1, h4, ?_⟩
  rw [hgetV_of hg h4 rfl]
  show tget (tset noTb k e) k = e
  rw [tget_tset noTb_inv noTb_tw hk hev, if_pos rfl]
theorem chain_idx (hk : okKey k = true) (hev : validB e = true) (he : e.kind ≠ 0) : ∀ (m j : Nat) (v : Vl), lnk st k (strV ⟨#[95, 95, 105, 110, 100, 101, 120]⟩) (strV ⟨#[95, 95, 110, 101, 119, 105, 110, 100, 101, 120]⟩) last e n j v → idx st k m v = if j < m then giveN e else failN ⟨#[99, 104, 97, 105, 110, 32, 111, 102, 32, 109, 101, 116, 97, 116, 97, 98, 108, 101, 115, 32, 116, 111, 111, 32, 108, 111, 110, 103]⟩
  | 0, j, v, _ => by rw [if_neg (by omega)]; rfl
  | m + 1, 0, v, h => by
    obtain ⟨_, h4, hget⟩ := lnk_get hk hev h
    have hs : ∀ f, stl st k v f = (giveN e, true) := fun f => by unfold stl; rw [if_pos h4, hget]; simp [he]
    show chn _ _ _ (m + 1) v = _
    rw [chn, if_pos (by rw [hs]), hs, if_pos (by omega)]
  | m + 1, j + 1, v, h => by
    obtain ⟨u, h1, h2, h3⟩ := lnk_hdl h
    have hu := lnk_kind _ h3
    have hs : (stl st k v u).2 = false := by unfold stl; rw [if_pos h.1, h.2.2.2.1]; simp [zVl, hu.1]
    have ih := chain_idx hk hev he m j u h3
    show chn _ _ _ (m + 1) v = _
    rw [chn]
    simp only [h1]
    rw [if_neg (by rw [hs]; decide), if_neg (by omega), if_neg (by unfold fnB; simp [hu.1])]
    rw [show chn (stl st k) (fun v f => callN f 1 [v, k]) (fun v => hdl st v ⟨#[95, 95, 105, 110, 100, 101, 120]⟩) m u = idx st k m u from rfl, ih]
    by_cases hj : j < m
    · rw [if_pos hj, if_pos (by omega)]
    · rw [if_neg hj, if_neg (by omega)]
theorem chain_asg (hk : okKey k = true) (hev : validB e = true) (he : e.kind ≠ 0) : ∀ (m j : Nat) (v : Vl), lnk st k (strV ⟨#[95, 95, 105, 110, 100, 101, 120]⟩) (strV ⟨#[95, 95, 110, 101, 119, 105, 110, 100, 101, 120]⟩) last e n j v → asg st k x m v = (if j < m then storN 4 (hsetE st last k x) else failN ⟨#[99, 104, 97, 105, 110, 32, 111, 102, 32, 109, 101, 116, 97, 116, 97, 98, 108, 101, 115, 32, 116, 111, 111, 32, 108, 111, 110, 103]⟩) ∧ asgS st k x m v = if j < m then hset st last k x else st
  | 0, j, v, _ => by rw [if_neg (by omega), if_neg (by omega)]; exact ⟨rfl, rfl⟩
  | m + 1, 0, v, h => by
    obtain ⟨h0, h4, hget⟩ := lnk_get hk hev h
    subst h0
    have hs : ∀ f, sta st k x v f = (storN 4 (hsetE st v k x), true) := fun f => by unfold sta; rw [if_pos ⟨h4, fun hc => he (by rw [← hget]; exact hc.1)⟩, h4]
    constructor
    · show chn _ _ _ (m + 1) v = _
      rw [chn, if_pos (by rw [hs]), hs, if_pos (by omega)]
    · show chnS _ _ _ _ (m + 1) v = _
      rw [chnS, if_pos (by rw [hs]), if_pos (by omega)]
  | m + 1, j + 1, v, h => by
    obtain ⟨u, h1, h2, h3⟩ := lnk_hdl h
    have hu := lnk_kind _ h3
    have hs : (sta st k x v u).2 = false := by unfold sta; rw [if_neg fun hc => hc.2 ⟨by rw [h.2.2.2.1]; rfl, by omega⟩]
    obtain ⟨ih1, ih2⟩ := chain_asg hk hev he m j u h3
    constructor
    · show chn _ _ _ (m + 1) v = _
      rw [chn]
      simp only [h2]
      rw [if_neg (by rw [hs]; decide), if_neg (by omega), if_neg (by unfold fnB; simp [hu.1])]
      rw [show chn (sta st k x) (fun v f => callN f 4 [v, k, x]) (fun v => hdl st v ⟨#[95, 95, 110, 101, 119, 105, 110, 100, 101, 120]⟩) m u = asg st k x m u from rfl, ih1]
      by_cases hj : j < m
      · rw [if_pos hj, if_pos (by omega)]
      · rw [if_neg hj, if_neg (by omega)]
    · show chnS _ _ _ _ (m + 1) v = _
      rw [chnS]
      simp only [h2]
      rw [if_neg (by rw [hs]; decide), if_neg (by omega), if_neg (by unfold fnB; simp [hu.1])]
      rw [show chnS (sta st k x) (fun v => hdl st v ⟨#[95, 95, 110, 101, 119, 105, 110, 100, 101, 120]⟩) st (fun v => hset st v k x) m u = asgS st k x m u from rfl, ih2]
      by_cases hj : j < m
      · rw [if_pos hj, if_pos (by omega)]
      · rw [if_neg hj, if_neg (by omega)]
end
theorem lnk_lastget {st : Hst} {k e x : Vl} {n : Int} {j : Nat} {v ix nx last : Vl} (hk : okKey k = true) (hev : validB e = true) (hxv : elemE x = 0) (h : lnk st k ix nx last e n j v) : hgetV st last k = e ∧ hsetE st last k x = 0 ∧ hgetV (hset st last k x) last k = x := by
  obtain ⟨h4, hg⟩ := lnk_last j h
  obtain ⟨a1, _, a3⟩ := hset_okG (x := x) hg rfl h4 hk hxv
  have hv : validB x = true := by
    unfold elemE at hxv
    split at hxv
    · cases hxv
    split at hxv
    · cases hxv
    · rename_i h; simpa using h
  refine ⟨?_, a1, ?_⟩
  · rw [hgetV_of hg h4 rfl]
    show tget (tset noTb k e) k = e
    rw [tget_tset noTb_inv noTb_tw hk hev, if_pos rfl]
  · have hg2 := a3 last.ref
    rw [if_pos rfl] at hg2
    rw [hgetV_of hg2 h4 rfl]
    exact tbO_set hk hv hev
theorem chain_w {Z : Zone} {n : Int} (hn0 : 0 ≤ n) (hn1 : n ≤ 255) (k : Spc) : SF Try.prog 7 #[.int .u8 n, k.w] Z [] fun r Bs => r = .bool true ∧ Bs = [] := by
 refine sf_enter Try.func7 187 [(0, .int .u8 n), (1, .agg #[.int .i64 k.v.kind, .int .i64 k.v.p, .int .i64 k.v.q, .string k.v.str, .int .i64 k.v.ref, .int .i64 k.obj])] (fun w0 => ?_)
 refine k_sr ?_
 refine s_box #[.int .i64 k.v.kind, .int .i64 k.v.p, .int .i64 k.v.q, .string k.v.str, .int .i64 k.v.ref, .int .i64 k.obj] (fun g1 => ?_)
 refine sp (.bool false) ?_
 refine s_nr ?_
 refine sp (pB g1 0) ?_
 refine s_lt (t_loadA 0 #[.int .i64 k.v.kind, .int .i64 k.v.p, .int .i64 k.v.q, .string k.v.str, .int .i64 k.v.ref]) ?_
 refine s_alloc (.agg #[.int .i64 0, .int .i64 0, .int .i64 0, .string ByteArray.empty, .int .i64 0]) #[.int .i64 0, .int .i64 0, .int .i64 0, .string ByteArray.empty, .int .i64 0] (fun g2 => ?_)
 refine s_store 0 #[.int .i64 k.v.kind, .int .i64 k.v.p, .int .i64 k.v.q, .string k.v.str, .int .i64 k.v.ref] ?_
 refine s_nr ?_
 refine s_pcall (fun _ h => hnew_s) ?_
 rintro _ _ ⟨hb3, rfl, rfl⟩
 refine sp (pB hb3 0) ?_
 refine s_nt ?_
 refine k_seq ?_
 refine k_cut (ι := Unit) (fun _ => True) (fun _ => [(0, .int .u8 n), (5, pB g2 0), (6, pB hb3 0), (50, .bool ((!(validB k.v)) || ((decide (k.v.kind = 0)) || ((decide ((4096 : Int) < (k.v.str.size : Int))) || ((decide ((1 : Int) < k.v.ref)) && (decide (k.v.kind ≠ 1)))))))]) (fun _ => [hpA hb3 hp0, blkA g2 #[.int .i64 k.v.kind, .int .i64 k.v.p, .int .i64 k.v.q, .string k.v.str, .int .i64 k.v.ref] 26, blkA g1 #[.int .i64 k.v.kind, .int .i64 k.v.p, .int .i64 k.v.q, .string k.v.str, .int .i64 k.v.ref, .int .i64 k.obj] 28]) ?_ (fun _ _ => ?_)
 ·
  refine k_reg ?_
  refine sp (pB hb3 0) ?_
  refine sp (.bool false) ?_
  refine sp (.bool false) ?_
  refine s_lt (t_loadA 1 #[.int .i64 k.v.kind, .int .i64 k.v.p, .int .i64 k.v.q, .string k.v.str, .int .i64 k.v.ref]) ?_
  refine s_vcall (fun _ h => rvalid_s k.v) ?_
  rintro _ rfl
  refine sp (.bool (!(validB k.v))) ?_
  refine sp (.bool (!(validB k.v))) ?_
  refine sp (.bool (!(validB k.v))) ?_
  refine s_fork 30 (!(validB k.v)) (fun c4 => ?_) (fun c4 => ?_)
  ·
   have c5 := not_t c4
   refine s_skip ?_
   refine s_skip ?_
   refine s_skip ?_
   refine sp (.bool true) ?_
   refine sp (.bool true) ?_
   refine s_skip ?_
   refine s_skip ?_
   refine s_skip ?_
   refine s_skip ?_
   refine sp (.bool true) ?_
   refine sp (.bool true) ?_
   refine s_skip ?_
   refine s_skip ?_
   refine s_skip ?_
   refine s_skip ?_
   refine s_skip ?_
   refine s_skip ?_
   refine s_skip ?_
   refine s_skip ?_
   refine sp (.bool true) ?_
   refine s_nil ?_
   exact xs_cut () trivial (sub_of rfl ⟨⟨rfl, rfl⟩, ⟨⟨rfl, rfl⟩, ⟨⟨rfl, rfl⟩, ⟨⟨rfl, show Value.bool true = Value.bool ((!(validB k.v)) || ((decide (k.v.kind = 0)) || ((decide ((4096 : Int) < (k.v.str.size : Int))) || ((decide ((1 : Int) < k.v.ref)) && (decide (k.v.kind ≠ 1)))))) by first | (simp only [c4, bls]; done) | simp [c4]⟩, trivial⟩⟩⟩⟩) (fun _ h => h.re [0, 0, 0] [])
  ·
   have c6 := not_f c4
   refine sp (pB g2 0) ?_
   refine s_lt (t_load 1 (.int .i64 k.v.kind)) ?_
   refine s_lt t_cmp ?_
   refine sp (.bool (decide (k.v.kind = 0))) ?_
   refine sp (.bool (decide (k.v.kind = 0))) ?_
   refine s_fork 35 (decide (k.v.kind = 0)) (fun c7 => ?_) (fun c7 => ?_)
   ·
    have p8 := of_decide_eq_true c7
    refine s_skip ?_
    refine s_skip ?_
    refine s_skip ?_
    refine s_skip ?_
    refine sp (.bool true) ?_
    refine sp (.bool true) ?_
    refine s_skip ?_
    refine s_skip ?_
    refine s_skip ?_
    refine s_skip ?_
    refine s_skip ?_
    refine s_skip ?_
    refine s_skip ?_
    refine s_skip ?_
    refine sp (.bool true) ?_
    refine s_nil ?_
    exact xs_cut () trivial (sub_of rfl ⟨⟨rfl, rfl⟩, ⟨⟨rfl, rfl⟩, ⟨⟨rfl, rfl⟩, ⟨⟨rfl, show Value.bool true = Value.bool ((!(validB k.v)) || ((decide (k.v.kind = 0)) || ((decide ((4096 : Int) < (k.v.str.size : Int))) || ((decide ((1 : Int) < k.v.ref)) && (decide (k.v.kind ≠ 1)))))) by first | (simp only [c4, c7, bls]; done) | simp [c4, c7]⟩, trivial⟩⟩⟩⟩) (fun _ h => h.re [0, 0, 0] [])
   ·
    have p9 := of_decide_eq_false c7
    refine sp (pB g2 3) ?_
    refine s_lt (t_load 1 (.string k.v.str)) ?_
    refine s_lt (t_kern (.int .i64 (k.v.str.size : Int))) ?_
    refine s_lt t_cmp ?_
    refine sp (.bool (decide ((4096 : Int) < (k.v.str.size : Int)))) ?_
    refine sp (.bool (decide ((4096 : Int) < (k.v.str.size : Int)))) ?_
    refine s_fork 41 (decide ((4096 : Int) < (k.v.str.size : Int))) (fun c10 => ?_) (fun c10 => ?_)
    ·
     have p11 := of_decide_eq_true c10
     refine s_skip ?_
     refine s_skip ?_
     refine s_skip ?_
     refine s_skip ?_
     refine s_skip ?_
     refine s_skip ?_
     refine s_skip ?_
     refine s_skip ?_
     refine sp (.bool true) ?_
     refine s_nil ?_
     exact xs_cut () trivial (sub_of rfl ⟨⟨rfl, rfl⟩, ⟨⟨rfl, rfl⟩, ⟨⟨rfl, rfl⟩, ⟨⟨rfl, show Value.bool true = Value.bool ((!(validB k.v)) || ((decide (k.v.kind = 0)) || ((decide ((4096 : Int) < (k.v.str.size : Int))) || ((decide ((1 : Int) < k.v.ref)) && (decide (k.v.kind ≠ 1)))))) by first | (simp only [c4, c7, c10, bls]; done) | simp [c4, c7, c10]⟩, trivial⟩⟩⟩⟩) (fun _ h => h.re [0, 0, 0] [])
    ·
     have p12 := of_decide_eq_false c10
     refine sp (pB g2 4) ?_
     refine s_lt (t_load 1 (.int .i64 k.v.ref)) ?_
     refine s_lt t_cmp ?_
     refine sp (.bool (decide ((1 : Int) < k.v.ref))) ?_
     refine s_fork 45 (decide ((1 : Int) < k.v.ref)) (fun c13 => ?_) (fun c13 => ?_)
     ·
      have p14 := of_decide_eq_true c13
      refine sp (pB g2 0) ?_
      refine s_lt (t_load 1 (.int .i64 k.v.kind)) ?_
      refine s_lt t_cmp ?_
      refine sp (.bool (decide (k.v.kind ≠ 1))) ?_
      refine sp (.bool (decide (k.v.kind ≠ 1))) ?_
      refine s_nil ?_
      exact xs_cut () trivial (sub_of rfl ⟨⟨rfl, rfl⟩, ⟨⟨rfl, rfl⟩, ⟨⟨rfl, rfl⟩, ⟨⟨rfl, show Value.bool (decide (k.v.kind ≠ 1)) = Value.bool ((!(validB k.v)) || ((decide (k.v.kind = 0)) || ((decide ((4096 : Int) < (k.v.str.size : Int))) || ((decide ((1 : Int) < k.v.ref)) && (decide (k.v.kind ≠ 1)))))) by first | (simp only [c4, c7, c10, c13, bls]; done) | simp [c4, c7, c10, c13]⟩, trivial⟩⟩⟩⟩) (fun _ h => h.re [0, 0, 0] [])
     ·
      have p15 := of_decide_eq_false c13
      refine s_skip ?_
      refine s_skip ?_
      refine s_skip ?_
      refine sp (.bool false) ?_
      refine sp (.bool false) ?_
      refine s_nil ?_
      exact xs_cut () trivial (sub_of rfl ⟨⟨rfl, rfl⟩, ⟨⟨rfl, rfl⟩, ⟨⟨rfl, rfl⟩, ⟨⟨rfl, show Value.bool false = Value.bool ((!(validB k.v)) || ((decide (k.v.kind = 0)) || ((decide ((4096 : Int) < (k.v.str.size : Int))) || ((decide ((1 : Int) < k.v.ref)) && (decide (k.v.kind ≠ 1)))))) by first | (simp only [c4, c7, c10, c13, bls]; done) | simp [c4, c7, c10, c13]⟩, trivial⟩⟩⟩⟩) (fun _ h => h.re [0, 0, 0] [])
 ·
  refine k_cond ((!(validB k.v)) || ((decide (k.v.kind = 0)) || ((decide ((4096 : Int) < (k.v.str.size : Int))) || ((decide ((1 : Int) < k.v.ref)) && (decide (k.v.kind ≠ 1)))))) (fun c16 => ?_) (fun c16 => ?_)
  ·
   have p17 := c16
   simp only [Bool.and_eq_true, Bool.or_eq_true, Bool.and_eq_false_iff, Bool.or_eq_false_iff, Bool.not_eq_true', Bool.not_eq_false', decide_eq_true_eq, decide_eq_false_iff_not] at p17
   refine k_sr ?_
   refine sp (pB hb3 0) ?_
   refine sp (.bool true) ?_
   refine sp (.bool true) ?_
   refine s_vcall (fun _ h => lives_s) ?_
   rintro _ rfl
   refine sp (.bool true) ?_
   refine sp (.bool true) ?_
   refine s_nt ?_
   refine k_ret ?_
   refine xs_ret ?_
   exact xs_fin [.bool true] [] (SI.tmp 4 SI.nil) (fun _ h => h.re [] [0, 0, 0]) ⟨rfl, rfl⟩
  ·
   obtain ⟨c18, c19⟩ := or_f c16
   have c20 := not_f c18
   obtain ⟨c21, c22⟩ := or_f c19
   have p23 := of_decide_eq_false c21
   obtain ⟨c24, c25⟩ := or_f c22
   have p26 := of_decide_eq_false c24
   have p27 := c25
   simp only [Bool.and_eq_true, Bool.or_eq_true, Bool.and_eq_false_iff, Bool.or_eq_false_iff, Bool.not_eq_true', Bool.not_eq_false', decide_eq_true_eq, decide_eq_false_iff_not] at p27
   refine k_st ?_
   have zt1 := Int.tmod_nonneg 40 hn0
   have zt2 := Int.tmod_lt_of_pos n (show (0 : Int) < 40 by decide)
   refine k_sr ?_
   refine sp (.int .u8 n) ?_
   refine s_lt (t_conv n (by rw [IntKind.wrap_i64]; omega) Try.underlying5 Try.underlying3) ?_
   refine s_lt (t_rem n 40 (by omega)) ?_
   refine s_lt (t_add 1 (Int.tmod n 40) (by (try simp only [lnm]); omega)) ?_
   refine sp (.int .i64 (1 + (Int.tmod n 40))) ?_
   refine s_nt ?_
   have hkk : okKey k.v = true := okKey_iff.2 ⟨c20, of_decide_eq_false c21⟩
   have hev : validB (strV ⟨#[101, 110, 100]⟩) = true := by kernel_rfl
   have hee : elemE (strV ⟨#[101, 110, 100]⟩) = 0 := by kernel_rfl
   have hxe : elemE (strV ⟨#[110, 101, 119]⟩) = 0 := by kernel_rfl
   obtain ⟨zs1, zs2, zs3, zs4⟩ := lnk_start (ix := (strV ⟨#[95, 95, 105, 110, 100, 101, 120]⟩)) (nx := (strV ⟨#[95, 95, 110, 101, 119, 105, 110, 100, 101, 120]⟩)) hkk hee
   obtain ⟨most, hmost⟩ : ∃ m : Nat, (1 + (Int.tmod n 40)) = (m : Int) := ⟨((1 + (Int.tmod n 40))).toNat, by omega⟩
   have hm1 : 1 ≤ most ∧ most ≤ 40 := by omega
   rw [hmost]
   refine k_sr ?_
   refine sp (pB hb3 0) ?_
   refine s_call [0] (hnewtable_s (st := hp0) (by have := HSm.nil.len; omega)) ?_
   rintro _ _ ⟨rfl, rfl⟩
   have hi28 := hmake_inv (o := (newO 4 0 ByteArray.empty [])) HInv.nil (newO_inv _ _ _ (by decide))
   have hs29 := hmake_sm (o := (newO 4 0 ByteArray.empty [])) HSm.nil rfl (by decide)
   refine sp (.tuple #[.agg #[.int .i64 ((hmakeV hp0 4).kind), .int .i64 ((hmakeV hp0 4).p), .int .i64 ((hmakeV hp0 4).q), .string ((hmakeV hp0 4).str), .int .i64 ((hmakeV hp0 4).ref)], .int .i64 (hmakeE hp0)]) ?_
   refine sp (.agg #[.int .i64 ((hmakeV hp0 4).kind), .int .i64 ((hmakeV hp0 4).p), .int .i64 ((hmakeV hp0 4).q), .string ((hmakeV hp0 4).str), .int .i64 ((hmakeV hp0 4).ref)]) ?_
   refine sp (.int .i64 (hmakeE hp0)) ?_
   refine s_alloc (.agg #[.int .i64 0, .int .i64 0, .int .i64 0, .string ByteArray.empty, .int .i64 0]) #[.int .i64 0, .int .i64 0, .int .i64 0, .string ByteArray.empty, .int .i64 0] (fun g30 => ?_)
   refine s_store 0 #[.int .i64 ((hmakeV hp0 4).kind), .int .i64 ((hmakeV hp0 4).p), .int .i64 ((hmakeV hp0 4).q), .string ((hmakeV hp0 4).str), .int .i64 ((hmakeV hp0 4).ref)] ?_
   refine sp (.int .i64 (hmakeE hp0)) ?_
   refine s_nt ?_
   refine k_seq ?_
   refine k_seq ?_
   refine k_held [blkA g30 #[.int .i64 ((hmakeV hp0 4).kind), .int .i64 ((hmakeV hp0 4).p), .int .i64 ((hmakeV hp0 4).q), .string ((hmakeV hp0 4).str), .int .i64 ((hmakeV hp0 4).ref)] 26, blkA g2 #[.int .i64 k.v.kind, .int .i64 k.v.p, .int .i64 k.v.q, .string k.v.str, .int .i64 k.v.ref] 26, blkA g1 #[.int .i64 k.v.kind, .int .i64 k.v.p, .int .i64 k.v.q, .string k.v.str, .int .i64 k.v.ref, .int .i64 k.obj] 28] ?_
   refine hp_ 0 [0, 1, 1] (.int .i64 (hmakeE hp0)) ?_
   refine h_l 1 rfl [0, 1, 1] (fun _ => (Lt.to t_cmp (congrArg Value.bool (decide_eq_false (fun h => h zs1) : (decide ((hmakeE hp0) ≠ 0)) = false)))) ?_
   refine hp_ 2 [0, 1, 1] (.bool false) ?_
   refine hp_ 3 [0, 1, 1] (pB hb3 0) ?_
   refine h_l 4 rfl [0, 1, 1] (fun _ => (t_loadA 0 #[.int .i64 ((hmakeV hp0 4).kind), .int .i64 ((hmakeV hp0 4).p), .int .i64 ((hmakeV hp0 4).q), .string ((hmakeV hp0 4).str), .int .i64 ((hmakeV hp0 4).ref)])) ?_
   refine h_l 5 rfl [0, 1, 1] (fun _ => (t_loadA 1 #[.int .i64 k.v.kind, .int .i64 k.v.p, .int .i64 k.v.q, .string k.v.str, .int .i64 k.v.ref])) ?_
   refine h_stepS 6 ?_
   refine s_vcall (fun _ h => lstr_s ⟨#[101, 110, 100]⟩) ?_
   rintro _ rfl
   refine s_nil (xs_held [0, 1, 1] ?_)
   refine h_stepS 7 ?_
   refine s_call [1] (hset_s (st := (hmake hp0 (newO 4 0 ByteArray.empty []))) hs29 (by omega) (hmakeV hp0 4) k.v (strV ⟨#[101, 110, 100]⟩)) ?_
   rintro _ _ ⟨rfl, rfl⟩
   have hi31 := hset_inv hi28 (hmakeV hp0 4) k.v (strV ⟨#[101, 110, 100]⟩)
   have hs32 := hset_sm hi28 hs29 (hmakeV hp0 4) k.v (strV ⟨#[101, 110, 100]⟩)
   refine s_nil (xs_held [1, 1, 1] ?_)
   refine h_l 8 rfl [1, 1, 1] (fun _ => (Lt.to t_cmp (congrArg Value.bool (decide_eq_false (fun h => h zs2) : (decide ((hsetE (hmake hp0 (newO 4 0 ByteArray.empty [])) (hmakeV hp0 4) k.v (strV ⟨#[101, 110, 100]⟩)) ≠ 0)) = false)))) ?_
   refine hp_ 9 [1, 1, 1] (.bool false) ?_
   refine h_doneS ?_
   refine xs_then ?_
   refine k_false ?_
   refine k_st ?_
   refine k_sr ?_
   refine s_lt (t_loadA 1 #[.int .i64 ((hmakeV hp0 4).kind), .int .i64 ((hmakeV hp0 4).p), .int .i64 ((hmakeV hp0 4).q), .string ((hmakeV hp0 4).str), .int .i64 ((hmakeV hp0 4).ref)]) ?_
   refine s_alloc (.agg #[.int .i64 0, .int .i64 0, .int .i64 0, .string ByteArray.empty, .int .i64 0]) #[.int .i64 0, .int .i64 0, .int .i64 0, .string ByteArray.empty, .int .i64 0] (fun g33 => ?_)
   refine s_store 0 #[.int .i64 ((hmakeV hp0 4).kind), .int .i64 ((hmakeV hp0 4).p), .int .i64 ((hmakeV hp0 4).q), .string ((hmakeV hp0 4).str), .int .i64 ((hmakeV hp0 4).ref)] ?_
   refine s_nt ?_
   refine k_seq ?_
   refine k_sr ?_
   refine sp (.int .i64 1) ?_
   refine s_nt ?_
   refine k_block ?_
   refine k_loop (ι := Hst × Vl × Nat) (fun (st, q, i) => 1 ≤ i ∧ i ≤ most ∧ HInv st ∧ HSm (5 * i) st ∧ lnk st k.v (strV ⟨#[95, 95, 105, 110, 100, 101, 120]⟩) (strV ⟨#[95, 95, 110, 101, 119, 105, 110, 100, 101, 120]⟩) (hmakeV hp0 4) (strV ⟨#[101, 110, 100]⟩) st.objs.length (i - 1) q) (fun (st, q, i) => [(5, pB g2 0), (6, pB hb3 0), (7, .int .i64 (most : Int)), (8, pB g30 0), (10, pB g33 0), (11, .int .i64 (i : Int))]) (fun (st, q, i) => [blkA g33 #[.int .i64 q.kind, .int .i64 q.p, .int .i64 q.q, .string q.str, .int .i64 q.ref] 26, hpA hb3 st, blkA g30 #[.int .i64 ((hmakeV hp0 4).kind), .int .i64 ((hmakeV hp0 4).p), .int .i64 ((hmakeV hp0 4).q), .string ((hmakeV hp0 4).str), .int .i64 ((hmakeV hp0 4).ref)] 26, blkA g2 #[.int .i64 k.v.kind, .int .i64 k.v.p, .int .i64 k.v.q, .string k.v.str, .int .i64 k.v.ref] 26, blkA g1 #[.int .i64 k.v.kind, .int .i64 k.v.p, .int .i64 k.v.q, .string k.v.str, .int .i64 k.v.ref, .int .i64 k.obj] 28]) (fun (st, q, i) => most - i) ((hset (hmake hp0 (newO 4 0 ByteArray.empty [])) (hmakeV hp0 4) k.v (strV ⟨#[101, 110, 100]⟩)), (hmakeV hp0 4), 1) (by show 1 ≤ 1 ∧ _; exact ⟨by omega, by omega, hi31, hs32.mono (by omega), zs4⟩) (sub_of rfl ⟨⟨rfl, rfl⟩, ⟨⟨rfl, rfl⟩, ⟨⟨rfl, rfl⟩, ⟨⟨rfl, rfl⟩, ⟨⟨rfl, rfl⟩, ⟨⟨rfl, rfl⟩, trivial⟩⟩⟩⟩⟩⟩) (fun _ h => h.re [0, 0, 0, 0, 0] []) ?_
   rintro ⟨st, q, i⟩ hi34
   replace hi34 : 1 ≤ i ∧ i ≤ most ∧ HInv st ∧ HSm (5 * i) st ∧ lnk st k.v (strV ⟨#[95, 95, 105, 110, 100, 101, 120]⟩) (strV ⟨#[95, 95, 110, 101, 119, 105, 110, 100, 101, 120]⟩) (hmakeV hp0 4) (strV ⟨#[101, 110, 100]⟩) st.objs.length (i - 1) q := hi34
   show SK _ _ _ _ _ [(5, .pointer (some ⟨g2, 0, none⟩)), (6, .pointer (some ⟨hb3, 0, none⟩)), (7, .int .i64 (most : Int)), (8, .pointer (some ⟨g30, 0, none⟩)), (10, .pointer (some ⟨g33, 0, none⟩)), (11, .int .i64 (i : Int))] _ [blkA g33 #[.int .i64 q.kind, .int .i64 q.p, .int .i64 q.q, .string q.str, .int .i64 q.ref] 26, hpA hb3 st, blkA g30 #[.int .i64 ((hmakeV hp0 4).kind), .int .i64 ((hmakeV hp0 4).p), .int .i64 ((hmakeV hp0 4).q), .string ((hmakeV hp0 4).str), .int .i64 ((hmakeV hp0 4).ref)] 26, blkA g2 #[.int .i64 k.v.kind, .int .i64 k.v.p, .int .i64 k.v.q, .string k.v.str, .int .i64 k.v.ref] 26, blkA g1 #[.int .i64 k.v.kind, .int .i64 k.v.p, .int .i64 k.v.q, .string k.v.str, .int .i64 k.v.ref, .int .i64 k.obj] 28]
   have hi35 : HInv st := hi34.2.2.1
   have hs36 : HSm (5 * i) st := hi34.2.2.2.1
   have hle : i ≤ most := by have := hi34.2.1; omega
   refine k_seq ?_
   refine k_sr ?_
   refine sp (.int .i64 (i : Int)) ?_
   refine sp (.int .i64 (most : Int)) ?_
   refine s_lt t_cmp ?_
   refine s_nt ?_
   refine k_cond (decide ((i : Int) < (most : Int))) (fun c37 => ?_) (fun c37 => ?_)
   ·
    have p38 := of_decide_eq_true c37
    refine k_st ?_
    refine k_seq ?_
    refine k_block ?_
    obtain ⟨zq1, zq2, zq3, zq4, zq5⟩ := hi34
    obtain ⟨zr1, zr2, zr3, zr4, zr5, zr6, zr7⟩ := lnk_round (by have := zq4.len; omega) zq5 (by kernel_rfl) (by kernel_rfl) (by decide)
    refine k_sr ?_
    refine sp (pB hb3 0) ?_
    refine s_call [1] (hnewtable_s (st := st) (by have := hs36.len; omega)) ?_
    rintro _ _ ⟨rfl, rfl⟩
    have hi39 := hmake_inv (o := (newO 4 0 ByteArray.empty [])) hi35 (newO_inv _ _ _ (by decide))
    have hs40 := hmake_sm (o := (newO 4 0 ByteArray.empty [])) hs36 rfl (by decide)
    refine sp (.tuple #[.agg #[.int .i64 ((hmakeV st 4).kind), .int .i64 ((hmakeV st 4).p), .int .i64 ((hmakeV st 4).q), .string ((hmakeV st 4).str), .int .i64 ((hmakeV st 4).ref)], .int .i64 (hmakeE st)]) ?_
    refine sp (.agg #[.int .i64 ((hmakeV st 4).kind), .int .i64 ((hmakeV st 4).p), .int .i64 ((hmakeV st 4).q), .string ((hmakeV st 4).str), .int .i64 ((hmakeV st 4).ref)]) ?_
    refine sp (.int .i64 (hmakeE st)) ?_
    refine s_alloc (.agg #[.int .i64 0, .int .i64 0, .int .i64 0, .string ByteArray.empty, .int .i64 0]) #[.int .i64 0, .int .i64 0, .int .i64 0, .string ByteArray.empty, .int .i64 0] (fun g41 => ?_)
    refine s_store 0 #[.int .i64 ((hmakeV st 4).kind), .int .i64 ((hmakeV st 4).p), .int .i64 ((hmakeV st 4).q), .string ((hmakeV st 4).str), .int .i64 ((hmakeV st 4).ref)] ?_
    refine sp (.int .i64 (hmakeE st)) ?_
    refine s_nr ?_
    refine sp (pB hb3 0) ?_
    refine s_call [1] (hnewtable_s (st := (hmake st (newO 4 0 ByteArray.empty []))) (by have := hs40.len; omega)) ?_
    rintro _ _ ⟨rfl, rfl⟩
    have hi42 := hmake_inv (o := (newO 4 0 ByteArray.empty [])) hi39 (newO_inv _ _ _ (by decide))
    have hs43 := hmake_sm (o := (newO 4 0 ByteArray.empty [])) hs40 rfl (by decide)
    refine sp (.tuple #[.agg #[.int .i64 ((hmakeV (hmake st (newO 4 0 ByteArray.empty [])) 4).kind), .int .i64 ((hmakeV (hmake st (newO 4 0 ByteArray.empty [])) 4).p), .int .i64 ((hmakeV (hmake st (newO 4 0 ByteArray.empty [])) 4).q), .string ((hmakeV (hmake st (newO 4 0 ByteArray.empty [])) 4).str), .int .i64 ((hmakeV (hmake st (newO 4 0 ByteArray.empty [])) 4).ref)], .int .i64 (hmakeE (hmake st (newO 4 0 ByteArray.empty [])))]) ?_
    refine sp (.agg #[.int .i64 ((hmakeV (hmake st (newO 4 0 ByteArray.empty [])) 4).kind), .int .i64 ((hmakeV (hmake st (newO 4 0 ByteArray.empty [])) 4).p), .int .i64 ((hmakeV (hmake st (newO 4 0 ByteArray.empty [])) 4).q), .string ((hmakeV (hmake st (newO 4 0 ByteArray.empty [])) 4).str), .int .i64 ((hmakeV (hmake st (newO 4 0 ByteArray.empty [])) 4).ref)]) ?_
    refine sp (.int .i64 (hmakeE (hmake st (newO 4 0 ByteArray.empty [])))) ?_
    refine s_alloc (.agg #[.int .i64 0, .int .i64 0, .int .i64 0, .string ByteArray.empty, .int .i64 0]) #[.int .i64 0, .int .i64 0, .int .i64 0, .string ByteArray.empty, .int .i64 0] (fun g44 => ?_)
    refine s_store 0 #[.int .i64 ((hmakeV (hmake st (newO 4 0 ByteArray.empty [])) 4).kind), .int .i64 ((hmakeV (hmake st (newO 4 0 ByteArray.empty [])) 4).p), .int .i64 ((hmakeV (hmake st (newO 4 0 ByteArray.empty [])) 4).q), .string ((hmakeV (hmake st (newO 4 0 ByteArray.empty [])) 4).str), .int .i64 ((hmakeV (hmake st (newO 4 0 ByteArray.empty [])) 4).ref)] ?_
    refine sp (.int .i64 (hmakeE (hmake st (newO 4 0 ByteArray.empty [])))) ?_
    refine s_nt ?_
    refine k_seq ?_
    refine k_seq ?_
    refine k_held [blkA g44 #[.int .i64 ((hmakeV (hmake st (newO 4 0 ByteArray.empty [])) 4).kind), .int .i64 ((hmakeV (hmake st (newO 4 0 ByteArray.empty [])) 4).p), .int .i64 ((hmakeV (hmake st (newO 4 0 ByteArray.empty [])) 4).q), .string ((hmakeV (hmake st (newO 4 0 ByteArray.empty [])) 4).str), .int .i64 ((hmakeV (hmake st (newO 4 0 ByteArray.empty [])) 4).ref)] 26, blkA g41 #[.int .i64 ((hmakeV st 4).kind), .int .i64 ((hmakeV st 4).p), .int .i64 ((hmakeV st 4).q), .string ((hmakeV st 4).str), .int .i64 ((hmakeV st 4).ref)] 26, blkA g33 #[.int .i64 q.kind, .int .i64 q.p, .int .i64 q.q, .string q.str, .int .i64 q.ref] 26, blkA g30 #[.int .i64 ((hmakeV hp0 4).kind), .int .i64 ((hmakeV hp0 4).p), .int .i64 ((hmakeV hp0 4).q), .string ((hmakeV hp0 4).str), .int .i64 ((hmakeV hp0 4).ref)] 26, blkA g2 #[.int .i64 k.v.kind, .int .i64 k.v.p, .int .i64 k.v.q, .string k.v.str, .int .i64 k.v.ref] 26, blkA g1 #[.int .i64 k.v.kind, .int .i64 k.v.p, .int .i64 k.v.q, .string k.v.str, .int .i64 k.v.ref, .int .i64 k.obj] 28] ?_
    refine hp_ 0 [0, 1, 1, 1, 1, 1] (.int .i64 (hmakeE st)) ?_
    refine h_l 1 rfl [0, 1, 1, 1, 1, 1] (fun _ => (Lt.to t_cmp (congrArg Value.bool (decide_eq_false (fun h => h zr1) : (decide ((hmakeE st) ≠ 0)) = false)))) ?_
    refine hp_ 2 [0, 1, 1, 1, 1, 1] (.bool false) ?_
    refine hp_ 3 [0, 1, 1, 1, 1, 1] (.int .i64 (hmakeE (hmake st (newO 4 0 ByteArray.empty [])))) ?_
    refine h_l 4 rfl [0, 1, 1, 1, 1, 1] (fun _ => (Lt.to t_cmp (congrArg Value.bool (decide_eq_false (fun h => h zr2) : (decide ((hmakeE (hmake st (newO 4 0 ByteArray.empty []))) ≠ 0)) = false)))) ?_
    refine hp_ 5 [0, 1, 1, 1, 1, 1] (.bool false) ?_
    refine hp_ 6 [0, 1, 1, 1, 1, 1] (.bool false) ?_
    refine hp_ 7 [0, 1, 1, 1, 1, 1] (pB hb3 0) ?_
    refine h_l 8 rfl [0, 1, 1, 1, 1, 1] (fun _ => (t_loadA 0 #[.int .i64 ((hmakeV (hmake st (newO 4 0 ByteArray.empty [])) 4).kind), .int .i64 ((hmakeV (hmake st (newO 4 0 ByteArray.empty [])) 4).p), .int .i64 ((hmakeV (hmake st (newO 4 0 ByteArray.empty [])) 4).q), .string ((hmakeV (hmake st (newO 4 0 ByteArray.empty [])) 4).str), .int .i64 ((hmakeV (hmake st (newO 4 0 ByteArray.empty [])) 4).ref)])) ?_
    refine h_l 10 rfl [0, 1, 1, 1, 1, 1] (fun _ => (t_loadA 2 #[.int .i64 q.kind, .int .i64 q.p, .int .i64 q.q, .string q.str, .int .i64 q.ref])) ?_
    refine h_stepS 9 ?_
    refine s_vcall (fun _ h => lstr_s ⟨#[95, 95, 105, 110, 100, 101, 120]⟩) ?_
    rintro _ rfl
    refine s_nil (xs_held [0, 1, 1, 1, 1, 1] ?_)
    refine h_stepS 11 ?_
    refine s_call [1] (hset_s (st := (hmake (hmake st (newO 4 0 ByteArray.empty [])) (newO 4 0 ByteArray.empty []))) hs43 (by omega) (hmakeV (hmake st (newO 4 0 ByteArray.empty [])) 4) (strV ⟨#[95, 95, 105, 110, 100, 101, 120]⟩) q) ?_
    rintro _ _ ⟨rfl, rfl⟩
    have hi45 := hset_inv hi42 (hmakeV (hmake st (newO 4 0 ByteArray.empty [])) 4) (strV ⟨#[95, 95, 105, 110, 100, 101, 120]⟩) q
    have hs46 := hset_sm hi42 hs43 (hmakeV (hmake st (newO 4 0 ByteArray.empty [])) 4) (strV ⟨#[95, 95, 105, 110, 100, 101, 120]⟩) q
    refine s_nil (xs_held [1, 1, 1, 1, 1, 1] ?_)
    refine h_l 12 rfl [1, 1, 1, 1, 1, 1] (fun _ => (Lt.to t_cmp (congrArg Value.bool (decide_eq_false (fun h => h zr3) : (decide ((hsetE (hmake (hmake st (newO 4 0 ByteArray.empty [])) (newO 4 0 ByteArray.empty [])) (hmakeV (hmake st (newO 4 0 ByteArray.empty [])) 4) (strV ⟨#[95, 95, 105, 110, 100, 101, 120]⟩) q) ≠ 0)) = false)))) ?_
    refine hp_ 13 [1, 1, 1, 1, 1, 1] (.bool false) ?_
    refine hp_ 14 [1, 1, 1, 1, 1, 1] (.bool false) ?_
    refine hp_ 15 [1, 1, 1, 1, 1, 1] (pB hb3 0) ?_
    refine h_l 16 rfl [1, 1, 1, 1, 1, 1] (fun _ => (t_loadA 0 #[.int .i64 ((hmakeV (hmake st (newO 4 0 ByteArray.empty [])) 4).kind), .int .i64 ((hmakeV (hmake st (newO 4 0 ByteArray.empty [])) 4).p), .int .i64 ((hmakeV (hmake st (newO 4 0 ByteArray.empty [])) 4).q), .string ((hmakeV (hmake st (newO 4 0 ByteArray.empty [])) 4).str), .int .i64 ((hmakeV (hmake st (newO 4 0 ByteArray.empty [])) 4).ref)])) ?_
    refine h_l 18 rfl [1, 1, 1, 1, 1, 1] (fun _ => (t_loadA 2 #[.int .i64 q.kind, .int .i64 q.p, .int .i64 q.q, .string q.str, .int .i64 q.ref])) ?_
    refine h_stepS 17 ?_
    refine s_vcall (fun _ h => lstr_s ⟨#[95, 95, 110, 101, 119, 105, 110, 100, 101, 120]⟩) ?_
    rintro _ rfl
    refine s_nil (xs_held [1, 1, 1, 1, 1, 1] ?_)
    refine h_stepS 19 ?_
    refine s_call [0] (hset_s (st := (hset (hmake (hmake st (newO 4 0 ByteArray.empty [])) (newO 4 0 ByteArray.empty [])) (hmakeV (hmake st (newO 4 0 ByteArray.empty [])) 4) (strV ⟨#[95, 95, 105, 110, 100, 101, 120]⟩) q)) hs46 (by omega) (hmakeV (hmake st (newO 4 0 ByteArray.empty [])) 4) (strV ⟨#[95, 95, 110, 101, 119, 105, 110, 100, 101, 120]⟩) q) ?_
    rintro _ _ ⟨rfl, rfl⟩
    have hi47 := hset_inv hi45 (hmakeV (hmake st (newO 4 0 ByteArray.empty [])) 4) (strV ⟨#[95, 95, 110, 101, 119, 105, 110, 100, 101, 120]⟩) q
    have hs48 := hset_sm hi45 hs46 (hmakeV (hmake st (newO 4 0 ByteArray.empty [])) 4) (strV ⟨#[95, 95, 110, 101, 119, 105, 110, 100, 101, 120]⟩) q
    refine s_nil (xs_held [1, 1, 1, 1, 1, 1] ?_)
    refine h_l 20 rfl [1, 1, 1, 1, 1, 1] (fun _ => (Lt.to t_cmp (congrArg Value.bool (decide_eq_false (fun h => h zr4) : (decide ((hsetE (hset (hmake (hmake st (newO 4 0 ByteArray.empty [])) (newO 4 0 ByteArray.empty [])) (hmakeV (hmake st (newO 4 0 ByteArray.empty [])) 4) (strV ⟨#[95, 95, 105, 110, 100, 101, 120]⟩) q) (hmakeV (hmake st (newO 4 0 ByteArray.empty [])) 4) (strV ⟨#[95, 95, 110, 101, 119, 105, 110, 100, 101, 120]⟩) q) ≠ 0)) = false)))) ?_
    refine hp_ 21 [1, 1, 1, 1, 1, 1] (.bool false) ?_
    refine hp_ 22 [1, 1, 1, 1, 1, 1] (.bool false) ?_
    refine hp_ 23 [1, 1, 1, 1, 1, 1] (pB hb3 0) ?_
    refine h_l 24 rfl [1, 1, 1, 1, 1, 1] (fun _ => (t_loadA 1 #[.int .i64 ((hmakeV st 4).kind), .int .i64 ((hmakeV st 4).p), .int .i64 ((hmakeV st 4).q), .string ((hmakeV st 4).str), .int .i64 ((hmakeV st 4).ref)])) ?_
    refine h_l 25 rfl [1, 1, 1, 1, 1, 1] (fun _ => (t_loadA 0 #[.int .i64 ((hmakeV (hmake st (newO 4 0 ByteArray.empty [])) 4).kind), .int .i64 ((hmakeV (hmake st (newO 4 0 ByteArray.empty [])) 4).p), .int .i64 ((hmakeV (hmake st (newO 4 0 ByteArray.empty [])) 4).q), .string ((hmakeV (hmake st (newO 4 0 ByteArray.empty [])) 4).str), .int .i64 ((hmakeV (hmake st (newO 4 0 ByteArray.empty [])) 4).ref)])) ?_
    refine h_stepS 26 ?_
    refine s_call [0] (hsetmeta_s (st := (hset (hset (hmake (hmake st (newO 4 0 ByteArray.empty [])) (newO 4 0 ByteArray.empty [])) (hmakeV (hmake st (newO 4 0 ByteArray.empty [])) 4) (strV ⟨#[95, 95, 105, 110, 100, 101, 120]⟩) q) (hmakeV (hmake st (newO 4 0 ByteArray.empty [])) 4) (strV ⟨#[95, 95, 110, 101, 119, 105, 110, 100, 101, 120]⟩) q)) (hmakeV st 4) (hmakeV (hmake st (newO 4 0 ByteArray.empty [])) 4)) ?_
    rintro _ _ ⟨rfl, rfl⟩
    have hi49 := hsetMeta_inv hi47 (hmakeV st 4) (hmakeV (hmake st (newO 4 0 ByteArray.empty [])) 4)
    have hs50 := hsetMeta_sm hs48 (hmakeV st 4) (hmakeV (hmake st (newO 4 0 ByteArray.empty [])) 4)
    refine s_nil (xs_held [1, 1, 1, 1, 1, 1] ?_)
    refine h_l 27 rfl [1, 1, 1, 1, 1, 1] (fun _ => (Lt.to t_cmp (congrArg Value.bool (decide_eq_false (fun h => h zr5) : (decide ((hsetMetaE (hset (hset (hmake (hmake st (newO 4 0 ByteArray.empty [])) (newO 4 0 ByteArray.empty [])) (hmakeV (hmake st (newO 4 0 ByteArray.empty [])) 4) (strV ⟨#[95, 95, 105, 110, 100, 101, 120]⟩) q) (hmakeV (hmake st (newO 4 0 ByteArray.empty [])) 4) (strV ⟨#[95, 95, 110, 101, 119, 105, 110, 100, 101, 120]⟩) q) (hmakeV st 4) (hmakeV (hmake st (newO 4 0 ByteArray.empty [])) 4)) ≠ 0)) = false)))) ?_
    refine hp_ 28 [1, 1, 1, 1, 1, 1] (.bool false) ?_
    refine h_doneS ?_
    refine xs_then ?_
    refine k_false ?_
    refine k_st ?_
    refine k_reg ?_
    refine s_lt (t_loadA 2 #[.int .i64 ((hmakeV st 4).kind), .int .i64 ((hmakeV st 4).p), .int .i64 ((hmakeV st 4).q), .string ((hmakeV st 4).str), .int .i64 ((hmakeV st 4).ref)]) ?_
    refine s_store 3 #[.int .i64 ((hmakeV st 4).kind), .int .i64 ((hmakeV st 4).p), .int .i64 ((hmakeV st 4).q), .string ((hmakeV st 4).str), .int .i64 ((hmakeV st 4).ref)] ?_
    refine s_nil ?_
    refine xs_block ?_
    refine xs_then ?_
    refine k_reg ?_
    refine sp (.int .i64 (i : Int)) ?_
    refine s_lt (t_add (i : Int) 1 (by (try simp only [lnm]); omega)) ?_
    refine sp (.int .i64 ((i : Int) + 1)) ?_
    refine s_nil ?_
    exact xs_round ((hsetMeta (hset (hset (hmake (hmake st (newO 4 0 ByteArray.empty [])) (newO 4 0 ByteArray.empty [])) (hmakeV (hmake st (newO 4 0 ByteArray.empty [])) 4) (strV ⟨#[95, 95, 105, 110, 100, 101, 120]⟩) q) (hmakeV (hmake st (newO 4 0 ByteArray.empty [])) 4) (strV ⟨#[95, 95, 110, 101, 119, 105, 110, 100, 101, 120]⟩) q) (hmakeV st 4) (hmakeV (hmake st (newO 4 0 ByteArray.empty [])) 4)), (hmakeV st 4), i + 1) (by show most - (i + 1) < most - i; omega) (by show 1 ≤ i + 1 ∧ _; exact ⟨by omega, by omega, hi49, hs50.mono (by omega), by rw [show i + 1 - 1 = i - 1 + 1 by omega]; exact zr7⟩) (sub_of rfl ⟨⟨rfl, rfl⟩, ⟨⟨rfl, rfl⟩, ⟨⟨rfl, rfl⟩, ⟨⟨rfl, rfl⟩, ⟨⟨rfl, rfl⟩, ⟨⟨rfl, rfl⟩, trivial⟩⟩⟩⟩⟩⟩) (fun _ h => h.re [3, 0, 2, 2, 2] [5, 5])
   ·
    have p51 := of_decide_eq_false c37
    refine k_exit ?_
    refine xs_exit ?_
    refine xs_exit ?_
    refine xs_here ?_
    refine xs_then ?_
    obtain ⟨zq1, zq2, zq3, zq4, zq5⟩ := hi34
    obtain ⟨zg1, zg2, zg3⟩ := lnk_lastget hkk hev hxe zq5
    have hcI := chain_idx hkk hev (by decide) 32 (i - 1) q zq5
    obtain ⟨hcA, hcS⟩ := chain_asg (x := (strV ⟨#[110, 101, 119]⟩)) hkk hev (by decide) 32 (i - 1) q zq5
    have hag := asgS_good hi35 hs36 k.v (strV ⟨#[110, 101, 119]⟩) q 32
    by_cases hbig : (32 : Int) < (most : Int)
    ·
     rw [if_neg (by omega)] at hcI hcA hcS
     refine k_sr ?_
     refine sp (pB hb3 0) ?_
     refine s_lt (t_loadA 0 #[.int .i64 q.kind, .int .i64 q.p, .int .i64 q.q, .string q.str, .int .i64 q.ref]) ?_
     refine s_lt (t_loadA 3 #[.int .i64 k.v.kind, .int .i64 k.v.p, .int .i64 k.v.q, .string k.v.str, .int .i64 k.v.ref]) ?_
     refine s_call [1] (index_s (st := st) hs36 (by omega) q k.v) ?_
     rintro _ _ ⟨av52, rfl, rfl⟩
     refine s_fact (fun H h => ((Acc.own (T := VlT) (L := (idx st k.v 32 q).args) 0 rfl) H h).form) (fun hf53 => ?_)
     refine s_alloc (.agg #[.int .i64 0, .int .i64 0, .int .i64 0, .int .i64 0, .string ByteArray.empty, .int .i64 0, .int .i64 0, .int .i64 0, .int .i64 0, .string ByteArray.empty, .int .i64 0, (.slice none 0 0), .int .i64 0, .string ByteArray.empty]) #[.int .i64 0, .int .i64 0, .int .i64 0, .int .i64 0, .string ByteArray.empty, .int .i64 0, .int .i64 0, .int .i64 0, .int .i64 0, .string ByteArray.empty, .int .i64 0, (.slice none 0 0), .int .i64 0, .string ByteArray.empty] (fun g54 => ?_)
     refine s_store (u := .agg #[.int .i64 ((idx st k.v 32 q).kind), .int .i64 (((idx st k.v 32 q).val).kind), .int .i64 (((idx st k.v 32 q).val).p), .int .i64 (((idx st k.v 32 q).val).q), .string (((idx st k.v 32 q).val).str), .int .i64 (((idx st k.v 32 q).val).ref), .int .i64 (((idx st k.v 32 q).fn).kind), .int .i64 (((idx st k.v 32 q).fn).p), .int .i64 (((idx st k.v 32 q).fn).q), .string (((idx st k.v 32 q).fn).str), .int .i64 (((idx st k.v 32 q).fn).ref), av52, .int .i64 ((idx st k.v 32 q).after), .string ((idx st k.v 32 q).str)]) (m := 14) 0 #[.int .i64 ((idx st k.v 32 q).kind), .int .i64 (((idx st k.v 32 q).val).kind), .int .i64 (((idx st k.v 32 q).val).p), .int .i64 (((idx st k.v 32 q).val).q), .string (((idx st k.v 32 q).val).str), .int .i64 (((idx st k.v 32 q).val).ref), .int .i64 (((idx st k.v 32 q).fn).kind), .int .i64 (((idx st k.v 32 q).fn).p), .int .i64 (((idx st k.v 32 q).fn).q), .string (((idx st k.v 32 q).fn).str), .int .i64 (((idx st k.v 32 q).fn).ref), av52, .int .i64 ((idx st k.v 32 q).after), .string ((idx st k.v 32 q).str)] ?_ (hm := by (obtain ⟨_, _, e⟩ := hf53; rw [e]; rfl)) (h1 := by (obtain ⟨_, _, e⟩ := hf53; rw [e]; rfl)) (ha' := by (obtain ⟨_, _, e⟩ := hf53; rw [e]; rfl))
     refine s_nt ?_
     refine k_seq ?_
     refine k_held [blkA g54 #[.int .i64 ((idx st k.v 32 q).kind), .int .i64 (((idx st k.v 32 q).val).kind), .int .i64 (((idx st k.v 32 q).val).p), .int .i64 (((idx st k.v 32 q).val).q), .string (((idx st k.v 32 q).val).str), .int .i64 (((idx st k.v 32 q).val).ref), .int .i64 (((idx st k.v 32 q).fn).kind), .int .i64 (((idx st k.v 32 q).fn).p), .int .i64 (((idx st k.v 32 q).fn).q), .string (((idx st k.v 32 q).fn).str), .int .i64 (((idx st k.v 32 q).fn).ref), av52, .int .i64 ((idx st k.v 32 q).after), .string ((idx st k.v 32 q).str)] 51, own VlT av52 ((idx st k.v 32 q).args), blkA g33 #[.int .i64 q.kind, .int .i64 q.p, .int .i64 q.q, .string q.str, .int .i64 q.ref] 26, blkA g30 #[.int .i64 ((hmakeV hp0 4).kind), .int .i64 ((hmakeV hp0 4).p), .int .i64 ((hmakeV hp0 4).q), .string ((hmakeV hp0 4).str), .int .i64 ((hmakeV hp0 4).ref)] 26, blkA g2 #[.int .i64 k.v.kind, .int .i64 k.v.p, .int .i64 k.v.q, .string k.v.str, .int .i64 k.v.ref] 26, blkA g1 #[.int .i64 k.v.kind, .int .i64 k.v.p, .int .i64 k.v.q, .string k.v.str, .int .i64 k.v.ref, .int .i64 k.obj] 28] ?_
     refine hp_ 0 [0, 0, 1, 1, 1, 1] (pB hb3 0) ?_
     refine h_l 1 rfl [0, 0, 1, 1, 1, 1] (fun _ => (t_loadA 2 #[.int .i64 q.kind, .int .i64 q.p, .int .i64 q.q, .string q.str, .int .i64 q.ref])) ?_
     refine h_l 2 rfl [0, 0, 1, 1, 1, 1] (fun _ => (t_loadA 4 #[.int .i64 k.v.kind, .int .i64 k.v.p, .int .i64 k.v.q, .string k.v.str, .int .i64 k.v.ref])) ?_
     refine h_stepS2 3 5 ?_ ?_
     ·
      refine s_vcall (fun _ h => lstr_s ⟨#[110, 101, 119]⟩) ?_
      rintro _ rfl
      refine s_nil (xs_held [0, 0, 1, 1, 1, 1] ?_)
      refine h_stepS2 4 5 ?_ ?_
      ·
       refine s_call [2] (assign_s (st := st) hs36 (by omega) q k.v (strV ⟨#[110, 101, 119]⟩)) ?_
       rintro _ _ ⟨av67, rfl, rfl⟩
       refine s_fact (fun H h => ((Acc.own (T := VlT) (L := (asg st k.v (strV ⟨#[110, 101, 119]⟩) 32 q).args) 0 rfl) H h).form) (fun hf68 => ?_)
       refine s_nil (xs_held [2, 2, 2, 2, 2, 2] ?_)
       refine h_stepS 5 ?_
       refine s_alloc (.agg #[.int .i64 0, .int .i64 0, .int .i64 0, .int .i64 0, .string ByteArray.empty, .int .i64 0, .int .i64 0, .int .i64 0, .int .i64 0, .string ByteArray.empty, .int .i64 0, (.slice none 0 0), .int .i64 0, .string ByteArray.empty]) #[.int .i64 0, .int .i64 0, .int .i64 0, .int .i64 0, .string ByteArray.empty, .int .i64 0, .int .i64 0, .int .i64 0, .int .i64 0, .string ByteArray.empty, .int .i64 0, (.slice none 0 0), .int .i64 0, .string ByteArray.empty] (fun g69 => ?_)
       refine s_nil (xs_held [3, 3, 3, 3, 3, 3] ?_)
       refine h_stepS 6 ?_
       refine s_store (u := .agg #[.int .i64 ((asg st k.v (strV ⟨#[110, 101, 119]⟩) 32 q).kind), .int .i64 (((asg st k.v (strV ⟨#[110, 101, 119]⟩) 32 q).val).kind), .int .i64 (((asg st k.v (strV ⟨#[110, 101, 119]⟩) 32 q).val).p), .int .i64 (((asg st k.v (strV ⟨#[110, 101, 119]⟩) 32 q).val).q), .string (((asg st k.v (strV ⟨#[110, 101, 119]⟩) 32 q).val).str), .int .i64 (((asg st k.v (strV ⟨#[110, 101, 119]⟩) 32 q).val).ref), .int .i64 (((asg st k.v (strV ⟨#[110, 101, 119]⟩) 32 q).fn).kind), .int .i64 (((asg st k.v (strV ⟨#[110, 101, 119]⟩) 32 q).fn).p), .int .i64 (((asg st k.v (strV ⟨#[110, 101, 119]⟩) 32 q).fn).q), .string (((asg st k.v (strV ⟨#[110, 101, 119]⟩) 32 q).fn).str), .int .i64 (((asg st k.v (strV ⟨#[110, 101, 119]⟩) 32 q).fn).ref), av67, .int .i64 ((asg st k.v (strV ⟨#[110, 101, 119]⟩) 32 q).after), .string ((asg st k.v (strV ⟨#[110, 101, 119]⟩) 32 q).str)]) (m := 14) 0 #[.int .i64 ((asg st k.v (strV ⟨#[110, 101, 119]⟩) 32 q).kind), .int .i64 (((asg st k.v (strV ⟨#[110, 101, 119]⟩) 32 q).val).kind), .int .i64 (((asg st k.v (strV ⟨#[110, 101, 119]⟩) 32 q).val).p), .int .i64 (((asg st k.v (strV ⟨#[110, 101, 119]⟩) 32 q).val).q), .string (((asg st k.v (strV ⟨#[110, 101, 119]⟩) 32 q).val).str), .int .i64 (((asg st k.v (strV ⟨#[110, 101, 119]⟩) 32 q).val).ref), .int .i64 (((asg st k.v (strV ⟨#[110, 101, 119]⟩) 32 q).fn).kind), .int .i64 (((asg st k.v (strV ⟨#[110, 101, 119]⟩) 32 q).fn).p), .int .i64 (((asg st k.v (strV ⟨#[110, 101, 119]⟩) 32 q).fn).q), .string (((asg st k.v (strV ⟨#[110, 101, 119]⟩) 32 q).fn).str), .int .i64 (((asg st k.v (strV ⟨#[110, 101, 119]⟩) 32 q).fn).ref), av67, .int .i64 ((asg st k.v (strV ⟨#[110, 101, 119]⟩) 32 q).after), .string ((asg st k.v (strV ⟨#[110, 101, 119]⟩) 32 q).str)] ?_ (hm := by (obtain ⟨_, _, e⟩ := hf68; rw [e]; rfl)) (h1 := by (obtain ⟨_, _, e⟩ := hf68; rw [e]; rfl)) (ha' := by (obtain ⟨_, _, e⟩ := hf68; rw [e]; rfl))
       refine s_nil (xs_held [3, 3, 3, 3, 3, 3] ?_)
       refine h_doneS ?_
       refine xs_then ?_
       refine k_sr ?_
       refine sp (pB hb3 0) ?_
       refine s_lt (t_loadA 6 #[.int .i64 ((hmakeV hp0 4).kind), .int .i64 ((hmakeV hp0 4).p), .int .i64 ((hmakeV hp0 4).q), .string ((hmakeV hp0 4).str), .int .i64 ((hmakeV hp0 4).ref)]) ?_
       refine s_lt (t_loadA 7 #[.int .i64 k.v.kind, .int .i64 k.v.p, .int .i64 k.v.q, .string k.v.str, .int .i64 k.v.ref]) ?_
       refine s_call [2] (hget_s (st := (asgS st k.v (strV ⟨#[110, 101, 119]⟩) 32 q)) hag.2 (by omega) (hmakeV hp0 4) k.v) ?_
       rintro _ _ ⟨rfl, rfl⟩
       refine sp (.tuple #[.agg #[.int .i64 ((hgetV (asgS st k.v (strV ⟨#[110, 101, 119]⟩) 32 q) (hmakeV hp0 4) k.v).kind), .int .i64 ((hgetV (asgS st k.v (strV ⟨#[110, 101, 119]⟩) 32 q) (hmakeV hp0 4) k.v).p), .int .i64 ((hgetV (asgS st k.v (strV ⟨#[110, 101, 119]⟩) 32 q) (hmakeV hp0 4) k.v).q), .string ((hgetV (asgS st k.v (strV ⟨#[110, 101, 119]⟩) 32 q) (hmakeV hp0 4) k.v).str), .int .i64 ((hgetV (asgS st k.v (strV ⟨#[110, 101, 119]⟩) 32 q) (hmakeV hp0 4) k.v).ref)], .int .i64 (hgetE (asgS st k.v (strV ⟨#[110, 101, 119]⟩) 32 q) (hmakeV hp0 4))]) ?_
       refine sp (.agg #[.int .i64 ((hgetV (asgS st k.v (strV ⟨#[110, 101, 119]⟩) 32 q) (hmakeV hp0 4) k.v).kind), .int .i64 ((hgetV (asgS st k.v (strV ⟨#[110, 101, 119]⟩) 32 q) (hmakeV hp0 4) k.v).p), .int .i64 ((hgetV (asgS st k.v (strV ⟨#[110, 101, 119]⟩) 32 q) (hmakeV hp0 4) k.v).q), .string ((hgetV (asgS st k.v (strV ⟨#[110, 101, 119]⟩) 32 q) (hmakeV hp0 4) k.v).str), .int .i64 ((hgetV (asgS st k.v (strV ⟨#[110, 101, 119]⟩) 32 q) (hmakeV hp0 4) k.v).ref)]) ?_
       refine sp (.int .i64 (hgetE (asgS st k.v (strV ⟨#[110, 101, 119]⟩) 32 q) (hmakeV hp0 4))) ?_
       refine s_alloc (.agg #[.int .i64 0, .int .i64 0, .int .i64 0, .string ByteArray.empty, .int .i64 0]) #[.int .i64 0, .int .i64 0, .int .i64 0, .string ByteArray.empty, .int .i64 0] (fun g70 => ?_)
       refine s_store 0 #[.int .i64 ((hgetV (asgS st k.v (strV ⟨#[110, 101, 119]⟩) 32 q) (hmakeV hp0 4) k.v).kind), .int .i64 ((hgetV (asgS st k.v (strV ⟨#[110, 101, 119]⟩) 32 q) (hmakeV hp0 4) k.v).p), .int .i64 ((hgetV (asgS st k.v (strV ⟨#[110, 101, 119]⟩) 32 q) (hmakeV hp0 4) k.v).q), .string ((hgetV (asgS st k.v (strV ⟨#[110, 101, 119]⟩) 32 q) (hmakeV hp0 4) k.v).str), .int .i64 ((hgetV (asgS st k.v (strV ⟨#[110, 101, 119]⟩) 32 q) (hmakeV hp0 4) k.v).ref)] ?_
       refine sp (.int .i64 (hgetE (asgS st k.v (strV ⟨#[110, 101, 119]⟩) 32 q) (hmakeV hp0 4))) ?_
       refine s_nt ?_
       refine k_seq ?_
       refine k_sr ?_
       refine sp (.int .i64 (most : Int)) ?_
       refine s_lt (Lt.to t_cmp (congrArg Value.bool (decide_eq_true hbig : (decide ((32 : Int) < (most : Int))) = true))) ?_
       refine s_nt ?_
       refine k_true ?_
       refine k_seq ?_
       refine k_held [blkA g70 #[.int .i64 ((hgetV (asgS st k.v (strV ⟨#[110, 101, 119]⟩) 32 q) (hmakeV hp0 4) k.v).kind), .int .i64 ((hgetV (asgS st k.v (strV ⟨#[110, 101, 119]⟩) 32 q) (hmakeV hp0 4) k.v).p), .int .i64 ((hgetV (asgS st k.v (strV ⟨#[110, 101, 119]⟩) 32 q) (hmakeV hp0 4) k.v).q), .string ((hgetV (asgS st k.v (strV ⟨#[110, 101, 119]⟩) 32 q) (hmakeV hp0 4) k.v).str), .int .i64 ((hgetV (asgS st k.v (strV ⟨#[110, 101, 119]⟩) 32 q) (hmakeV hp0 4) k.v).ref)] 26, blkA g69 #[.int .i64 ((asg st k.v (strV ⟨#[110, 101, 119]⟩) 32 q).kind), .int .i64 (((asg st k.v (strV ⟨#[110, 101, 119]⟩) 32 q).val).kind), .int .i64 (((asg st k.v (strV ⟨#[110, 101, 119]⟩) 32 q).val).p), .int .i64 (((asg st k.v (strV ⟨#[110, 101, 119]⟩) 32 q).val).q), .string (((asg st k.v (strV ⟨#[110, 101, 119]⟩) 32 q).val).str), .int .i64 (((asg st k.v (strV ⟨#[110, 101, 119]⟩) 32 q).val).ref), .int .i64 (((asg st k.v (strV ⟨#[110, 101, 119]⟩) 32 q).fn).kind), .int .i64 (((asg st k.v (strV ⟨#[110, 101, 119]⟩) 32 q).fn).p), .int .i64 (((asg st k.v (strV ⟨#[110, 101, 119]⟩) 32 q).fn).q), .string (((asg st k.v (strV ⟨#[110, 101, 119]⟩) 32 q).fn).str), .int .i64 (((asg st k.v (strV ⟨#[110, 101, 119]⟩) 32 q).fn).ref), av67, .int .i64 ((asg st k.v (strV ⟨#[110, 101, 119]⟩) 32 q).after), .string ((asg st k.v (strV ⟨#[110, 101, 119]⟩) 32 q).str)] 51, own VlT av67 ((asg st k.v (strV ⟨#[110, 101, 119]⟩) 32 q).args), blkA g54 #[.int .i64 ((idx st k.v 32 q).kind), .int .i64 (((idx st k.v 32 q).val).kind), .int .i64 (((idx st k.v 32 q).val).p), .int .i64 (((idx st k.v 32 q).val).q), .string (((idx st k.v 32 q).val).str), .int .i64 (((idx st k.v 32 q).val).ref), .int .i64 (((idx st k.v 32 q).fn).kind), .int .i64 (((idx st k.v 32 q).fn).p), .int .i64 (((idx st k.v 32 q).fn).q), .string (((idx st k.v 32 q).fn).str), .int .i64 (((idx st k.v 32 q).fn).ref), av52, .int .i64 ((idx st k.v 32 q).after), .string ((idx st k.v 32 q).str)] 51, own VlT av52 ((idx st k.v 32 q).args), blkA g33 #[.int .i64 q.kind, .int .i64 q.p, .int .i64 q.q, .string q.str, .int .i64 q.ref] 26, blkA g30 #[.int .i64 ((hmakeV hp0 4).kind), .int .i64 ((hmakeV hp0 4).p), .int .i64 ((hmakeV hp0 4).q), .string ((hmakeV hp0 4).str), .int .i64 ((hmakeV hp0 4).ref)] 26, blkA g2 #[.int .i64 k.v.kind, .int .i64 k.v.p, .int .i64 k.v.q, .string k.v.str, .int .i64 k.v.ref] 26, blkA g1 #[.int .i64 k.v.kind, .int .i64 k.v.p, .int .i64 k.v.q, .string k.v.str, .int .i64 k.v.ref, .int .i64 k.obj] 28] ?_
       refine hp_ 0 [0, 1, 1, 1, 1, 1, 1, 1, 1] (pB g54 0) ?_
       refine h_l 1 rfl [0, 1, 1, 1, 1, 1, 1, 1, 1] (fun _ => (t_load 3 (.int .i64 ((idx st k.v 32 q).kind)))) ?_
       refine h_l 2 rfl [0, 1, 1, 1, 1, 1, 1, 1, 1] (fun _ => (Lt.to t_cmp (congrArg Value.bool (decide_eq_true (by rw [hcI]; rfl) : (decide ((idx st k.v 32 q).kind = 3)) = true)))) ?_
       refine hp_ 3 [0, 1, 1, 1, 1, 1, 1, 1, 1] (.bool true) ?_
       refine hp_ 4 [0, 1, 1, 1, 1, 1, 1, 1, 1] (pB g54 13) ?_
       refine h_l 5 rfl [0, 1, 1, 1, 1, 1, 1, 1, 1] (fun _ => (t_load 3 (.string ((idx st k.v 32 q).str)))) ?_
       refine h_l 6 rfl [0, 1, 1, 1, 1, 1, 1, 1, 1] (fun _ => (Lt.to t_cmpS (congrArg Value.bool (decide_eq_true (by rw [hcI]; rfl) : (decide ((idx st k.v 32 q).str = ⟨#[99, 104, 97, 105, 110, 32, 111, 102, 32, 109, 101, 116, 97, 116, 97, 98, 108, 101, 115, 32, 116, 111, 111, 32, 108, 111, 110, 103]⟩)) = true)))) ?_
       refine hp_ 7 [0, 1, 1, 1, 1, 1, 1, 1, 1] (.bool true) ?_
       refine hp_ 8 [0, 1, 1, 1, 1, 1, 1, 1, 1] (.bool true) ?_
       refine hp_ 9 [0, 1, 1, 1, 1, 1, 1, 1, 1] (pB g69 0) ?_
       refine h_l 10 rfl [0, 1, 1, 1, 1, 1, 1, 1, 1] (fun _ => (t_load 1 (.int .i64 ((asg st k.v (strV ⟨#[110, 101, 119]⟩) 32 q).kind)))) ?_
       refine h_l 11 rfl [0, 1, 1, 1, 1, 1, 1, 1, 1] (fun _ => (Lt.to t_cmp (congrArg Value.bool (decide_eq_true (by rw [hcA]; rfl) : (decide ((asg st k.v (strV ⟨#[110, 101, 119]⟩) 32 q).kind = 3)) = true)))) ?_
       refine hp_ 12 [0, 1, 1, 1, 1, 1, 1, 1, 1] (.bool true) ?_
       refine hp_ 13 [0, 1, 1, 1, 1, 1, 1, 1, 1] (.bool true) ?_
       refine hp_ 14 [0, 1, 1, 1, 1, 1, 1, 1, 1] (pB g69 13) ?_
       refine h_l 15 rfl [0, 1, 1, 1, 1, 1, 1, 1, 1] (fun _ => (t_load 1 (.string ((asg st k.v (strV ⟨#[110, 101, 119]⟩) 32 q).str)))) ?_
       refine h_l 16 rfl [0, 1, 1, 1, 1, 1, 1, 1, 1] (fun _ => (Lt.to t_cmpS (congrArg Value.bool (decide_eq_true (by rw [hcA]; rfl) : (decide ((asg st k.v (strV ⟨#[110, 101, 119]⟩) 32 q).str = ⟨#[99, 104, 97, 105, 110, 32, 111, 102, 32, 109, 101, 116, 97, 116, 97, 98, 108, 101, 115, 32, 116, 111, 111, 32, 108, 111, 110, 103]⟩)) = true)))) ?_
       refine hp_ 17 [0, 1, 1, 1, 1, 1, 1, 1, 1] (.bool true) ?_
       refine hp_ 18 [0, 1, 1, 1, 1, 1, 1, 1, 1] (.bool true) ?_
       refine h_l 19 rfl [0, 1, 1, 1, 1, 1, 1, 1, 1] (fun _ => (t_loadA 0 #[.int .i64 ((hgetV (asgS st k.v (strV ⟨#[110, 101, 119]⟩) 32 q) (hmakeV hp0 4) k.v).kind), .int .i64 ((hgetV (asgS st k.v (strV ⟨#[110, 101, 119]⟩) 32 q) (hmakeV hp0 4) k.v).p), .int .i64 ((hgetV (asgS st k.v (strV ⟨#[110, 101, 119]⟩) 32 q) (hmakeV hp0 4) k.v).q), .string ((hgetV (asgS st k.v (strV ⟨#[110, 101, 119]⟩) 32 q) (hmakeV hp0 4) k.v).str), .int .i64 ((hgetV (asgS st k.v (strV ⟨#[110, 101, 119]⟩) 32 q) (hmakeV hp0 4) k.v).ref)])) ?_
       refine h_stepS 20 ?_
       refine s_vcall (fun _ h => lstr_s ⟨#[101, 110, 100]⟩) ?_
       rintro _ rfl
       refine s_nil (xs_held [0, 1, 1, 1, 1, 1, 1, 1, 1] ?_)
       refine h_l 21 rfl [0, 1, 1, 1, 1, 1, 1, 1, 1] (fun _ => (Lt.to (t_eqS (fun w => (eqVlT (hgetV (asgS st k.v (strV ⟨#[110, 101, 119]⟩) 32 q) (hmakeV hp0 4) k.v) (strV ⟨#[101, 110, 100]⟩) w).1)) (congrArg Value.bool (decide_eq_true (by rw [hcS]; exact zg1) : (decide ((hgetV (asgS st k.v (strV ⟨#[110, 101, 119]⟩) 32 q) (hmakeV hp0 4) k.v) = (strV ⟨#[101, 110, 100]⟩))) = true)))) ?_
       refine hp_ 22 [0, 1, 1, 1, 1, 1, 1, 1, 1] (.bool true) ?_
       refine hp_ 23 [0, 1, 1, 1, 1, 1, 1, 1, 1] (.bool true) ?_
       refine h_stepS 24 ?_
       refine s_vcall (fun _ h => lives_s) ?_
       rintro _ rfl
       refine s_nil (xs_held [0, 1, 1, 1, 1, 1, 1, 1, 1] ?_)
       refine hp_ 25 [0, 1, 1, 1, 1, 1, 1, 1, 1] (.bool true) ?_
       refine hp_ 26 [0, 1, 1, 1, 1, 1, 1, 1, 1] (.bool true) ?_
       refine h_doneS ?_
       refine xs_then ?_
       refine k_ret ?_
       refine xs_ret ?_
       exact xs_fin [.bool true] [] (SI.tmp 4 SI.nil) (fun _ h => h.re [] [0, 0, 0, 0, 0, 0, 0, 0, 0, 0]) ⟨rfl, rfl⟩
      ·
       refine s_alloc (.agg #[.int .i64 0, .int .i64 0, .int .i64 0, .int .i64 0, .string ByteArray.empty, .int .i64 0, .int .i64 0, .int .i64 0, .int .i64 0, .string ByteArray.empty, .int .i64 0, (.slice none 0 0), .int .i64 0, .string ByteArray.empty]) #[.int .i64 0, .int .i64 0, .int .i64 0, .int .i64 0, .string ByteArray.empty, .int .i64 0, .int .i64 0, .int .i64 0, .int .i64 0, .string ByteArray.empty, .int .i64 0, (.slice none 0 0), .int .i64 0, .string ByteArray.empty] (fun g71 => ?_)
       refine s_nil (xs_held [1, 1, 2, 2, 2, 2] ?_)
       refine h_stepS 4 ?_
       refine s_call [3] (assign_s (st := st) hs36 (by omega) q k.v (strV ⟨#[110, 101, 119]⟩)) ?_
       rintro _ _ ⟨av72, rfl, rfl⟩
       refine s_fact (fun H h => ((Acc.own (T := VlT) (L := (asg st k.v (strV ⟨#[110, 101, 119]⟩) 32 q).args) 0 rfl) H h).form) (fun hf73 => ?_)
       refine s_nil (xs_held [3, 3, 3, 3, 3, 3] ?_)
       refine h_stepS 6 ?_
       refine s_store (u := .agg #[.int .i64 ((asg st k.v (strV ⟨#[110, 101, 119]⟩) 32 q).kind), .int .i64 (((asg st k.v (strV ⟨#[110, 101, 119]⟩) 32 q).val).kind), .int .i64 (((asg st k.v (strV ⟨#[110, 101, 119]⟩) 32 q).val).p), .int .i64 (((asg st k.v (strV ⟨#[110, 101, 119]⟩) 32 q).val).q), .string (((asg st k.v (strV ⟨#[110, 101, 119]⟩) 32 q).val).str), .int .i64 (((asg st k.v (strV ⟨#[110, 101, 119]⟩) 32 q).val).ref), .int .i64 (((asg st k.v (strV ⟨#[110, 101, 119]⟩) 32 q).fn).kind), .int .i64 (((asg st k.v (strV ⟨#[110, 101, 119]⟩) 32 q).fn).p), .int .i64 (((asg st k.v (strV ⟨#[110, 101, 119]⟩) 32 q).fn).q), .string (((asg st k.v (strV ⟨#[110, 101, 119]⟩) 32 q).fn).str), .int .i64 (((asg st k.v (strV ⟨#[110, 101, 119]⟩) 32 q).fn).ref), av72, .int .i64 ((asg st k.v (strV ⟨#[110, 101, 119]⟩) 32 q).after), .string ((asg st k.v (strV ⟨#[110, 101, 119]⟩) 32 q).str)]) (m := 14) 2 #[.int .i64 ((asg st k.v (strV ⟨#[110, 101, 119]⟩) 32 q).kind), .int .i64 (((asg st k.v (strV ⟨#[110, 101, 119]⟩) 32 q).val).kind), .int .i64 (((asg st k.v (strV ⟨#[110, 101, 119]⟩) 32 q).val).p), .int .i64 (((asg st k.v (strV ⟨#[110, 101, 119]⟩) 32 q).val).q), .string (((asg st k.v (strV ⟨#[110, 101, 119]⟩) 32 q).val).str), .int .i64 (((asg st k.v (strV ⟨#[110, 101, 119]⟩) 32 q).val).ref), .int .i64 (((asg st k.v (strV ⟨#[110, 101, 119]⟩) 32 q).fn).kind), .int .i64 (((asg st k.v (strV ⟨#[110, 101, 119]⟩) 32 q).fn).p), .int .i64 (((asg st k.v (strV ⟨#[110, 101, 119]⟩) 32 q).fn).q), .string (((asg st k.v (strV ⟨#[110, 101, 119]⟩) 32 q).fn).str), .int .i64 (((asg st k.v (strV ⟨#[110, 101, 119]⟩) 32 q).fn).ref), av72, .int .i64 ((asg st k.v (strV ⟨#[110, 101, 119]⟩) 32 q).after), .string ((asg st k.v (strV ⟨#[110, 101, 119]⟩) 32 q).str)] ?_ (hm := by (obtain ⟨_, _, e⟩ := hf73; rw [e]; rfl)) (h1 := by (obtain ⟨_, _, e⟩ := hf73; rw [e]; rfl)) (ha' := by (obtain ⟨_, _, e⟩ := hf73; rw [e]; rfl))
       refine s_nil (xs_held [3, 3, 3, 3, 3, 3] ?_)
       refine h_doneS ?_
       refine xs_then ?_
       refine k_sr ?_
       refine sp (pB hb3 0) ?_
       refine s_lt (t_loadA 6 #[.int .i64 ((hmakeV hp0 4).kind), .int .i64 ((hmakeV hp0 4).p), .int .i64 ((hmakeV hp0 4).q), .string ((hmakeV hp0 4).str), .int .i64 ((hmakeV hp0 4).ref)]) ?_
       refine s_lt (t_loadA 7 #[.int .i64 k.v.kind, .int .i64 k.v.p, .int .i64 k.v.q, .string k.v.str, .int .i64 k.v.ref]) ?_
       refine s_call [1] (hget_s (st := (asgS st k.v (strV ⟨#[110, 101, 119]⟩) 32 q)) hag.2 (by omega) (hmakeV hp0 4) k.v) ?_
       rintro _ _ ⟨rfl, rfl⟩
       refine sp (.tuple #[.agg #[.int .i64 ((hgetV (asgS st k.v (strV ⟨#[110, 101, 119]⟩) 32 q) (hmakeV hp0 4) k.v).kind), .int .i64 ((hgetV (asgS st k.v (strV ⟨#[110, 101, 119]⟩) 32 q) (hmakeV hp0 4) k.v).p), .int .i64 ((hgetV (asgS st k.v (strV ⟨#[110, 101, 119]⟩) 32 q) (hmakeV hp0 4) k.v).q), .string ((hgetV (asgS st k.v (strV ⟨#[110, 101, 119]⟩) 32 q) (hmakeV hp0 4) k.v).str), .int .i64 ((hgetV (asgS st k.v (strV ⟨#[110, 101, 119]⟩) 32 q) (hmakeV hp0 4) k.v).ref)], .int .i64 (hgetE (asgS st k.v (strV ⟨#[110, 101, 119]⟩) 32 q) (hmakeV hp0 4))]) ?_
       refine sp (.agg #[.int .i64 ((hgetV (asgS st k.v (strV ⟨#[110, 101, 119]⟩) 32 q) (hmakeV hp0 4) k.v).kind), .int .i64 ((hgetV (asgS st k.v (strV ⟨#[110, 101, 119]⟩) 32 q) (hmakeV hp0 4) k.v).p), .int .i64 ((hgetV (asgS st k.v (strV ⟨#[110, 101, 119]⟩) 32 q) (hmakeV hp0 4) k.v).q), .string ((hgetV (asgS st k.v (strV ⟨#[110, 101, 119]⟩) 32 q) (hmakeV hp0 4) k.v).str), .int .i64 ((hgetV (asgS st k.v (strV ⟨#[110, 101, 119]⟩) 32 q) (hmakeV hp0 4) k.v).ref)]) ?_
       refine sp (.int .i64 (hgetE (asgS st k.v (strV ⟨#[110, 101, 119]⟩) 32 q) (hmakeV hp0 4))) ?_
       refine s_alloc (.agg #[.int .i64 0, .int .i64 0, .int .i64 0, .string ByteArray.empty, .int .i64 0]) #[.int .i64 0, .int .i64 0, .int .i64 0, .string ByteArray.empty, .int .i64 0] (fun g74 => ?_)
       refine s_store 0 #[.int .i64 ((hgetV (asgS st k.v (strV ⟨#[110, 101, 119]⟩) 32 q) (hmakeV hp0 4) k.v).kind), .int .i64 ((hgetV (asgS st k.v (strV ⟨#[110, 101, 119]⟩) 32 q) (hmakeV hp0 4) k.v).p), .int .i64 ((hgetV (asgS st k.v (strV ⟨#[110, 101, 119]⟩) 32 q) (hmakeV hp0 4) k.v).q), .string ((hgetV (asgS st k.v (strV ⟨#[110, 101, 119]⟩) 32 q) (hmakeV hp0 4) k.v).str), .int .i64 ((hgetV (asgS st k.v (strV ⟨#[110, 101, 119]⟩) 32 q) (hmakeV hp0 4) k.v).ref)] ?_
       refine sp (.int .i64 (hgetE (asgS st k.v (strV ⟨#[110, 101, 119]⟩) 32 q) (hmakeV hp0 4))) ?_
       refine s_nt ?_
       refine k_seq ?_
       refine k_sr ?_
       refine sp (.int .i64 (most : Int)) ?_
       refine s_lt (Lt.to t_cmp (congrArg Value.bool (decide_eq_true hbig : (decide ((32 : Int) < (most : Int))) = true))) ?_
       refine s_nt ?_
       refine k_true ?_
       refine k_seq ?_
       refine k_held [blkA g74 #[.int .i64 ((hgetV (asgS st k.v (strV ⟨#[110, 101, 119]⟩) 32 q) (hmakeV hp0 4) k.v).kind), .int .i64 ((hgetV (asgS st k.v (strV ⟨#[110, 101, 119]⟩) 32 q) (hmakeV hp0 4) k.v).p), .int .i64 ((hgetV (asgS st k.v (strV ⟨#[110, 101, 119]⟩) 32 q) (hmakeV hp0 4) k.v).q), .string ((hgetV (asgS st k.v (strV ⟨#[110, 101, 119]⟩) 32 q) (hmakeV hp0 4) k.v).str), .int .i64 ((hgetV (asgS st k.v (strV ⟨#[110, 101, 119]⟩) 32 q) (hmakeV hp0 4) k.v).ref)] 26, own VlT av72 ((asg st k.v (strV ⟨#[110, 101, 119]⟩) 32 q).args), blkA g71 #[.int .i64 ((asg st k.v (strV ⟨#[110, 101, 119]⟩) 32 q).kind), .int .i64 (((asg st k.v (strV ⟨#[110, 101, 119]⟩) 32 q).val).kind), .int .i64 (((asg st k.v (strV ⟨#[110, 101, 119]⟩) 32 q).val).p), .int .i64 (((asg st k.v (strV ⟨#[110, 101, 119]⟩) 32 q).val).q), .string (((asg st k.v (strV ⟨#[110, 101, 119]⟩) 32 q).val).str), .int .i64 (((asg st k.v (strV ⟨#[110, 101, 119]⟩) 32 q).val).ref), .int .i64 (((asg st k.v (strV ⟨#[110, 101, 119]⟩) 32 q).fn).kind), .int .i64 (((asg st k.v (strV ⟨#[110, 101, 119]⟩) 32 q).fn).p), .int .i64 (((asg st k.v (strV ⟨#[110, 101, 119]⟩) 32 q).fn).q), .string (((asg st k.v (strV ⟨#[110, 101, 119]⟩) 32 q).fn).str), .int .i64 (((asg st k.v (strV ⟨#[110, 101, 119]⟩) 32 q).fn).ref), av72, .int .i64 ((asg st k.v (strV ⟨#[110, 101, 119]⟩) 32 q).after), .string ((asg st k.v (strV ⟨#[110, 101, 119]⟩) 32 q).str)] 51, blkA g54 #[.int .i64 ((idx st k.v 32 q).kind), .int .i64 (((idx st k.v 32 q).val).kind), .int .i64 (((idx st k.v 32 q).val).p), .int .i64 (((idx st k.v 32 q).val).q), .string (((idx st k.v 32 q).val).str), .int .i64 (((idx st k.v 32 q).val).ref), .int .i64 (((idx st k.v 32 q).fn).kind), .int .i64 (((idx st k.v 32 q).fn).p), .int .i64 (((idx st k.v 32 q).fn).q), .string (((idx st k.v 32 q).fn).str), .int .i64 (((idx st k.v 32 q).fn).ref), av52, .int .i64 ((idx st k.v 32 q).after), .string ((idx st k.v 32 q).str)] 51, own VlT av52 ((idx st k.v 32 q).args), blkA g33 #[.int .i64 q.kind, .int .i64 q.p, .int .i64 q.q, .string q.str, .int .i64 q.ref] 26, blkA g30 #[.int .i64 ((hmakeV hp0 4).kind), .int .i64 ((hmakeV hp0 4).p), .int .i64 ((hmakeV hp0 4).q), .string ((hmakeV hp0 4).str), .int .i64 ((hmakeV hp0 4).ref)] 26, blkA g2 #[.int .i64 k.v.kind, .int .i64 k.v.p, .int .i64 k.v.q, .string k.v.str, .int .i64 k.v.ref] 26, blkA g1 #[.int .i64 k.v.kind, .int .i64 k.v.p, .int .i64 k.v.q, .string k.v.str, .int .i64 k.v.ref, .int .i64 k.obj] 28] ?_
       refine hp_ 0 [0, 1, 1, 1, 1, 1, 1, 1, 1] (pB g54 0) ?_
       refine h_l 1 rfl [0, 1, 1, 1, 1, 1, 1, 1, 1] (fun _ => (t_load 3 (.int .i64 ((idx st k.v 32 q).kind)))) ?_
       refine h_l 2 rfl [0, 1, 1, 1, 1, 1, 1, 1, 1] (fun _ => (Lt.to t_cmp (congrArg Value.bool (decide_eq_true (by rw [hcI]; rfl) : (decide ((idx st k.v 32 q).kind = 3)) = true)))) ?_
       refine hp_ 3 [0, 1, 1, 1, 1, 1, 1, 1, 1] (.bool true) ?_
       refine hp_ 4 [0, 1, 1, 1, 1, 1, 1, 1, 1] (pB g54 13) ?_
       refine h_l 5 rfl [0, 1, 1, 1, 1, 1, 1, 1, 1] (fun _ => (t_load 3 (.string ((idx st k.v 32 q).str)))) ?_
       refine h_l 6 rfl [0, 1, 1, 1, 1, 1, 1, 1, 1] (fun _ => (Lt.to t_cmpS (congrArg Value.bool (decide_eq_true (by rw [hcI]; rfl) : (decide ((idx st k.v 32 q).str = ⟨#[99, 104, 97, 105, 110, 32, 111, 102, 32, 109, 101, 116, 97, 116, 97, 98, 108, 101, 115, 32, 116, 111, 111, 32, 108, 111, 110, 103]⟩)) = true)))) ?_
       refine hp_ 7 [0, 1, 1, 1, 1, 1, 1, 1, 1] (.bool true) ?_
       refine hp_ 8 [0, 1, 1, 1, 1, 1, 1, 1, 1] (.bool true) ?_
       refine hp_ 9 [0, 1, 1, 1, 1, 1, 1, 1, 1] (pB g71 0) ?_
       refine h_l 10 rfl [0, 1, 1, 1, 1, 1, 1, 1, 1] (fun _ => (t_load 2 (.int .i64 ((asg st k.v (strV ⟨#[110, 101, 119]⟩) 32 q).kind)))) ?_
       refine h_l 11 rfl [0, 1, 1, 1, 1, 1, 1, 1, 1] (fun _ => (Lt.to t_cmp (congrArg Value.bool (decide_eq_true (by rw [hcA]; rfl) : (decide ((asg st k.v (strV ⟨#[110, 101, 119]⟩) 32 q).kind = 3)) = true)))) ?_
       refine hp_ 12 [0, 1, 1, 1, 1, 1, 1, 1, 1] (.bool true) ?_
       refine hp_ 13 [0, 1, 1, 1, 1, 1, 1, 1, 1] (.bool true) ?_
       refine hp_ 14 [0, 1, 1, 1, 1, 1, 1, 1, 1] (pB g71 13) ?_
       refine h_l 15 rfl [0, 1, 1, 1, 1, 1, 1, 1, 1] (fun _ => (t_load 2 (.string ((asg st k.v (strV ⟨#[110, 101, 119]⟩) 32 q).str)))) ?_
       refine h_l 16 rfl [0, 1, 1, 1, 1, 1, 1, 1, 1] (fun _ => (Lt.to t_cmpS (congrArg Value.bool (decide_eq_true (by rw [hcA]; rfl) : (decide ((asg st k.v (strV ⟨#[110, 101, 119]⟩) 32 q).str = ⟨#[99, 104, 97, 105, 110, 32, 111, 102, 32, 109, 101, 116, 97, 116, 97, 98, 108, 101, 115, 32, 116, 111, 111, 32, 108, 111, 110, 103]⟩)) = true)))) ?_
       refine hp_ 17 [0, 1, 1, 1, 1, 1, 1, 1, 1] (.bool true) ?_
       refine hp_ 18 [0, 1, 1, 1, 1, 1, 1, 1, 1] (.bool true) ?_
       refine h_l 19 rfl [0, 1, 1, 1, 1, 1, 1, 1, 1] (fun _ => (t_loadA 0 #[.int .i64 ((hgetV (asgS st k.v (strV ⟨#[110, 101, 119]⟩) 32 q) (hmakeV hp0 4) k.v).kind), .int .i64 ((hgetV (asgS st k.v (strV ⟨#[110, 101, 119]⟩) 32 q) (hmakeV hp0 4) k.v).p), .int .i64 ((hgetV (asgS st k.v (strV ⟨#[110, 101, 119]⟩) 32 q) (hmakeV hp0 4) k.v).q), .string ((hgetV (asgS st k.v (strV ⟨#[110, 101, 119]⟩) 32 q) (hmakeV hp0 4) k.v).str), .int .i64 ((hgetV (asgS st k.v (strV ⟨#[110, 101, 119]⟩) 32 q) (hmakeV hp0 4) k.v).ref)])) ?_
       refine h_stepS 20 ?_
       refine s_vcall (fun _ h => lstr_s ⟨#[101, 110, 100]⟩) ?_
       rintro _ rfl
       refine s_nil (xs_held [0, 1, 1, 1, 1, 1, 1, 1, 1] ?_)
       refine h_l 21 rfl [0, 1, 1, 1, 1, 1, 1, 1, 1] (fun _ => (Lt.to (t_eqS (fun w => (eqVlT (hgetV (asgS st k.v (strV ⟨#[110, 101, 119]⟩) 32 q) (hmakeV hp0 4) k.v) (strV ⟨#[101, 110, 100]⟩) w).1)) (congrArg Value.bool (decide_eq_true (by rw [hcS]; exact zg1) : (decide ((hgetV (asgS st k.v (strV ⟨#[110, 101, 119]⟩) 32 q) (hmakeV hp0 4) k.v) = (strV ⟨#[101, 110, 100]⟩))) = true)))) ?_
       refine hp_ 22 [0, 1, 1, 1, 1, 1, 1, 1, 1] (.bool true) ?_
       refine hp_ 23 [0, 1, 1, 1, 1, 1, 1, 1, 1] (.bool true) ?_
       refine h_stepS 24 ?_
       refine s_vcall (fun _ h => lives_s) ?_
       rintro _ rfl
       refine s_nil (xs_held [0, 1, 1, 1, 1, 1, 1, 1, 1] ?_)
       refine hp_ 25 [0, 1, 1, 1, 1, 1, 1, 1, 1] (.bool true) ?_
       refine hp_ 26 [0, 1, 1, 1, 1, 1, 1, 1, 1] (.bool true) ?_
       refine h_doneS ?_
       refine xs_then ?_
       refine k_ret ?_
       refine xs_ret ?_
       exact xs_fin [.bool true] [] (SI.tmp 4 SI.nil) (fun _ h => h.re [] [0, 0, 0, 0, 0, 0, 0, 0, 0, 0]) ⟨rfl, rfl⟩
     ·
      refine s_alloc (.agg #[.int .i64 0, .int .i64 0, .int .i64 0, .int .i64 0, .string ByteArray.empty, .int .i64 0, .int .i64 0, .int .i64 0, .int .i64 0, .string ByteArray.empty, .int .i64 0, (.slice none 0 0), .int .i64 0, .string ByteArray.empty]) #[.int .i64 0, .int .i64 0, .int .i64 0, .int .i64 0, .string ByteArray.empty, .int .i64 0, .int .i64 0, .int .i64 0, .int .i64 0, .string ByteArray.empty, .int .i64 0, (.slice none 0 0), .int .i64 0, .string ByteArray.empty] (fun g75 => ?_)
      refine s_nil (xs_held [1, 1, 2, 2, 2, 2] ?_)
      refine h_stepS 3 ?_
      refine s_vcall (fun _ h => lstr_s ⟨#[110, 101, 119]⟩) ?_
      rintro _ rfl
      refine s_nil (xs_held [1, 1, 2, 2, 2, 2] ?_)
      refine h_stepS 4 ?_
      refine s_call [3] (assign_s (st := st) hs36 (by omega) q k.v (strV ⟨#[110, 101, 119]⟩)) ?_
      rintro _ _ ⟨av76, rfl, rfl⟩
      refine s_fact (fun H h => ((Acc.own (T := VlT) (L := (asg st k.v (strV ⟨#[110, 101, 119]⟩) 32 q).args) 0 rfl) H h).form) (fun hf77 => ?_)
      refine s_nil (xs_held [3, 3, 3, 3, 3, 3] ?_)
      refine h_stepS 6 ?_
      refine s_store (u := .agg #[.int .i64 ((asg st k.v (strV ⟨#[110, 101, 119]⟩) 32 q).kind), .int .i64 (((asg st k.v (strV ⟨#[110, 101, 119]⟩) 32 q).val).kind), .int .i64 (((asg st k.v (strV ⟨#[110, 101, 119]⟩) 32 q).val).p), .int .i64 (((asg st k.v (strV ⟨#[110, 101, 119]⟩) 32 q).val).q), .string (((asg st k.v (strV ⟨#[110, 101, 119]⟩) 32 q).val).str), .int .i64 (((asg st k.v (strV ⟨#[110, 101, 119]⟩) 32 q).val).ref), .int .i64 (((asg st k.v (strV ⟨#[110, 101, 119]⟩) 32 q).fn).kind), .int .i64 (((asg st k.v (strV ⟨#[110, 101, 119]⟩) 32 q).fn).p), .int .i64 (((asg st k.v (strV ⟨#[110, 101, 119]⟩) 32 q).fn).q), .string (((asg st k.v (strV ⟨#[110, 101, 119]⟩) 32 q).fn).str), .int .i64 (((asg st k.v (strV ⟨#[110, 101, 119]⟩) 32 q).fn).ref), av76, .int .i64 ((asg st k.v (strV ⟨#[110, 101, 119]⟩) 32 q).after), .string ((asg st k.v (strV ⟨#[110, 101, 119]⟩) 32 q).str)]) (m := 14) 2 #[.int .i64 ((asg st k.v (strV ⟨#[110, 101, 119]⟩) 32 q).kind), .int .i64 (((asg st k.v (strV ⟨#[110, 101, 119]⟩) 32 q).val).kind), .int .i64 (((asg st k.v (strV ⟨#[110, 101, 119]⟩) 32 q).val).p), .int .i64 (((asg st k.v (strV ⟨#[110, 101, 119]⟩) 32 q).val).q), .string (((asg st k.v (strV ⟨#[110, 101, 119]⟩) 32 q).val).str), .int .i64 (((asg st k.v (strV ⟨#[110, 101, 119]⟩) 32 q).val).ref), .int .i64 (((asg st k.v (strV ⟨#[110, 101, 119]⟩) 32 q).fn).kind), .int .i64 (((asg st k.v (strV ⟨#[110, 101, 119]⟩) 32 q).fn).p), .int .i64 (((asg st k.v (strV ⟨#[110, 101, 119]⟩) 32 q).fn).q), .string (((asg st k.v (strV ⟨#[110, 101, 119]⟩) 32 q).fn).str), .int .i64 (((asg st k.v (strV ⟨#[110, 101, 119]⟩) 32 q).fn).ref), av76, .int .i64 ((asg st k.v (strV ⟨#[110, 101, 119]⟩) 32 q).after), .string ((asg st k.v (strV ⟨#[110, 101, 119]⟩) 32 q).str)] ?_ (hm := by (obtain ⟨_, _, e⟩ := hf77; rw [e]; rfl)) (h1 := by (obtain ⟨_, _, e⟩ := hf77; rw [e]; rfl)) (ha' := by (obtain ⟨_, _, e⟩ := hf77; rw [e]; rfl))
      refine s_nil (xs_held [3, 3, 3, 3, 3, 3] ?_)
      refine h_doneS ?_
      refine xs_then ?_
      refine k_sr ?_
      refine sp (pB hb3 0) ?_
      refine s_lt (t_loadA 6 #[.int .i64 ((hmakeV hp0 4).kind), .int .i64 ((hmakeV hp0 4).p), .int .i64 ((hmakeV hp0 4).q), .string ((hmakeV hp0 4).str), .int .i64 ((hmakeV hp0 4).ref)]) ?_
      refine s_lt (t_loadA 7 #[.int .i64 k.v.kind, .int .i64 k.v.p, .int .i64 k.v.q, .string k.v.str, .int .i64 k.v.ref]) ?_
      refine s_call [1] (hget_s (st := (asgS st k.v (strV ⟨#[110, 101, 119]⟩) 32 q)) hag.2 (by omega) (hmakeV hp0 4) k.v) ?_
      rintro _ _ ⟨rfl, rfl⟩
      refine sp (.tuple #[.agg #[.int .i64 ((hgetV (asgS st k.v (strV ⟨#[110, 101, 119]⟩) 32 q) (hmakeV hp0 4) k.v).kind), .int .i64 ((hgetV (asgS st k.v (strV ⟨#[110, 101, 119]⟩) 32 q) (hmakeV hp0 4) k.v).p), .int .i64 ((hgetV (asgS st k.v (strV ⟨#[110, 101, 119]⟩) 32 q) (hmakeV hp0 4) k.v).q), .string ((hgetV (asgS st k.v (strV ⟨#[110, 101, 119]⟩) 32 q) (hmakeV hp0 4) k.v).str), .int .i64 ((hgetV (asgS st k.v (strV ⟨#[110, 101, 119]⟩) 32 q) (hmakeV hp0 4) k.v).ref)], .int .i64 (hgetE (asgS st k.v (strV ⟨#[110, 101, 119]⟩) 32 q) (hmakeV hp0 4))]) ?_
      refine sp (.agg #[.int .i64 ((hgetV (asgS st k.v (strV ⟨#[110, 101, 119]⟩) 32 q) (hmakeV hp0 4) k.v).kind), .int .i64 ((hgetV (asgS st k.v (strV ⟨#[110, 101, 119]⟩) 32 q) (hmakeV hp0 4) k.v).p), .int .i64 ((hgetV (asgS st k.v (strV ⟨#[110, 101, 119]⟩) 32 q) (hmakeV hp0 4) k.v).q), .string ((hgetV (asgS st k.v (strV ⟨#[110, 101, 119]⟩) 32 q) (hmakeV hp0 4) k.v).str), .int .i64 ((hgetV (asgS st k.v (strV ⟨#[110, 101, 119]⟩) 32 q) (hmakeV hp0 4) k.v).ref)]) ?_
      refine sp (.int .i64 (hgetE (asgS st k.v (strV ⟨#[110, 101, 119]⟩) 32 q) (hmakeV hp0 4))) ?_
      refine s_alloc (.agg #[.int .i64 0, .int .i64 0, .int .i64 0, .string ByteArray.empty, .int .i64 0]) #[.int .i64 0, .int .i64 0, .int .i64 0, .string ByteArray.empty, .int .i64 0] (fun g78 => ?_)
      refine s_store 0 #[.int .i64 ((hgetV (asgS st k.v (strV ⟨#[110, 101, 119]⟩) 32 q) (hmakeV hp0 4) k.v).kind), .int .i64 ((hgetV (asgS st k.v (strV ⟨#[110, 101, 119]⟩) 32 q) (hmakeV hp0 4) k.v).p), .int .i64 ((hgetV (asgS st k.v (strV ⟨#[110, 101, 119]⟩) 32 q) (hmakeV hp0 4) k.v).q), .string ((hgetV (asgS st k.v (strV ⟨#[110, 101, 119]⟩) 32 q) (hmakeV hp0 4) k.v).str), .int .i64 ((hgetV (asgS st k.v (strV ⟨#[110, 101, 119]⟩) 32 q) (hmakeV hp0 4) k.v).ref)] ?_
      refine sp (.int .i64 (hgetE (asgS st k.v (strV ⟨#[110, 101, 119]⟩) 32 q) (hmakeV hp0 4))) ?_
      refine s_nt ?_
      refine k_seq ?_
      refine k_sr ?_
      refine sp (.int .i64 (most : Int)) ?_
      refine s_lt (Lt.to t_cmp (congrArg Value.bool (decide_eq_true hbig : (decide ((32 : Int) < (most : Int))) = true))) ?_
      refine s_nt ?_
      refine k_true ?_
      refine k_seq ?_
      refine k_held [blkA g78 #[.int .i64 ((hgetV (asgS st k.v (strV ⟨#[110, 101, 119]⟩) 32 q) (hmakeV hp0 4) k.v).kind), .int .i64 ((hgetV (asgS st k.v (strV ⟨#[110, 101, 119]⟩) 32 q) (hmakeV hp0 4) k.v).p), .int .i64 ((hgetV (asgS st k.v (strV ⟨#[110, 101, 119]⟩) 32 q) (hmakeV hp0 4) k.v).q), .string ((hgetV (asgS st k.v (strV ⟨#[110, 101, 119]⟩) 32 q) (hmakeV hp0 4) k.v).str), .int .i64 ((hgetV (asgS st k.v (strV ⟨#[110, 101, 119]⟩) 32 q) (hmakeV hp0 4) k.v).ref)] 26, own VlT av76 ((asg st k.v (strV ⟨#[110, 101, 119]⟩) 32 q).args), blkA g75 #[.int .i64 ((asg st k.v (strV ⟨#[110, 101, 119]⟩) 32 q).kind), .int .i64 (((asg st k.v (strV ⟨#[110, 101, 119]⟩) 32 q).val).kind), .int .i64 (((asg st k.v (strV ⟨#[110, 101, 119]⟩) 32 q).val).p), .int .i64 (((asg st k.v (strV ⟨#[110, 101, 119]⟩) 32 q).val).q), .string (((asg st k.v (strV ⟨#[110, 101, 119]⟩) 32 q).val).str), .int .i64 (((asg st k.v (strV ⟨#[110, 101, 119]⟩) 32 q).val).ref), .int .i64 (((asg st k.v (strV ⟨#[110, 101, 119]⟩) 32 q).fn).kind), .int .i64 (((asg st k.v (strV ⟨#[110, 101, 119]⟩) 32 q).fn).p), .int .i64 (((asg st k.v (strV ⟨#[110, 101, 119]⟩) 32 q).fn).q), .string (((asg st k.v (strV ⟨#[110, 101, 119]⟩) 32 q).fn).str), .int .i64 (((asg st k.v (strV ⟨#[110, 101, 119]⟩) 32 q).fn).ref), av76, .int .i64 ((asg st k.v (strV ⟨#[110, 101, 119]⟩) 32 q).after), .string ((asg st k.v (strV ⟨#[110, 101, 119]⟩) 32 q).str)] 51, blkA g54 #[.int .i64 ((idx st k.v 32 q).kind), .int .i64 (((idx st k.v 32 q).val).kind), .int .i64 (((idx st k.v 32 q).val).p), .int .i64 (((idx st k.v 32 q).val).q), .string (((idx st k.v 32 q).val).str), .int .i64 (((idx st k.v 32 q).val).ref), .int .i64 (((idx st k.v 32 q).fn).kind), .int .i64 (((idx st k.v 32 q).fn).p), .int .i64 (((idx st k.v 32 q).fn).q), .string (((idx st k.v 32 q).fn).str), .int .i64 (((idx st k.v 32 q).fn).ref), av52, .int .i64 ((idx st k.v 32 q).after), .string ((idx st k.v 32 q).str)] 51, own VlT av52 ((idx st k.v 32 q).args), blkA g33 #[.int .i64 q.kind, .int .i64 q.p, .int .i64 q.q, .string q.str, .int .i64 q.ref] 26, blkA g30 #[.int .i64 ((hmakeV hp0 4).kind), .int .i64 ((hmakeV hp0 4).p), .int .i64 ((hmakeV hp0 4).q), .string ((hmakeV hp0 4).str), .int .i64 ((hmakeV hp0 4).ref)] 26, blkA g2 #[.int .i64 k.v.kind, .int .i64 k.v.p, .int .i64 k.v.q, .string k.v.str, .int .i64 k.v.ref] 26, blkA g1 #[.int .i64 k.v.kind, .int .i64 k.v.p, .int .i64 k.v.q, .string k.v.str, .int .i64 k.v.ref, .int .i64 k.obj] 28] ?_
      refine hp_ 0 [0, 1, 1, 1, 1, 1, 1, 1, 1] (pB g54 0) ?_
      refine h_l 1 rfl [0, 1, 1, 1, 1, 1, 1, 1, 1] (fun _ => (t_load 3 (.int .i64 ((idx st k.v 32 q).kind)))) ?_
      refine h_l 2 rfl [0, 1, 1, 1, 1, 1, 1, 1, 1] (fun _ => (Lt.to t_cmp (congrArg Value.bool (decide_eq_true (by rw [hcI]; rfl) : (decide ((idx st k.v 32 q).kind = 3)) = true)))) ?_
      refine hp_ 3 [0, 1, 1, 1, 1, 1, 1, 1, 1] (.bool true) ?_
      refine hp_ 4 [0, 1, 1, 1, 1, 1, 1, 1, 1] (pB g54 13) ?_
      refine h_l 5 rfl [0, 1, 1, 1, 1, 1, 1, 1, 1] (fun _ => (t_load 3 (.string ((idx st k.v 32 q).str)))) ?_
      refine h_l 6 rfl [0, 1, 1, 1, 1, 1, 1, 1, 1] (fun _ => (Lt.to t_cmpS (congrArg Value.bool (decide_eq_true (by rw [hcI]; rfl) : (decide ((idx st k.v 32 q).str = ⟨#[99, 104, 97, 105, 110, 32, 111, 102, 32, 109, 101, 116, 97, 116, 97, 98, 108, 101, 115, 32, 116, 111, 111, 32, 108, 111, 110, 103]⟩)) = true)))) ?_
      refine hp_ 7 [0, 1, 1, 1, 1, 1, 1, 1, 1] (.bool true) ?_
      refine hp_ 8 [0, 1, 1, 1, 1, 1, 1, 1, 1] (.bool true) ?_
      refine hp_ 9 [0, 1, 1, 1, 1, 1, 1, 1, 1] (pB g75 0) ?_
      refine h_l 10 rfl [0, 1, 1, 1, 1, 1, 1, 1, 1] (fun _ => (t_load 2 (.int .i64 ((asg st k.v (strV ⟨#[110, 101, 119]⟩) 32 q).kind)))) ?_
      refine h_l 11 rfl [0, 1, 1, 1, 1, 1, 1, 1, 1] (fun _ => (Lt.to t_cmp (congrArg Value.bool (decide_eq_true (by rw [hcA]; rfl) : (decide ((asg st k.v (strV ⟨#[110, 101, 119]⟩) 32 q).kind = 3)) = true)))) ?_
      refine hp_ 12 [0, 1, 1, 1, 1, 1, 1, 1, 1] (.bool true) ?_
      refine hp_ 13 [0, 1, 1, 1, 1, 1, 1, 1, 1] (.bool true) ?_
      refine hp_ 14 [0, 1, 1, 1, 1, 1, 1, 1, 1] (pB g75 13) ?_
      refine h_l 15 rfl [0, 1, 1, 1, 1, 1, 1, 1, 1] (fun _ => (t_load 2 (.string ((asg st k.v (strV ⟨#[110, 101, 119]⟩) 32 q).str)))) ?_
      refine h_l 16 rfl [0, 1, 1, 1, 1, 1, 1, 1, 1] (fun _ => (Lt.to t_cmpS (congrArg Value.bool (decide_eq_true (by rw [hcA]; rfl) : (decide ((asg st k.v (strV ⟨#[110, 101, 119]⟩) 32 q).str = ⟨#[99, 104, 97, 105, 110, 32, 111, 102, 32, 109, 101, 116, 97, 116, 97, 98, 108, 101, 115, 32, 116, 111, 111, 32, 108, 111, 110, 103]⟩)) = true)))) ?_
      refine hp_ 17 [0, 1, 1, 1, 1, 1, 1, 1, 1] (.bool true) ?_
      refine hp_ 18 [0, 1, 1, 1, 1, 1, 1, 1, 1] (.bool true) ?_
      refine h_l 19 rfl [0, 1, 1, 1, 1, 1, 1, 1, 1] (fun _ => (t_loadA 0 #[.int .i64 ((hgetV (asgS st k.v (strV ⟨#[110, 101, 119]⟩) 32 q) (hmakeV hp0 4) k.v).kind), .int .i64 ((hgetV (asgS st k.v (strV ⟨#[110, 101, 119]⟩) 32 q) (hmakeV hp0 4) k.v).p), .int .i64 ((hgetV (asgS st k.v (strV ⟨#[110, 101, 119]⟩) 32 q) (hmakeV hp0 4) k.v).q), .string ((hgetV (asgS st k.v (strV ⟨#[110, 101, 119]⟩) 32 q) (hmakeV hp0 4) k.v).str), .int .i64 ((hgetV (asgS st k.v (strV ⟨#[110, 101, 119]⟩) 32 q) (hmakeV hp0 4) k.v).ref)])) ?_
      refine h_stepS 20 ?_
      refine s_vcall (fun _ h => lstr_s ⟨#[101, 110, 100]⟩) ?_
      rintro _ rfl
      refine s_nil (xs_held [0, 1, 1, 1, 1, 1, 1, 1, 1] ?_)
      refine h_l 21 rfl [0, 1, 1, 1, 1, 1, 1, 1, 1] (fun _ => (Lt.to (t_eqS (fun w => (eqVlT (hgetV (asgS st k.v (strV ⟨#[110, 101, 119]⟩) 32 q) (hmakeV hp0 4) k.v) (strV ⟨#[101, 110, 100]⟩) w).1)) (congrArg Value.bool (decide_eq_true (by rw [hcS]; exact zg1) : (decide ((hgetV (asgS st k.v (strV ⟨#[110, 101, 119]⟩) 32 q) (hmakeV hp0 4) k.v) = (strV ⟨#[101, 110, 100]⟩))) = true)))) ?_
      refine hp_ 22 [0, 1, 1, 1, 1, 1, 1, 1, 1] (.bool true) ?_
      refine hp_ 23 [0, 1, 1, 1, 1, 1, 1, 1, 1] (.bool true) ?_
      refine h_stepS 24 ?_
      refine s_vcall (fun _ h => lives_s) ?_
      rintro _ rfl
      refine s_nil (xs_held [0, 1, 1, 1, 1, 1, 1, 1, 1] ?_)
      refine hp_ 25 [0, 1, 1, 1, 1, 1, 1, 1, 1] (.bool true) ?_
      refine hp_ 26 [0, 1, 1, 1, 1, 1, 1, 1, 1] (.bool true) ?_
      refine h_doneS ?_
      refine xs_then ?_
      refine k_ret ?_
      refine xs_ret ?_
      exact xs_fin [.bool true] [] (SI.tmp 4 SI.nil) (fun _ h => h.re [] [0, 0, 0, 0, 0, 0, 0, 0, 0, 0]) ⟨rfl, rfl⟩
    ·
     rw [if_pos (by omega)] at hcI hcA hcS
     rw [zg2] at hcA
     refine k_sr ?_
     refine sp (pB hb3 0) ?_
     refine s_lt (t_loadA 0 #[.int .i64 q.kind, .int .i64 q.p, .int .i64 q.q, .string q.str, .int .i64 q.ref]) ?_
     refine s_lt (t_loadA 3 #[.int .i64 k.v.kind, .int .i64 k.v.p, .int .i64 k.v.q, .string k.v.str, .int .i64 k.v.ref]) ?_
     refine s_call [1] (index_s (st := st) hs36 (by omega) q k.v) ?_
     rintro _ _ ⟨av79, rfl, rfl⟩
     refine s_fact (fun H h => ((Acc.own (T := VlT) (L := (idx st k.v 32 q).args) 0 rfl) H h).form) (fun hf80 => ?_)
     refine s_alloc (.agg #[.int .i64 0, .int .i64 0, .int .i64 0, .int .i64 0, .string ByteArray.empty, .int .i64 0, .int .i64 0, .int .i64 0, .int .i64 0, .string ByteArray.empty, .int .i64 0, (.slice none 0 0), .int .i64 0, .string ByteArray.empty]) #[.int .i64 0, .int .i64 0, .int .i64 0, .int .i64 0, .string ByteArray.empty, .int .i64 0, .int .i64 0, .int .i64 0, .int .i64 0, .string ByteArray.empty, .int .i64 0, (.slice none 0 0), .int .i64 0, .string ByteArray.empty] (fun g81 => ?_)
     refine s_store (u := .agg #[.int .i64 ((idx st k.v 32 q).kind), .int .i64 (((idx st k.v 32 q).val).kind), .int .i64 (((idx st k.v 32 q).val).p), .int .i64 (((idx st k.v 32 q).val).q), .string (((idx st k.v 32 q).val).str), .int .i64 (((idx st k.v 32 q).val).ref), .int .i64 (((idx st k.v 32 q).fn).kind), .int .i64 (((idx st k.v 32 q).fn).p), .int .i64 (((idx st k.v 32 q).fn).q), .string (((idx st k.v 32 q).fn).str), .int .i64 (((idx st k.v 32 q).fn).ref), av79, .int .i64 ((idx st k.v 32 q).after), .string ((idx st k.v 32 q).str)]) (m := 14) 0 #[.int .i64 ((idx st k.v 32 q).kind), .int .i64 (((idx st k.v 32 q).val).kind), .int .i64 (((idx st k.v 32 q).val).p), .int .i64 (((idx st k.v 32 q).val).q), .string (((idx st k.v 32 q).val).str), .int .i64 (((idx st k.v 32 q).val).ref), .int .i64 (((idx st k.v 32 q).fn).kind), .int .i64 (((idx st k.v 32 q).fn).p), .int .i64 (((idx st k.v 32 q).fn).q), .string (((idx st k.v 32 q).fn).str), .int .i64 (((idx st k.v 32 q).fn).ref), av79, .int .i64 ((idx st k.v 32 q).after), .string ((idx st k.v 32 q).str)] ?_ (hm := by (obtain ⟨_, _, e⟩ := hf80; rw [e]; rfl)) (h1 := by (obtain ⟨_, _, e⟩ := hf80; rw [e]; rfl)) (ha' := by (obtain ⟨_, _, e⟩ := hf80; rw [e]; rfl))
     refine s_nt ?_
     refine k_seq ?_
     refine k_held [blkA g81 #[.int .i64 ((idx st k.v 32 q).kind), .int .i64 (((idx st k.v 32 q).val).kind), .int .i64 (((idx st k.v 32 q).val).p), .int .i64 (((idx st k.v 32 q).val).q), .string (((idx st k.v 32 q).val).str), .int .i64 (((idx st k.v 32 q).val).ref), .int .i64 (((idx st k.v 32 q).fn).kind), .int .i64 (((idx st k.v 32 q).fn).p), .int .i64 (((idx st k.v 32 q).fn).q), .string (((idx st k.v 32 q).fn).str), .int .i64 (((idx st k.v 32 q).fn).ref), av79, .int .i64 ((idx st k.v 32 q).after), .string ((idx st k.v 32 q).str)] 51, own VlT av79 ((idx st k.v 32 q).args), blkA g33 #[.int .i64 q.kind, .int .i64 q.p, .int .i64 q.q, .string q.str, .int .i64 q.ref] 26, blkA g30 #[.int .i64 ((hmakeV hp0 4).kind), .int .i64 ((hmakeV hp0 4).p), .int .i64 ((hmakeV hp0 4).q), .string ((hmakeV hp0 4).str), .int .i64 ((hmakeV hp0 4).ref)] 26, blkA g2 #[.int .i64 k.v.kind, .int .i64 k.v.p, .int .i64 k.v.q, .string k.v.str, .int .i64 k.v.ref] 26, blkA g1 #[.int .i64 k.v.kind, .int .i64 k.v.p, .int .i64 k.v.q, .string k.v.str, .int .i64 k.v.ref, .int .i64 k.obj] 28] ?_
     refine hp_ 0 [0, 0, 1, 1, 1, 1] (pB hb3 0) ?_
     refine h_l 1 rfl [0, 0, 1, 1, 1, 1] (fun _ => (t_loadA 2 #[.int .i64 q.kind, .int .i64 q.p, .int .i64 q.q, .string q.str, .int .i64 q.ref])) ?_
     refine h_l 2 rfl [0, 0, 1, 1, 1, 1] (fun _ => (t_loadA 4 #[.int .i64 k.v.kind, .int .i64 k.v.p, .int .i64 k.v.q, .string k.v.str, .int .i64 k.v.ref])) ?_
     refine h_stepS2 3 5 ?_ ?_
     ·
      refine s_vcall (fun _ h => lstr_s ⟨#[110, 101, 119]⟩) ?_
      rintro _ rfl
      refine s_nil (xs_held [0, 0, 1, 1, 1, 1] ?_)
      refine h_stepS2 4 5 ?_ ?_
      ·
       refine s_call [2] (assign_s (st := st) hs36 (by omega) q k.v (strV ⟨#[110, 101, 119]⟩)) ?_
       rintro _ _ ⟨av94, rfl, rfl⟩
       refine s_fact (fun H h => ((Acc.own (T := VlT) (L := (asg st k.v (strV ⟨#[110, 101, 119]⟩) 32 q).args) 0 rfl) H h).form) (fun hf95 => ?_)
       refine s_nil (xs_held [2, 2, 2, 2, 2, 2] ?_)
       refine h_stepS 5 ?_
       refine s_alloc (.agg #[.int .i64 0, .int .i64 0, .int .i64 0, .int .i64 0, .string ByteArray.empty, .int .i64 0, .int .i64 0, .int .i64 0, .int .i64 0, .string ByteArray.empty, .int .i64 0, (.slice none 0 0), .int .i64 0, .string ByteArray.empty]) #[.int .i64 0, .int .i64 0, .int .i64 0, .int .i64 0, .string ByteArray.empty, .int .i64 0, .int .i64 0, .int .i64 0, .int .i64 0, .string ByteArray.empty, .int .i64 0, (.slice none 0 0), .int .i64 0, .string ByteArray.empty] (fun g96 => ?_)
       refine s_nil (xs_held [3, 3, 3, 3, 3, 3] ?_)
       refine h_stepS 6 ?_
       refine s_store (u := .agg #[.int .i64 ((asg st k.v (strV ⟨#[110, 101, 119]⟩) 32 q).kind), .int .i64 (((asg st k.v (strV ⟨#[110, 101, 119]⟩) 32 q).val).kind), .int .i64 (((asg st k.v (strV ⟨#[110, 101, 119]⟩) 32 q).val).p), .int .i64 (((asg st k.v (strV ⟨#[110, 101, 119]⟩) 32 q).val).q), .string (((asg st k.v (strV ⟨#[110, 101, 119]⟩) 32 q).val).str), .int .i64 (((asg st k.v (strV ⟨#[110, 101, 119]⟩) 32 q).val).ref), .int .i64 (((asg st k.v (strV ⟨#[110, 101, 119]⟩) 32 q).fn).kind), .int .i64 (((asg st k.v (strV ⟨#[110, 101, 119]⟩) 32 q).fn).p), .int .i64 (((asg st k.v (strV ⟨#[110, 101, 119]⟩) 32 q).fn).q), .string (((asg st k.v (strV ⟨#[110, 101, 119]⟩) 32 q).fn).str), .int .i64 (((asg st k.v (strV ⟨#[110, 101, 119]⟩) 32 q).fn).ref), av94, .int .i64 ((asg st k.v (strV ⟨#[110, 101, 119]⟩) 32 q).after), .string ((asg st k.v (strV ⟨#[110, 101, 119]⟩) 32 q).str)]) (m := 14) 0 #[.int .i64 ((asg st k.v (strV ⟨#[110, 101, 119]⟩) 32 q).kind), .int .i64 (((asg st k.v (strV ⟨#[110, 101, 119]⟩) 32 q).val).kind), .int .i64 (((asg st k.v (strV ⟨#[110, 101, 119]⟩) 32 q).val).p), .int .i64 (((asg st k.v (strV ⟨#[110, 101, 119]⟩) 32 q).val).q), .string (((asg st k.v (strV ⟨#[110, 101, 119]⟩) 32 q).val).str), .int .i64 (((asg st k.v (strV ⟨#[110, 101, 119]⟩) 32 q).val).ref), .int .i64 (((asg st k.v (strV ⟨#[110, 101, 119]⟩) 32 q).fn).kind), .int .i64 (((asg st k.v (strV ⟨#[110, 101, 119]⟩) 32 q).fn).p), .int .i64 (((asg st k.v (strV ⟨#[110, 101, 119]⟩) 32 q).fn).q), .string (((asg st k.v (strV ⟨#[110, 101, 119]⟩) 32 q).fn).str), .int .i64 (((asg st k.v (strV ⟨#[110, 101, 119]⟩) 32 q).fn).ref), av94, .int .i64 ((asg st k.v (strV ⟨#[110, 101, 119]⟩) 32 q).after), .string ((asg st k.v (strV ⟨#[110, 101, 119]⟩) 32 q).str)] ?_ (hm := by (obtain ⟨_, _, e⟩ := hf95; rw [e]; rfl)) (h1 := by (obtain ⟨_, _, e⟩ := hf95; rw [e]; rfl)) (ha' := by (obtain ⟨_, _, e⟩ := hf95; rw [e]; rfl))
       refine s_nil (xs_held [3, 3, 3, 3, 3, 3] ?_)
       refine h_doneS ?_
       refine xs_then ?_
       refine k_sr ?_
       refine sp (pB hb3 0) ?_
       refine s_lt (t_loadA 6 #[.int .i64 ((hmakeV hp0 4).kind), .int .i64 ((hmakeV hp0 4).p), .int .i64 ((hmakeV hp0 4).q), .string ((hmakeV hp0 4).str), .int .i64 ((hmakeV hp0 4).ref)]) ?_
       refine s_lt (t_loadA 7 #[.int .i64 k.v.kind, .int .i64 k.v.p, .int .i64 k.v.q, .string k.v.str, .int .i64 k.v.ref]) ?_
       refine s_call [2] (hget_s (st := (asgS st k.v (strV ⟨#[110, 101, 119]⟩) 32 q)) hag.2 (by omega) (hmakeV hp0 4) k.v) ?_
       rintro _ _ ⟨rfl, rfl⟩
       refine sp (.tuple #[.agg #[.int .i64 ((hgetV (asgS st k.v (strV ⟨#[110, 101, 119]⟩) 32 q) (hmakeV hp0 4) k.v).kind), .int .i64 ((hgetV (asgS st k.v (strV ⟨#[110, 101, 119]⟩) 32 q) (hmakeV hp0 4) k.v).p), .int .i64 ((hgetV (asgS st k.v (strV ⟨#[110, 101, 119]⟩) 32 q) (hmakeV hp0 4) k.v).q), .string ((hgetV (asgS st k.v (strV ⟨#[110, 101, 119]⟩) 32 q) (hmakeV hp0 4) k.v).str), .int .i64 ((hgetV (asgS st k.v (strV ⟨#[110, 101, 119]⟩) 32 q) (hmakeV hp0 4) k.v).ref)], .int .i64 (hgetE (asgS st k.v (strV ⟨#[110, 101, 119]⟩) 32 q) (hmakeV hp0 4))]) ?_
       refine sp (.agg #[.int .i64 ((hgetV (asgS st k.v (strV ⟨#[110, 101, 119]⟩) 32 q) (hmakeV hp0 4) k.v).kind), .int .i64 ((hgetV (asgS st k.v (strV ⟨#[110, 101, 119]⟩) 32 q) (hmakeV hp0 4) k.v).p), .int .i64 ((hgetV (asgS st k.v (strV ⟨#[110, 101, 119]⟩) 32 q) (hmakeV hp0 4) k.v).q), .string ((hgetV (asgS st k.v (strV ⟨#[110, 101, 119]⟩) 32 q) (hmakeV hp0 4) k.v).str), .int .i64 ((hgetV (asgS st k.v (strV ⟨#[110, 101, 119]⟩) 32 q) (hmakeV hp0 4) k.v).ref)]) ?_
       refine sp (.int .i64 (hgetE (asgS st k.v (strV ⟨#[110, 101, 119]⟩) 32 q) (hmakeV hp0 4))) ?_
       refine s_alloc (.agg #[.int .i64 0, .int .i64 0, .int .i64 0, .string ByteArray.empty, .int .i64 0]) #[.int .i64 0, .int .i64 0, .int .i64 0, .string ByteArray.empty, .int .i64 0] (fun g97 => ?_)
       refine s_store 0 #[.int .i64 ((hgetV (asgS st k.v (strV ⟨#[110, 101, 119]⟩) 32 q) (hmakeV hp0 4) k.v).kind), .int .i64 ((hgetV (asgS st k.v (strV ⟨#[110, 101, 119]⟩) 32 q) (hmakeV hp0 4) k.v).p), .int .i64 ((hgetV (asgS st k.v (strV ⟨#[110, 101, 119]⟩) 32 q) (hmakeV hp0 4) k.v).q), .string ((hgetV (asgS st k.v (strV ⟨#[110, 101, 119]⟩) 32 q) (hmakeV hp0 4) k.v).str), .int .i64 ((hgetV (asgS st k.v (strV ⟨#[110, 101, 119]⟩) 32 q) (hmakeV hp0 4) k.v).ref)] ?_
       refine sp (.int .i64 (hgetE (asgS st k.v (strV ⟨#[110, 101, 119]⟩) 32 q) (hmakeV hp0 4))) ?_
       refine s_nt ?_
       refine k_seq ?_
       refine k_sr ?_
       refine sp (.int .i64 (most : Int)) ?_
       refine s_lt (Lt.to t_cmp (congrArg Value.bool (decide_eq_false hbig : (decide ((32 : Int) < (most : Int))) = false))) ?_
       refine s_nt ?_
       refine k_false ?_
       refine k_st ?_
       refine k_seq ?_
       refine k_held [blkA g97 #[.int .i64 ((hgetV (asgS st k.v (strV ⟨#[110, 101, 119]⟩) 32 q) (hmakeV hp0 4) k.v).kind), .int .i64 ((hgetV (asgS st k.v (strV ⟨#[110, 101, 119]⟩) 32 q) (hmakeV hp0 4) k.v).p), .int .i64 ((hgetV (asgS st k.v (strV ⟨#[110, 101, 119]⟩) 32 q) (hmakeV hp0 4) k.v).q), .string ((hgetV (asgS st k.v (strV ⟨#[110, 101, 119]⟩) 32 q) (hmakeV hp0 4) k.v).str), .int .i64 ((hgetV (asgS st k.v (strV ⟨#[110, 101, 119]⟩) 32 q) (hmakeV hp0 4) k.v).ref)] 26, blkA g96 #[.int .i64 ((asg st k.v (strV ⟨#[110, 101, 119]⟩) 32 q).kind), .int .i64 (((asg st k.v (strV ⟨#[110, 101, 119]⟩) 32 q).val).kind), .int .i64 (((asg st k.v (strV ⟨#[110, 101, 119]⟩) 32 q).val).p), .int .i64 (((asg st k.v (strV ⟨#[110, 101, 119]⟩) 32 q).val).q), .string (((asg st k.v (strV ⟨#[110, 101, 119]⟩) 32 q).val).str), .int .i64 (((asg st k.v (strV ⟨#[110, 101, 119]⟩) 32 q).val).ref), .int .i64 (((asg st k.v (strV ⟨#[110, 101, 119]⟩) 32 q).fn).kind), .int .i64 (((asg st k.v (strV ⟨#[110, 101, 119]⟩) 32 q).fn).p), .int .i64 (((asg st k.v (strV ⟨#[110, 101, 119]⟩) 32 q).fn).q), .string (((asg st k.v (strV ⟨#[110, 101, 119]⟩) 32 q).fn).str), .int .i64 (((asg st k.v (strV ⟨#[110, 101, 119]⟩) 32 q).fn).ref), av94, .int .i64 ((asg st k.v (strV ⟨#[110, 101, 119]⟩) 32 q).after), .string ((asg st k.v (strV ⟨#[110, 101, 119]⟩) 32 q).str)] 51, own VlT av94 ((asg st k.v (strV ⟨#[110, 101, 119]⟩) 32 q).args), blkA g81 #[.int .i64 ((idx st k.v 32 q).kind), .int .i64 (((idx st k.v 32 q).val).kind), .int .i64 (((idx st k.v 32 q).val).p), .int .i64 (((idx st k.v 32 q).val).q), .string (((idx st k.v 32 q).val).str), .int .i64 (((idx st k.v 32 q).val).ref), .int .i64 (((idx st k.v 32 q).fn).kind), .int .i64 (((idx st k.v 32 q).fn).p), .int .i64 (((idx st k.v 32 q).fn).q), .string (((idx st k.v 32 q).fn).str), .int .i64 (((idx st k.v 32 q).fn).ref), av79, .int .i64 ((idx st k.v 32 q).after), .string ((idx st k.v 32 q).str)] 51, own VlT av79 ((idx st k.v 32 q).args), blkA g33 #[.int .i64 q.kind, .int .i64 q.p, .int .i64 q.q, .string q.str, .int .i64 q.ref] 26, blkA g30 #[.int .i64 ((hmakeV hp0 4).kind), .int .i64 ((hmakeV hp0 4).p), .int .i64 ((hmakeV hp0 4).q), .string ((hmakeV hp0 4).str), .int .i64 ((hmakeV hp0 4).ref)] 26, blkA g2 #[.int .i64 k.v.kind, .int .i64 k.v.p, .int .i64 k.v.q, .string k.v.str, .int .i64 k.v.ref] 26, blkA g1 #[.int .i64 k.v.kind, .int .i64 k.v.p, .int .i64 k.v.q, .string k.v.str, .int .i64 k.v.ref, .int .i64 k.obj] 28] ?_
       refine hp_ 0 [0, 1, 1, 1, 1, 1, 1, 1, 1] (pB g81 0) ?_
       refine h_l 1 rfl [0, 1, 1, 1, 1, 1, 1, 1, 1] (fun _ => (t_load 3 (.int .i64 ((idx st k.v 32 q).kind)))) ?_
       refine h_l 2 rfl [0, 1, 1, 1, 1, 1, 1, 1, 1] (fun _ => (Lt.to t_cmp (congrArg Value.bool (decide_eq_true (by rw [hcI]; rfl) : (decide ((idx st k.v 32 q).kind = 1)) = true)))) ?_
       refine hp_ 3 [0, 1, 1, 1, 1, 1, 1, 1, 1] (.bool true) ?_
       refine hp_ 4 [0, 1, 1, 1, 1, 1, 1, 1, 1] (pB g81 1) ?_
       refine h_l 5 rfl [0, 1, 1, 1, 1, 1, 1, 1, 1] (fun _ => (t_loadA 3 #[.int .i64 (((idx st k.v 32 q).val).kind), .int .i64 (((idx st k.v 32 q).val).p), .int .i64 (((idx st k.v 32 q).val).q), .string (((idx st k.v 32 q).val).str), .int .i64 (((idx st k.v 32 q).val).ref)])) ?_
       refine h_stepS 6 ?_
       refine s_vcall (fun _ h => lstr_s ⟨#[101, 110, 100]⟩) ?_
       rintro _ rfl
       refine s_nil (xs_held [0, 1, 1, 1, 1, 1, 1, 1, 1] ?_)
       refine h_l 7 rfl [0, 1, 1, 1, 1, 1, 1, 1, 1] (fun _ => (Lt.to (t_eqS (fun w => (eqVlT ((idx st k.v 32 q).val) (strV ⟨#[101, 110, 100]⟩) w).1)) (congrArg Value.bool (decide_eq_true (by rw [hcI]; rfl) : (decide (((idx st k.v 32 q).val) = (strV ⟨#[101, 110, 100]⟩))) = true)))) ?_
       refine hp_ 8 [0, 1, 1, 1, 1, 1, 1, 1, 1] (.bool true) ?_
       refine hp_ 9 [0, 1, 1, 1, 1, 1, 1, 1, 1] (.bool true) ?_
       refine hp_ 10 [0, 1, 1, 1, 1, 1, 1, 1, 1] (pB g96 0) ?_
       refine h_l 11 rfl [0, 1, 1, 1, 1, 1, 1, 1, 1] (fun _ => (t_load 1 (.int .i64 ((asg st k.v (strV ⟨#[110, 101, 119]⟩) 32 q).kind)))) ?_
       refine h_l 12 rfl [0, 1, 1, 1, 1, 1, 1, 1, 1] (fun _ => (Lt.to t_cmp (congrArg Value.bool (decide_eq_true (by rw [hcA]; rfl) : (decide ((asg st k.v (strV ⟨#[110, 101, 119]⟩) 32 q).kind = 1)) = true)))) ?_
       refine hp_ 13 [0, 1, 1, 1, 1, 1, 1, 1, 1] (.bool true) ?_
       refine hp_ 14 [0, 1, 1, 1, 1, 1, 1, 1, 1] (.bool true) ?_
       refine h_l 15 rfl [0, 1, 1, 1, 1, 1, 1, 1, 1] (fun _ => (t_loadA 0 #[.int .i64 ((hgetV (asgS st k.v (strV ⟨#[110, 101, 119]⟩) 32 q) (hmakeV hp0 4) k.v).kind), .int .i64 ((hgetV (asgS st k.v (strV ⟨#[110, 101, 119]⟩) 32 q) (hmakeV hp0 4) k.v).p), .int .i64 ((hgetV (asgS st k.v (strV ⟨#[110, 101, 119]⟩) 32 q) (hmakeV hp0 4) k.v).q), .string ((hgetV (asgS st k.v (strV ⟨#[110, 101, 119]⟩) 32 q) (hmakeV hp0 4) k.v).str), .int .i64 ((hgetV (asgS st k.v (strV ⟨#[110, 101, 119]⟩) 32 q) (hmakeV hp0 4) k.v).ref)])) ?_
       refine h_stepS 16 ?_
       refine s_vcall (fun _ h => lstr_s ⟨#[110, 101, 119]⟩) ?_
       rintro _ rfl
       refine s_nil (xs_held [0, 1, 1, 1, 1, 1, 1, 1, 1] ?_)
       refine h_l 17 rfl [0, 1, 1, 1, 1, 1, 1, 1, 1] (fun _ => (Lt.to (t_eqS (fun w => (eqVlT (hgetV (asgS st k.v (strV ⟨#[110, 101, 119]⟩) 32 q) (hmakeV hp0 4) k.v) (strV ⟨#[110, 101, 119]⟩) w).1)) (congrArg Value.bool (decide_eq_true (by rw [hcS]; exact zg3) : (decide ((hgetV (asgS st k.v (strV ⟨#[110, 101, 119]⟩) 32 q) (hmakeV hp0 4) k.v) = (strV ⟨#[110, 101, 119]⟩))) = true)))) ?_
       refine hp_ 18 [0, 1, 1, 1, 1, 1, 1, 1, 1] (.bool true) ?_
       refine hp_ 19 [0, 1, 1, 1, 1, 1, 1, 1, 1] (.bool true) ?_
       refine h_stepS 20 ?_
       refine s_vcall (fun _ h => lives_s) ?_
       rintro _ rfl
       refine s_nil (xs_held [0, 1, 1, 1, 1, 1, 1, 1, 1] ?_)
       refine hp_ 21 [0, 1, 1, 1, 1, 1, 1, 1, 1] (.bool true) ?_
       refine hp_ 22 [0, 1, 1, 1, 1, 1, 1, 1, 1] (.bool true) ?_
       refine h_doneS ?_
       refine xs_then ?_
       refine k_ret ?_
       exact xs_fin [.bool true] [] (SI.tmp 4 SI.nil) (fun _ h => h.re [] [0, 0, 0, 0, 0, 0, 0, 0, 0, 0]) ⟨rfl, rfl⟩
      ·
       refine s_alloc (.agg #[.int .i64 0, .int .i64 0, .int .i64 0, .int .i64 0, .string ByteArray.empty, .int .i64 0, .int .i64 0, .int .i64 0, .int .i64 0, .string ByteArray.empty, .int .i64 0, (.slice none 0 0), .int .i64 0, .string ByteArray.empty]) #[.int .i64 0, .int .i64 0, .int .i64 0, .int .i64 0, .string ByteArray.empty, .int .i64 0, .int .i64 0, .int .i64 0, .int .i64 0, .string ByteArray.empty, .int .i64 0, (.slice none 0 0), .int .i64 0, .string ByteArray.empty] (fun g98 => ?_)
       refine s_nil (xs_held [1, 1, 2, 2, 2, 2] ?_)
       refine h_stepS 4 ?_
       refine s_call [3] (assign_s (st := st) hs36 (by omega) q k.v (strV ⟨#[110, 101, 119]⟩)) ?_
       rintro _ _ ⟨av99, rfl, rfl⟩
       refine s_fact (fun H h => ((Acc.own (T := VlT) (L := (asg st k.v (strV ⟨#[110, 101, 119]⟩) 32 q).args) 0 rfl) H h).form) (fun hf100 => ?_)
       refine s_nil (xs_held [3, 3, 3, 3, 3, 3] ?_)
       refine h_stepS 6 ?_
       refine s_store (u := .agg #[.int .i64 ((asg st k.v (strV ⟨#[110, 101, 119]⟩) 32 q).kind), .int .i64 (((asg st k.v (strV ⟨#[110, 101, 119]⟩) 32 q).val).kind), .int .i64 (((asg st k.v (strV ⟨#[110, 101, 119]⟩) 32 q).val).p), .int .i64 (((asg st k.v (strV ⟨#[110, 101, 119]⟩) 32 q).val).q), .string (((asg st k.v (strV ⟨#[110, 101, 119]⟩) 32 q).val).str), .int .i64 (((asg st k.v (strV ⟨#[110, 101, 119]⟩) 32 q).val).ref), .int .i64 (((asg st k.v (strV ⟨#[110, 101, 119]⟩) 32 q).fn).kind), .int .i64 (((asg st k.v (strV ⟨#[110, 101, 119]⟩) 32 q).fn).p), .int .i64 (((asg st k.v (strV ⟨#[110, 101, 119]⟩) 32 q).fn).q), .string (((asg st k.v (strV ⟨#[110, 101, 119]⟩) 32 q).fn).str), .int .i64 (((asg st k.v (strV ⟨#[110, 101, 119]⟩) 32 q).fn).ref), av99, .int .i64 ((asg st k.v (strV ⟨#[110, 101, 119]⟩) 32 q).after), .string ((asg st k.v (strV ⟨#[110, 101, 119]⟩) 32 q).str)]) (m := 14) 2 #[.int .i64 ((asg st k.v (strV ⟨#[110, 101, 119]⟩) 32 q).kind), .int .i64 (((asg st k.v (strV ⟨#[110, 101, 119]⟩) 32 q).val).kind), .int .i64 (((asg st k.v (strV ⟨#[110, 101, 119]⟩) 32 q).val).p), .int .i64 (((asg st k.v (strV ⟨#[110, 101, 119]⟩) 32 q).val).q), .string (((asg st k.v (strV ⟨#[110, 101, 119]⟩) 32 q).val).str), .int .i64 (((asg st k.v (strV ⟨#[110, 101, 119]⟩) 32 q).val).ref), .int .i64 (((asg st k.v (strV ⟨#[110, 101, 119]⟩) 32 q).fn).kind), .int .i64 (((asg st k.v (strV ⟨#[110, 101, 119]⟩) 32 q).fn).p), .int .i64 (((asg st k.v (strV ⟨#[110, 101, 119]⟩) 32 q).fn).q), .string (((asg st k.v (strV ⟨#[110, 101, 119]⟩) 32 q).fn).str), .int .i64 (((asg st k.v (strV ⟨#[110, 101, 119]⟩) 32 q).fn).ref), av99, .int .i64 ((asg st k.v (strV ⟨#[110, 101, 119]⟩) 32 q).after), .string ((asg st k.v (strV ⟨#[110, 101, 119]⟩) 32 q).str)] ?_ (hm := by (obtain ⟨_, _, e⟩ := hf100; rw [e]; rfl)) (h1 := by (obtain ⟨_, _, e⟩ := hf100; rw [e]; rfl)) (ha' := by (obtain ⟨_, _, e⟩ := hf100; rw [e]; rfl))
       refine s_nil (xs_held [3, 3, 3, 3, 3, 3] ?_)
       refine h_doneS ?_
       refine xs_then ?_
       refine k_sr ?_
       refine sp (pB hb3 0) ?_
       refine s_lt (t_loadA 6 #[.int .i64 ((hmakeV hp0 4).kind), .int .i64 ((hmakeV hp0 4).p), .int .i64 ((hmakeV hp0 4).q), .string ((hmakeV hp0 4).str), .int .i64 ((hmakeV hp0 4).ref)]) ?_
       refine s_lt (t_loadA 7 #[.int .i64 k.v.kind, .int .i64 k.v.p, .int .i64 k.v.q, .string k.v.str, .int .i64 k.v.ref]) ?_
       refine s_call [1] (hget_s (st := (asgS st k.v (strV ⟨#[110, 101, 119]⟩) 32 q)) hag.2 (by omega) (hmakeV hp0 4) k.v) ?_
       rintro _ _ ⟨rfl, rfl⟩
       refine sp (.tuple #[.agg #[.int .i64 ((hgetV (asgS st k.v (strV ⟨#[110, 101, 119]⟩) 32 q) (hmakeV hp0 4) k.v).kind), .int .i64 ((hgetV (asgS st k.v (strV ⟨#[110, 101, 119]⟩) 32 q) (hmakeV hp0 4) k.v).p), .int .i64 ((hgetV (asgS st k.v (strV ⟨#[110, 101, 119]⟩) 32 q) (hmakeV hp0 4) k.v).q), .string ((hgetV (asgS st k.v (strV ⟨#[110, 101, 119]⟩) 32 q) (hmakeV hp0 4) k.v).str), .int .i64 ((hgetV (asgS st k.v (strV ⟨#[110, 101, 119]⟩) 32 q) (hmakeV hp0 4) k.v).ref)], .int .i64 (hgetE (asgS st k.v (strV ⟨#[110, 101, 119]⟩) 32 q) (hmakeV hp0 4))]) ?_
       refine sp (.agg #[.int .i64 ((hgetV (asgS st k.v (strV ⟨#[110, 101, 119]⟩) 32 q) (hmakeV hp0 4) k.v).kind), .int .i64 ((hgetV (asgS st k.v (strV ⟨#[110, 101, 119]⟩) 32 q) (hmakeV hp0 4) k.v).p), .int .i64 ((hgetV (asgS st k.v (strV ⟨#[110, 101, 119]⟩) 32 q) (hmakeV hp0 4) k.v).q), .string ((hgetV (asgS st k.v (strV ⟨#[110, 101, 119]⟩) 32 q) (hmakeV hp0 4) k.v).str), .int .i64 ((hgetV (asgS st k.v (strV ⟨#[110, 101, 119]⟩) 32 q) (hmakeV hp0 4) k.v).ref)]) ?_
       refine sp (.int .i64 (hgetE (asgS st k.v (strV ⟨#[110, 101, 119]⟩) 32 q) (hmakeV hp0 4))) ?_
       refine s_alloc (.agg #[.int .i64 0, .int .i64 0, .int .i64 0, .string ByteArray.empty, .int .i64 0]) #[.int .i64 0, .int .i64 0, .int .i64 0, .string ByteArray.empty, .int .i64 0] (fun g101 => ?_)
       refine s_store 0 #[.int .i64 ((hgetV (asgS st k.v (strV ⟨#[110, 101, 119]⟩) 32 q) (hmakeV hp0 4) k.v).kind), .int .i64 ((hgetV (asgS st k.v (strV ⟨#[110, 101, 119]⟩) 32 q) (hmakeV hp0 4) k.v).p), .int .i64 ((hgetV (asgS st k.v (strV ⟨#[110, 101, 119]⟩) 32 q) (hmakeV hp0 4) k.v).q), .string ((hgetV (asgS st k.v (strV ⟨#[110, 101, 119]⟩) 32 q) (hmakeV hp0 4) k.v).str), .int .i64 ((hgetV (asgS st k.v (strV ⟨#[110, 101, 119]⟩) 32 q) (hmakeV hp0 4) k.v).ref)] ?_
       refine sp (.int .i64 (hgetE (asgS st k.v (strV ⟨#[110, 101, 119]⟩) 32 q) (hmakeV hp0 4))) ?_
       refine s_nt ?_
       refine k_seq ?_
       refine k_sr ?_
       refine sp (.int .i64 (most : Int)) ?_
       refine s_lt (Lt.to t_cmp (congrArg Value.bool (decide_eq_false hbig : (decide ((32 : Int) < (most : Int))) = false))) ?_
       refine s_nt ?_
       refine k_false ?_
       refine k_st ?_
       refine k_seq ?_
       refine k_held [blkA g101 #[.int .i64 ((hgetV (asgS st k.v (strV ⟨#[110, 101, 119]⟩) 32 q) (hmakeV hp0 4) k.v).kind), .int .i64 ((hgetV (asgS st k.v (strV ⟨#[110, 101, 119]⟩) 32 q) (hmakeV hp0 4) k.v).p), .int .i64 ((hgetV (asgS st k.v (strV ⟨#[110, 101, 119]⟩) 32 q) (hmakeV hp0 4) k.v).q), .string ((hgetV (asgS st k.v (strV ⟨#[110, 101, 119]⟩) 32 q) (hmakeV hp0 4) k.v).str), .int .i64 ((hgetV (asgS st k.v (strV ⟨#[110, 101, 119]⟩) 32 q) (hmakeV hp0 4) k.v).ref)] 26, own VlT av99 ((asg st k.v (strV ⟨#[110, 101, 119]⟩) 32 q).args), blkA g98 #[.int .i64 ((asg st k.v (strV ⟨#[110, 101, 119]⟩) 32 q).kind), .int .i64 (((asg st k.v (strV ⟨#[110, 101, 119]⟩) 32 q).val).kind), .int .i64 (((asg st k.v (strV ⟨#[110, 101, 119]⟩) 32 q).val).p), .int .i64 (((asg st k.v (strV ⟨#[110, 101, 119]⟩) 32 q).val).q), .string (((asg st k.v (strV ⟨#[110, 101, 119]⟩) 32 q).val).str), .int .i64 (((asg st k.v (strV ⟨#[110, 101, 119]⟩) 32 q).val).ref), .int .i64 (((asg st k.v (strV ⟨#[110, 101, 119]⟩) 32 q).fn).kind), .int .i64 (((asg st k.v (strV ⟨#[110, 101, 119]⟩) 32 q).fn).p), .int .i64 (((asg st k.v (strV ⟨#[110, 101, 119]⟩) 32 q).fn).q), .string (((asg st k.v (strV ⟨#[110, 101, 119]⟩) 32 q).fn).str), .int .i64 (((asg st k.v (strV ⟨#[110, 101, 119]⟩) 32 q).fn).ref), av99, .int .i64 ((asg st k.v (strV ⟨#[110, 101, 119]⟩) 32 q).after), .string ((asg st k.v (strV ⟨#[110, 101, 119]⟩) 32 q).str)] 51, blkA g81 #[.int .i64 ((idx st k.v 32 q).kind), .int .i64 (((idx st k.v 32 q).val).kind), .int .i64 (((idx st k.v 32 q).val).p), .int .i64 (((idx st k.v 32 q).val).q), .string (((idx st k.v 32 q).val).str), .int .i64 (((idx st k.v 32 q).val).ref), .int .i64 (((idx st k.v 32 q).fn).kind), .int .i64 (((idx st k.v 32 q).fn).p), .int .i64 (((idx st k.v 32 q).fn).q), .string (((idx st k.v 32 q).fn).str), .int .i64 (((idx st k.v 32 q).fn).ref), av79, .int .i64 ((idx st k.v 32 q).after), .string ((idx st k.v 32 q).str)] 51, own VlT av79 ((idx st k.v 32 q).args), blkA g33 #[.int .i64 q.kind, .int .i64 q.p, .int .i64 q.q, .string q.str, .int .i64 q.ref] 26, blkA g30 #[.int .i64 ((hmakeV hp0 4).kind), .int .i64 ((hmakeV hp0 4).p), .int .i64 ((hmakeV hp0 4).q), .string ((hmakeV hp0 4).str), .int .i64 ((hmakeV hp0 4).ref)] 26, blkA g2 #[.int .i64 k.v.kind, .int .i64 k.v.p, .int .i64 k.v.q, .string k.v.str, .int .i64 k.v.ref] 26, blkA g1 #[.int .i64 k.v.kind, .int .i64 k.v.p, .int .i64 k.v.q, .string k.v.str, .int .i64 k.v.ref, .int .i64 k.obj] 28] ?_
       refine hp_ 0 [0, 1, 1, 1, 1, 1, 1, 1, 1] (pB g81 0) ?_
       refine h_l 1 rfl [0, 1, 1, 1, 1, 1, 1, 1, 1] (fun _ => (t_load 3 (.int .i64 ((idx st k.v 32 q).kind)))) ?_
       refine h_l 2 rfl [0, 1, 1, 1, 1, 1, 1, 1, 1] (fun _ => (Lt.to t_cmp (congrArg Value.bool (decide_eq_true (by rw [hcI]; rfl) : (decide ((idx st k.v 32 q).kind = 1)) = true)))) ?_
       refine hp_ 3 [0, 1, 1, 1, 1, 1, 1, 1, 1] (.bool true) ?_
       refine hp_ 4 [0, 1, 1, 1, 1, 1, 1, 1, 1] (pB g81 1) ?_
       refine h_l 5 rfl [0, 1, 1, 1, 1, 1, 1, 1, 1] (fun _ => (t_loadA 3 #[.int .i64 (((idx st k.v 32 q).val).kind), .int .i64 (((idx st k.v 32 q).val).p), .int .i64 (((idx st k.v 32 q).val).q), .string (((idx st k.v 32 q).val).str), .int .i64 (((idx st k.v 32 q).val).ref)])) ?_
       refine h_stepS 6 ?_
       refine s_vcall (fun _ h => lstr_s ⟨#[101, 110, 100]⟩) ?_
       rintro _ rfl
       refine s_nil (xs_held [0, 1, 1, 1, 1, 1, 1, 1, 1] ?_)
       refine h_l 7 rfl [0, 1, 1, 1, 1, 1, 1, 1, 1] (fun _ => (Lt.to (t_eqS (fun w => (eqVlT ((idx st k.v 32 q).val) (strV ⟨#[101, 110, 100]⟩) w).1)) (congrArg Value.bool (decide_eq_true (by rw [hcI]; rfl) : (decide (((idx st k.v 32 q).val) = (strV ⟨#[101, 110, 100]⟩))) = true)))) ?_
       refine hp_ 8 [0, 1, 1, 1, 1, 1, 1, 1, 1] (.bool true) ?_
       refine hp_ 9 [0, 1, 1, 1, 1, 1, 1, 1, 1] (.bool true) ?_
       refine hp_ 10 [0, 1, 1, 1, 1, 1, 1, 1, 1] (pB g98 0) ?_
       refine h_l 11 rfl [0, 1, 1, 1, 1, 1, 1, 1, 1] (fun _ => (t_load 2 (.int .i64 ((asg st k.v (strV ⟨#[110, 101, 119]⟩) 32 q).kind)))) ?_
       refine h_l 12 rfl [0, 1, 1, 1, 1, 1, 1, 1, 1] (fun _ => (Lt.to t_cmp (congrArg Value.bool (decide_eq_true (by rw [hcA]; rfl) : (decide ((asg st k.v (strV ⟨#[110, 101, 119]⟩) 32 q).kind = 1)) = true)))) ?_
       refine hp_ 13 [0, 1, 1, 1, 1, 1, 1, 1, 1] (.bool true) ?_
       refine hp_ 14 [0, 1, 1, 1, 1, 1, 1, 1, 1] (.bool true) ?_
       refine h_l 15 rfl [0, 1, 1, 1, 1, 1, 1, 1, 1] (fun _ => (t_loadA 0 #[.int .i64 ((hgetV (asgS st k.v (strV ⟨#[110, 101, 119]⟩) 32 q) (hmakeV hp0 4) k.v).kind), .int .i64 ((hgetV (asgS st k.v (strV ⟨#[110, 101, 119]⟩) 32 q) (hmakeV hp0 4) k.v).p), .int .i64 ((hgetV (asgS st k.v (strV ⟨#[110, 101, 119]⟩) 32 q) (hmakeV hp0 4) k.v).q), .string ((hgetV (asgS st k.v (strV ⟨#[110, 101, 119]⟩) 32 q) (hmakeV hp0 4) k.v).str), .int .i64 ((hgetV (asgS st k.v (strV ⟨#[110, 101, 119]⟩) 32 q) (hmakeV hp0 4) k.v).ref)])) ?_
       refine h_stepS 16 ?_
       refine s_vcall (fun _ h => lstr_s ⟨#[110, 101, 119]⟩) ?_
       rintro _ rfl
       refine s_nil (xs_held [0, 1, 1, 1, 1, 1, 1, 1, 1] ?_)
       refine h_l 17 rfl [0, 1, 1, 1, 1, 1, 1, 1, 1] (fun _ => (Lt.to (t_eqS (fun w => (eqVlT (hgetV (asgS st k.v (strV ⟨#[110, 101, 119]⟩) 32 q) (hmakeV hp0 4) k.v) (strV ⟨#[110, 101, 119]⟩) w).1)) (congrArg Value.bool (decide_eq_true (by rw [hcS]; exact zg3) : (decide ((hgetV (asgS st k.v (strV ⟨#[110, 101, 119]⟩) 32 q) (hmakeV hp0 4) k.v) = (strV ⟨#[110, 101, 119]⟩))) = true)))) ?_
       refine hp_ 18 [0, 1, 1, 1, 1, 1, 1, 1, 1] (.bool true) ?_
       refine hp_ 19 [0, 1, 1, 1, 1, 1, 1, 1, 1] (.bool true) ?_
       refine h_stepS 20 ?_
       refine s_vcall (fun _ h => lives_s) ?_
       rintro _ rfl
       refine s_nil (xs_held [0, 1, 1, 1, 1, 1, 1, 1, 1] ?_)
       refine hp_ 21 [0, 1, 1, 1, 1, 1, 1, 1, 1] (.bool true) ?_
       refine hp_ 22 [0, 1, 1, 1, 1, 1, 1, 1, 1] (.bool true) ?_
       refine h_doneS ?_
       refine xs_then ?_
       refine k_ret ?_
       exact xs_fin [.bool true] [] (SI.tmp 4 SI.nil) (fun _ h => h.re [] [0, 0, 0, 0, 0, 0, 0, 0, 0, 0]) ⟨rfl, rfl⟩
     ·
      refine s_alloc (.agg #[.int .i64 0, .int .i64 0, .int .i64 0, .int .i64 0, .string ByteArray.empty, .int .i64 0, .int .i64 0, .int .i64 0, .int .i64 0, .string ByteArray.empty, .int .i64 0, (.slice none 0 0), .int .i64 0, .string ByteArray.empty]) #[.int .i64 0, .int .i64 0, .int .i64 0, .int .i64 0, .string ByteArray.empty, .int .i64 0, .int .i64 0, .int .i64 0, .int .i64 0, .string ByteArray.empty, .int .i64 0, (.slice none 0 0), .int .i64 0, .string ByteArray.empty] (fun g102 => ?_)
      refine s_nil (xs_held [1, 1, 2, 2, 2, 2] ?_)
      refine h_stepS 3 ?_
      refine s_vcall (fun _ h => lstr_s ⟨#[110, 101, 119]⟩) ?_
      rintro _ rfl
      refine s_nil (xs_held [1, 1, 2, 2, 2, 2] ?_)
      refine h_stepS 4 ?_
      refine s_call [3] (assign_s (st := st) hs36 (by omega) q k.v (strV ⟨#[110, 101, 119]⟩)) ?_
      rintro _ _ ⟨av103, rfl, rfl⟩
      refine s_fact (fun H h => ((Acc.own (T := VlT) (L := (asg st k.v (strV ⟨#[110, 101, 119]⟩) 32 q).args) 0 rfl) H h).form) (fun hf104 => ?_)
      refine s_nil (xs_held [3, 3, 3, 3, 3, 3] ?_)
      refine h_stepS 6 ?_
      refine s_store (u := .agg #[.int .i64 ((asg st k.v (strV ⟨#[110, 101, 119]⟩) 32 q).kind), .int .i64 (((asg st k.v (strV ⟨#[110, 101, 119]⟩) 32 q).val).kind), .int .i64 (((asg st k.v (strV ⟨#[110, 101, 119]⟩) 32 q).val).p), .int .i64 (((asg st k.v (strV ⟨#[110, 101, 119]⟩) 32 q).val).q), .string (((asg st k.v (strV ⟨#[110, 101, 119]⟩) 32 q).val).str), .int .i64 (((asg st k.v (strV ⟨#[110, 101, 119]⟩) 32 q).val).ref), .int .i64 (((asg st k.v (strV ⟨#[110, 101, 119]⟩) 32 q).fn).kind), .int .i64 (((asg st k.v (strV ⟨#[110, 101, 119]⟩) 32 q).fn).p), .int .i64 (((asg st k.v (strV ⟨#[110, 101, 119]⟩) 32 q).fn).q), .string (((asg st k.v (strV ⟨#[110, 101, 119]⟩) 32 q).fn).str), .int .i64 (((asg st k.v (strV ⟨#[110, 101, 119]⟩) 32 q).fn).ref), av103, .int .i64 ((asg st k.v (strV ⟨#[110, 101, 119]⟩) 32 q).after), .string ((asg st k.v (strV ⟨#[110, 101, 119]⟩) 32 q).str)]) (m := 14) 2 #[.int .i64 ((asg st k.v (strV ⟨#[110, 101, 119]⟩) 32 q).kind), .int .i64 (((asg st k.v (strV ⟨#[110, 101, 119]⟩) 32 q).val).kind), .int .i64 (((asg st k.v (strV ⟨#[110, 101, 119]⟩) 32 q).val).p), .int .i64 (((asg st k.v (strV ⟨#[110, 101, 119]⟩) 32 q).val).q), .string (((asg st k.v (strV ⟨#[110, 101, 119]⟩) 32 q).val).str), .int .i64 (((asg st k.v (strV ⟨#[110, 101, 119]⟩) 32 q).val).ref), .int .i64 (((asg st k.v (strV ⟨#[110, 101, 119]⟩) 32 q).fn).kind), .int .i64 (((asg st k.v (strV ⟨#[110, 101, 119]⟩) 32 q).fn).p), .int .i64 (((asg st k.v (strV ⟨#[110, 101, 119]⟩) 32 q).fn).q), .string (((asg st k.v (strV ⟨#[110, 101, 119]⟩) 32 q).fn).str), .int .i64 (((asg st k.v (strV ⟨#[110, 101, 119]⟩) 32 q).fn).ref), av103, .int .i64 ((asg st k.v (strV ⟨#[110, 101, 119]⟩) 32 q).after), .string ((asg st k.v (strV ⟨#[110, 101, 119]⟩) 32 q).str)] ?_ (hm := by (obtain ⟨_, _, e⟩ := hf104; rw [e]; rfl)) (h1 := by (obtain ⟨_, _, e⟩ := hf104; rw [e]; rfl)) (ha' := by (obtain ⟨_, _, e⟩ := hf104; rw [e]; rfl))
      refine s_nil (xs_held [3, 3, 3, 3, 3, 3] ?_)
      refine h_doneS ?_
      refine xs_then ?_
      refine k_sr ?_
      refine sp (pB hb3 0) ?_
      refine s_lt (t_loadA 6 #[.int .i64 ((hmakeV hp0 4).kind), .int .i64 ((hmakeV hp0 4).p), .int .i64 ((hmakeV hp0 4).q), .string ((hmakeV hp0 4).str), .int .i64 ((hmakeV hp0 4).ref)]) ?_
      refine s_lt (t_loadA 7 #[.int .i64 k.v.kind, .int .i64 k.v.p, .int .i64 k.v.q, .string k.v.str, .int .i64 k.v.ref]) ?_
      refine s_call [1] (hget_s (st := (asgS st k.v (strV ⟨#[110, 101, 119]⟩) 32 q)) hag.2 (by omega) (hmakeV hp0 4) k.v) ?_
      rintro _ _ ⟨rfl, rfl⟩
      refine sp (.tuple #[.agg #[.int .i64 ((hgetV (asgS st k.v (strV ⟨#[110, 101, 119]⟩) 32 q) (hmakeV hp0 4) k.v).kind), .int .i64 ((hgetV (asgS st k.v (strV ⟨#[110, 101, 119]⟩) 32 q) (hmakeV hp0 4) k.v).p), .int .i64 ((hgetV (asgS st k.v (strV ⟨#[110, 101, 119]⟩) 32 q) (hmakeV hp0 4) k.v).q), .string ((hgetV (asgS st k.v (strV ⟨#[110, 101, 119]⟩) 32 q) (hmakeV hp0 4) k.v).str), .int .i64 ((hgetV (asgS st k.v (strV ⟨#[110, 101, 119]⟩) 32 q) (hmakeV hp0 4) k.v).ref)], .int .i64 (hgetE (asgS st k.v (strV ⟨#[110, 101, 119]⟩) 32 q) (hmakeV hp0 4))]) ?_
      refine sp (.agg #[.int .i64 ((hgetV (asgS st k.v (strV ⟨#[110, 101, 119]⟩) 32 q) (hmakeV hp0 4) k.v).kind), .int .i64 ((hgetV (asgS st k.v (strV ⟨#[110, 101, 119]⟩) 32 q) (hmakeV hp0 4) k.v).p), .int .i64 ((hgetV (asgS st k.v (strV ⟨#[110, 101, 119]⟩) 32 q) (hmakeV hp0 4) k.v).q), .string ((hgetV (asgS st k.v (strV ⟨#[110, 101, 119]⟩) 32 q) (hmakeV hp0 4) k.v).str), .int .i64 ((hgetV (asgS st k.v (strV ⟨#[110, 101, 119]⟩) 32 q) (hmakeV hp0 4) k.v).ref)]) ?_
      refine sp (.int .i64 (hgetE (asgS st k.v (strV ⟨#[110, 101, 119]⟩) 32 q) (hmakeV hp0 4))) ?_
      refine s_alloc (.agg #[.int .i64 0, .int .i64 0, .int .i64 0, .string ByteArray.empty, .int .i64 0]) #[.int .i64 0, .int .i64 0, .int .i64 0, .string ByteArray.empty, .int .i64 0] (fun g105 => ?_)
      refine s_store 0 #[.int .i64 ((hgetV (asgS st k.v (strV ⟨#[110, 101, 119]⟩) 32 q) (hmakeV hp0 4) k.v).kind), .int .i64 ((hgetV (asgS st k.v (strV ⟨#[110, 101, 119]⟩) 32 q) (hmakeV hp0 4) k.v).p), .int .i64 ((hgetV (asgS st k.v (strV ⟨#[110, 101, 119]⟩) 32 q) (hmakeV hp0 4) k.v).q), .string ((hgetV (asgS st k.v (strV ⟨#[110, 101, 119]⟩) 32 q) (hmakeV hp0 4) k.v).str), .int .i64 ((hgetV (asgS st k.v (strV ⟨#[110, 101, 119]⟩) 32 q) (hmakeV hp0 4) k.v).ref)] ?_
      refine sp (.int .i64 (hgetE (asgS st k.v (strV ⟨#[110, 101, 119]⟩) 32 q) (hmakeV hp0 4))) ?_
      refine s_nt ?_
      refine k_seq ?_
      refine k_sr ?_
      refine sp (.int .i64 (most : Int)) ?_
      refine s_lt (Lt.to t_cmp (congrArg Value.bool (decide_eq_false hbig : (decide ((32 : Int) < (most : Int))) = false))) ?_
      refine s_nt ?_
      refine k_false ?_
      refine k_st ?_
      refine k_seq ?_
      refine k_held [blkA g105 #[.int .i64 ((hgetV (asgS st k.v (strV ⟨#[110, 101, 119]⟩) 32 q) (hmakeV hp0 4) k.v).kind), .int .i64 ((hgetV (asgS st k.v (strV ⟨#[110, 101, 119]⟩) 32 q) (hmakeV hp0 4) k.v).p), .int .i64 ((hgetV (asgS st k.v (strV ⟨#[110, 101, 119]⟩) 32 q) (hmakeV hp0 4) k.v).q), .string ((hgetV (asgS st k.v (strV ⟨#[110, 101, 119]⟩) 32 q) (hmakeV hp0 4) k.v).str), .int .i64 ((hgetV (asgS st k.v (strV ⟨#[110, 101, 119]⟩) 32 q) (hmakeV hp0 4) k.v).ref)] 26, own VlT av103 ((asg st k.v (strV ⟨#[110, 101, 119]⟩) 32 q).args), blkA g102 #[.int .i64 ((asg st k.v (strV ⟨#[110, 101, 119]⟩) 32 q).kind), .int .i64 (((asg st k.v (strV ⟨#[110, 101, 119]⟩) 32 q).val).kind), .int .i64 (((asg st k.v (strV ⟨#[110, 101, 119]⟩) 32 q).val).p), .int .i64 (((asg st k.v (strV ⟨#[110, 101, 119]⟩) 32 q).val).q), .string (((asg st k.v (strV ⟨#[110, 101, 119]⟩) 32 q).val).str), .int .i64 (((asg st k.v (strV ⟨#[110, 101, 119]⟩) 32 q).val).ref), .int .i64 (((asg st k.v (strV ⟨#[110, 101, 119]⟩) 32 q).fn).kind), .int .i64 (((asg st k.v (strV ⟨#[110, 101, 119]⟩) 32 q).fn).p), .int .i64 (((asg st k.v (strV ⟨#[110, 101, 119]⟩) 32 q).fn).q), .string (((asg st k.v (strV ⟨#[110, 101, 119]⟩) 32 q).fn).str), .int .i64 (((asg st k.v (strV ⟨#[110, 101, 119]⟩) 32 q).fn).ref), av103, .int .i64 ((asg st k.v (strV ⟨#[110, 101, 119]⟩) 32 q).after), .string ((asg st k.v (strV ⟨#[110, 101, 119]⟩) 32 q).str)] 51, blkA g81 #[.int .i64 ((idx st k.v 32 q).kind), .int .i64 (((idx st k.v 32 q).val).kind), .int .i64 (((idx st k.v 32 q).val).p), .int .i64 (((idx st k.v 32 q).val).q), .string (((idx st k.v 32 q).val).str), .int .i64 (((idx st k.v 32 q).val).ref), .int .i64 (((idx st k.v 32 q).fn).kind), .int .i64 (((idx st k.v 32 q).fn).p), .int .i64 (((idx st k.v 32 q).fn).q), .string (((idx st k.v 32 q).fn).str), .int .i64 (((idx st k.v 32 q).fn).ref), av79, .int .i64 ((idx st k.v 32 q).after), .string ((idx st k.v 32 q).str)] 51, own VlT av79 ((idx st k.v 32 q).args), blkA g33 #[.int .i64 q.kind, .int .i64 q.p, .int .i64 q.q, .string q.str, .int .i64 q.ref] 26, blkA g30 #[.int .i64 ((hmakeV hp0 4).kind), .int .i64 ((hmakeV hp0 4).p), .int .i64 ((hmakeV hp0 4).q), .string ((hmakeV hp0 4).str), .int .i64 ((hmakeV hp0 4).ref)] 26, blkA g2 #[.int .i64 k.v.kind, .int .i64 k.v.p, .int .i64 k.v.q, .string k.v.str, .int .i64 k.v.ref] 26, blkA g1 #[.int .i64 k.v.kind, .int .i64 k.v.p, .int .i64 k.v.q, .string k.v.str, .int .i64 k.v.ref, .int .i64 k.obj] 28] ?_
      refine hp_ 0 [0, 1, 1, 1, 1, 1, 1, 1, 1] (pB g81 0) ?_
      refine h_l 1 rfl [0, 1, 1, 1, 1, 1, 1, 1, 1] (fun _ => (t_load 3 (.int .i64 ((idx st k.v 32 q).kind)))) ?_
      refine h_l 2 rfl [0, 1, 1, 1, 1, 1, 1, 1, 1] (fun _ => (Lt.to t_cmp (congrArg Value.bool (decide_eq_true (by rw [hcI]; rfl) : (decide ((idx st k.v 32 q).kind = 1)) = true)))) ?_
      refine hp_ 3 [0, 1, 1, 1, 1, 1, 1, 1, 1] (.bool true) ?_
      refine hp_ 4 [0, 1, 1, 1, 1, 1, 1, 1, 1] (pB g81 1) ?_
      refine h_l 5 rfl [0, 1, 1, 1, 1, 1, 1, 1, 1] (fun _ => (t_loadA 3 #[.int .i64 (((idx st k.v 32 q).val).kind), .int .i64 (((idx st k.v 32 q).val).p), .int .i64 (((idx st k.v 32 q).val).q), .string (((idx st k.v 32 q).val).str), .int .i64 (((idx st k.v 32 q).val).ref)])) ?_
      refine h_stepS 6 ?_
      refine s_vcall (fun _ h => lstr_s ⟨#[101, 110, 100]⟩) ?_
      rintro _ rfl
      refine s_nil (xs_held [0, 1, 1, 1, 1, 1, 1, 1, 1] ?_)
      refine h_l 7 rfl [0, 1, 1, 1, 1, 1, 1, 1, 1] (fun _ => (Lt.to (t_eqS (fun w => (eqVlT ((idx st k.v 32 q).val) (strV ⟨#[101, 110, 100]⟩) w).1)) (congrArg Value.bool (decide_eq_true (by rw [hcI]; rfl) : (decide (((idx st k.v 32 q).val) = (strV ⟨#[101, 110, 100]⟩))) = true)))) ?_
      refine hp_ 8 [0, 1, 1, 1, 1, 1, 1, 1, 1] (.bool true) ?_
      refine hp_ 9 [0, 1, 1, 1, 1, 1, 1, 1, 1] (.bool true) ?_
      refine hp_ 10 [0, 1, 1, 1, 1, 1, 1, 1, 1] (pB g102 0) ?_
      refine h_l 11 rfl [0, 1, 1, 1, 1, 1, 1, 1, 1] (fun _ => (t_load 2 (.int .i64 ((asg st k.v (strV ⟨#[110, 101, 119]⟩) 32 q).kind)))) ?_
      refine h_l 12 rfl [0, 1, 1, 1, 1, 1, 1, 1, 1] (fun _ => (Lt.to t_cmp (congrArg Value.bool (decide_eq_true (by rw [hcA]; rfl) : (decide ((asg st k.v (strV ⟨#[110, 101, 119]⟩) 32 q).kind = 1)) = true)))) ?_
      refine hp_ 13 [0, 1, 1, 1, 1, 1, 1, 1, 1] (.bool true) ?_
      refine hp_ 14 [0, 1, 1, 1, 1, 1, 1, 1, 1] (.bool true) ?_
      refine h_l 15 rfl [0, 1, 1, 1, 1, 1, 1, 1, 1] (fun _ => (t_loadA 0 #[.int .i64 ((hgetV (asgS st k.v (strV ⟨#[110, 101, 119]⟩) 32 q) (hmakeV hp0 4) k.v).kind), .int .i64 ((hgetV (asgS st k.v (strV ⟨#[110, 101, 119]⟩) 32 q) (hmakeV hp0 4) k.v).p), .int .i64 ((hgetV (asgS st k.v (strV ⟨#[110, 101, 119]⟩) 32 q) (hmakeV hp0 4) k.v).q), .string ((hgetV (asgS st k.v (strV ⟨#[110, 101, 119]⟩) 32 q) (hmakeV hp0 4) k.v).str), .int .i64 ((hgetV (asgS st k.v (strV ⟨#[110, 101, 119]⟩) 32 q) (hmakeV hp0 4) k.v).ref)])) ?_
      refine h_stepS 16 ?_
      refine s_vcall (fun _ h => lstr_s ⟨#[110, 101, 119]⟩) ?_
      rintro _ rfl
      refine s_nil (xs_held [0, 1, 1, 1, 1, 1, 1, 1, 1] ?_)
      refine h_l 17 rfl [0, 1, 1, 1, 1, 1, 1, 1, 1] (fun _ => (Lt.to (t_eqS (fun w => (eqVlT (hgetV (asgS st k.v (strV ⟨#[110, 101, 119]⟩) 32 q) (hmakeV hp0 4) k.v) (strV ⟨#[110, 101, 119]⟩) w).1)) (congrArg Value.bool (decide_eq_true (by rw [hcS]; exact zg3) : (decide ((hgetV (asgS st k.v (strV ⟨#[110, 101, 119]⟩) 32 q) (hmakeV hp0 4) k.v) = (strV ⟨#[110, 101, 119]⟩))) = true)))) ?_
      refine hp_ 18 [0, 1, 1, 1, 1, 1, 1, 1, 1] (.bool true) ?_
      refine hp_ 19 [0, 1, 1, 1, 1, 1, 1, 1, 1] (.bool true) ?_
      refine h_stepS 20 ?_
      refine s_vcall (fun _ h => lives_s) ?_
      rintro _ rfl
      refine s_nil (xs_held [0, 1, 1, 1, 1, 1, 1, 1, 1] ?_)
      refine hp_ 21 [0, 1, 1, 1, 1, 1, 1, 1, 1] (.bool true) ?_
      refine hp_ 22 [0, 1, 1, 1, 1, 1, 1, 1, 1] (.bool true) ?_
      refine h_doneS ?_
      refine xs_then ?_
      refine k_ret ?_
      exact xs_fin [.bool true] [] (SI.tmp 4 SI.nil) (fun _ h => h.re [] [0, 0, 0, 0, 0, 0, 0, 0, 0, 0]) ⟨rfl, rfl⟩
end Go.Proofs.Ytplkkhpokodbmaa
