/-
  Layer 15: what indexing needs. Each law says its conditions.
-/
import Derived.Test.YtplkkhpokodbmaaW11
set_option linter.unusedSimpArgs false
set_option linter.unusedVariables false
set_option maxRecDepth 100000
set_option maxHeartbeats 2000000
namespace Go.Proofs.Ytplkkhpokodbmaa
open Go.Hp Go.J Go.S
open Go.Mem (Ty KTy blk elemAt pre suf blk_pre blk_suf aget aset strK aggDesc)
open Go.Mem (adel apos aget_aset aget_adel)
/-- Where indexing settles. -/
def stl (st : Hst) (k v f : Vl) : Nd × Bool :=
  if v.kind = 4 then (giveN (hgetV st v k), decide ((hgetV st v k).kind ≠ 0) || decide (f.kind = 0)) else
  if v.kind = 3 then (giveN (methV k), true) else (zNd, false)
theorem stl_args {st : Hst} {k v f : Vl} : (stl st k v f).1.args = [] := by
  unfold stl; split
  · rfl
  · split <;> rfl
abbrev idx (st : Hst) (k : Vl) (n : Nat) (v : Vl) : Nd := chn (stl st k) (fun v f => callN f 1 [v, k]) (fun v => hdl st v ⟨#[95, 95, 105, 110, 100, 101, 120]⟩) n v
theorem meth_s {Z : Zone} (k : Vl) : SF Try.prog 55 #[k.v] Z [] fun r Bs => r = (methV k).v ∧ Bs = [] := by
 refine sf_enter Try.func55 27 [(0, .agg #[.int .i64 k.kind, .int .i64 k.p, .int .i64 k.q, .string k.str, .int .i64 k.ref])] (fun w0 => ?_)
 refine k_sr ?_
 refine s_box #[.int .i64 k.kind, .int .i64 k.p, .int .i64 k.q, .string k.str, .int .i64 k.ref] (fun g1 => ?_)
 refine s_alloc (.agg #[.int .i64 0, .int .i64 0, .int .i64 0, .string ByteArray.empty, .int .i64 0]) #[.int .i64 0, .int .i64 0, .int .i64 0, .string ByteArray.empty, .int .i64 0] (fun g2 => ?_)
 refine s_nt ?_
 refine k_seq ?_
 refine k_sr ?_
 refine sp (pB g1 0) ?_
 refine s_lt (t_load 1 (.int .i64 k.kind)) ?_
 refine s_lt t_cmp ?_
 refine s_nt ?_
 refine k_cond (decide (k.kind = 3)) (fun c3 => ?_) (fun c3 => ?_)
 ·
  have p4 := of_decide_eq_true c3
  refine k_sr ?_
  refine sp (pB g1 3) ?_
  refine s_lt (t_load 1 (.string k.str)) ?_
  refine s_nt ?_
  refine k_block ?_
  refine k_cut (ι := Unit) (fun _ => True) (fun _ => [(1, pB g1 0), (2, pB g2 0), (8, .bool ((decide (k.str = ⟨#[98, 121, 116, 101]⟩)) || ((decide (k.str = ⟨#[99, 104, 97, 114]⟩)) || ((decide (k.str = ⟨#[102, 105, 110, 100]⟩)) || ((decide (k.str = ⟨#[102, 111, 114, 109, 97, 116]⟩)) || ((decide (k.str = ⟨#[103, 109, 97, 116, 99, 104]⟩)) || ((decide (k.str = ⟨#[103, 115, 117, 98]⟩)) || ((decide (k.str = ⟨#[108, 101, 110]⟩)) || ((decide (k.str = ⟨#[108, 111, 119, 101, 114]⟩)) || ((decide (k.str = ⟨#[109, 97, 116, 99, 104]⟩)) || ((decide (k.str = ⟨#[114, 101, 112]⟩)) || ((decide (k.str = ⟨#[114, 101, 118, 101, 114, 115, 101]⟩)) || ((decide (k.str = ⟨#[115, 117, 98]⟩)) || (decide (k.str = ⟨#[117, 112, 112, 101, 114]⟩)))))))))))))))]) (fun _ => [blkA g2 #[.int .i64 0, .int .i64 0, .int .i64 0, .string ByteArray.empty, .int .i64 0] 26, blkA g1 #[.int .i64 k.kind, .int .i64 k.p, .int .i64 k.q, .string k.str, .int .i64 k.ref] 26]) ?_ (fun _ _ => ?_)
  ·
   refine k_sr ?_
   refine s_lt t_cmpS ?_
   refine sp (.bool (decide (k.str = ⟨#[98, 121, 116, 101]⟩))) ?_
   refine s_nt ?_
   refine k_cond (decide (k.str = ⟨#[98, 121, 116, 101]⟩)) (fun c5 => ?_) (fun c5 => ?_)
   ·
    have p6 := of_decide_eq_true c5
    refine k_skip ?_
    exact xs_cut () trivial (sub_of rfl ⟨⟨rfl, rfl⟩, ⟨⟨rfl, rfl⟩, ⟨⟨rfl, show Value.bool (decide (k.str = ⟨#[98, 121, 116, 101]⟩)) = Value.bool ((decide (k.str = ⟨#[98, 121, 116, 101]⟩)) || ((decide (k.str = ⟨#[99, 104, 97, 114]⟩)) || ((decide (k.str = ⟨#[102, 105, 110, 100]⟩)) || ((decide (k.str = ⟨#[102, 111, 114, 109, 97, 116]⟩)) || ((decide (k.str = ⟨#[103, 109, 97, 116, 99, 104]⟩)) || ((decide (k.str = ⟨#[103, 115, 117, 98]⟩)) || ((decide (k.str = ⟨#[108, 101, 110]⟩)) || ((decide (k.str = ⟨#[108, 111, 119, 101, 114]⟩)) || ((decide (k.str = ⟨#[109, 97, 116, 99, 104]⟩)) || ((decide (k.str = ⟨#[114, 101, 112]⟩)) || ((decide (k.str = ⟨#[114, 101, 118, 101, 114, 115, 101]⟩)) || ((decide (k.str = ⟨#[115, 117, 98]⟩)) || (decide (k.str = ⟨#[117, 112, 112, 101, 114]⟩)))))))))))))) by first | (simp only [c5, bls]; done) | simp [c5]⟩, trivial⟩⟩⟩) (fun _ h => h.re [0, 0] [])
   ·
    have p7 := of_decide_eq_false c5
    refine k_sr ?_
    refine s_lt t_cmpS ?_
    refine sp (.bool (decide (k.str = ⟨#[99, 104, 97, 114]⟩))) ?_
    refine s_nt ?_
    refine k_cond (decide (k.str = ⟨#[99, 104, 97, 114]⟩)) (fun c8 => ?_) (fun c8 => ?_)
    ·
     have p9 := of_decide_eq_true c8
     refine k_skip ?_
     exact xs_cut () trivial (sub_of rfl ⟨⟨rfl, rfl⟩, ⟨⟨rfl, rfl⟩, ⟨⟨rfl, show Value.bool (decide (k.str = ⟨#[99, 104, 97, 114]⟩)) = Value.bool ((decide (k.str = ⟨#[98, 121, 116, 101]⟩)) || ((decide (k.str = ⟨#[99, 104, 97, 114]⟩)) || ((decide (k.str = ⟨#[102, 105, 110, 100]⟩)) || ((decide (k.str = ⟨#[102, 111, 114, 109, 97, 116]⟩)) || ((decide (k.str = ⟨#[103, 109, 97, 116, 99, 104]⟩)) || ((decide (k.str = ⟨#[103, 115, 117, 98]⟩)) || ((decide (k.str = ⟨#[108, 101, 110]⟩)) || ((decide (k.str = ⟨#[108, 111, 119, 101, 114]⟩)) || ((decide (k.str = ⟨#[109, 97, 116, 99, 104]⟩)) || ((decide (k.str = ⟨#[114, 101, 112]⟩)) || ((decide (k.str = ⟨#[114, 101, 118, 101, 114, 115, 101]⟩)) || ((decide (k.str = ⟨#[115, 117, 98]⟩)) || (decide (k.str = ⟨#[117, 112, 112, 101, 114]⟩)))))))))))))) by first | (simp only [c5, c8, bls]; done) | simp [c5, c8]⟩, trivial⟩⟩⟩) (fun _ h => h.re [0, 0] [])
    ·
     have p10 := of_decide_eq_false c8
     refine k_sr ?_
     refine s_lt t_cmpS ?_
     refine sp (.bool (decide (k.str = ⟨#[102, 105, 110, 100]⟩))) ?_
     refine s_nt ?_
     refine k_cond (decide (k.str = ⟨#[102, 105, 110, 100]⟩)) (fun c11 => ?_) (fun c11 => ?_)
     ·
      have p12 := of_decide_eq_true c11
      refine k_skip ?_
      exact xs_cut () trivial (sub_of rfl ⟨⟨rfl, rfl⟩, ⟨⟨rfl, rfl⟩, ⟨⟨rfl, show Value.bool (decide (k.str = ⟨#[102, 105, 110, 100]⟩)) = Value.bool ((decide (k.str = ⟨#[98, 121, 116, 101]⟩)) || ((decide (k.str = ⟨#[99, 104, 97, 114]⟩)) || ((decide (k.str = ⟨#[102, 105, 110, 100]⟩)) || ((decide (k.str = ⟨#[102, 111, 114, 109, 97, 116]⟩)) || ((decide (k.str = ⟨#[103, 109, 97, 116, 99, 104]⟩)) || ((decide (k.str = ⟨#[103, 115, 117, 98]⟩)) || ((decide (k.str = ⟨#[108, 101, 110]⟩)) || ((decide (k.str = ⟨#[108, 111, 119, 101, 114]⟩)) || ((decide (k.str = ⟨#[109, 97, 116, 99, 104]⟩)) || ((decide (k.str = ⟨#[114, 101, 112]⟩)) || ((decide (k.str = ⟨#[114, 101, 118, 101, 114, 115, 101]⟩)) || ((decide (k.str = ⟨#[115, 117, 98]⟩)) || (decide (k.str = ⟨#[117, 112, 112, 101, 114]⟩)))))))))))))) by first | (simp only [c5, c8, c11, bls]; done) | simp [c5, c8, c11]⟩, trivial⟩⟩⟩) (fun _ h => h.re [0, 0] [])
     ·
      have p13 := of_decide_eq_false c11
      refine k_sr ?_
      refine s_lt t_cmpS ?_
      refine sp (.bool (decide (k.str = ⟨#[102, 111, 114, 109, 97, 116]⟩))) ?_
      refine s_nt ?_
      refine k_cond (decide (k.str = ⟨#[102, 111, 114, 109, 97, 116]⟩)) (fun c14 => ?_) (fun c14 => ?_)
      ·
       have p15 := of_decide_eq_true c14
       refine k_skip ?_
       exact xs_cut () trivial (sub_of rfl ⟨⟨rfl, rfl⟩, ⟨⟨rfl, rfl⟩, ⟨⟨rfl, show Value.bool (decide (k.str = ⟨#[102, 111, 114, 109, 97, 116]⟩)) = Value.bool ((decide (k.str = ⟨#[98, 121, 116, 101]⟩)) || ((decide (k.str = ⟨#[99, 104, 97, 114]⟩)) || ((decide (k.str = ⟨#[102, 105, 110, 100]⟩)) || ((decide (k.str = ⟨#[102, 111, 114, 109, 97, 116]⟩)) || ((decide (k.str = ⟨#[103, 109, 97, 116, 99, 104]⟩)) || ((decide (k.str = ⟨#[103, 115, 117, 98]⟩)) || ((decide (k.str = ⟨#[108, 101, 110]⟩)) || ((decide (k.str = ⟨#[108, 111, 119, 101, 114]⟩)) || ((decide (k.str = ⟨#[109, 97, 116, 99, 104]⟩)) || ((decide (k.str = ⟨#[114, 101, 112]⟩)) || ((decide (k.str = ⟨#[114, 101, 118, 101, 114, 115, 101]⟩)) || ((decide (k.str = ⟨#[115, 117, 98]⟩)) || (decide (k.str = ⟨#[117, 112, 112, 101, 114]⟩)))))))))))))) by first | (simp only [c5, c8, c11, c14, bls]; done) | simp [c5, c8, c11, c14]⟩, trivial⟩⟩⟩) (fun _ h => h.re [0, 0] [])
      ·
       have p16 := of_decide_eq_false c14
       refine k_sr ?_
       refine s_lt t_cmpS ?_
       refine sp (.bool (decide (k.str = ⟨#[103, 109, 97, 116, 99, 104]⟩))) ?_
       refine s_nt ?_
       refine k_cond (decide (k.str = ⟨#[103, 109, 97, 116, 99, 104]⟩)) (fun c17 => ?_) (fun c17 => ?_)
       ·
        have p18 := of_decide_eq_true c17
        refine k_skip ?_
        exact xs_cut () trivial (sub_of rfl ⟨⟨rfl, rfl⟩, ⟨⟨rfl, rfl⟩, ⟨⟨rfl, show Value.bool (decide (k.str = ⟨#[103, 109, 97, 116, 99, 104]⟩)) = Value.bool ((decide (k.str = ⟨#[98, 121, 116, 101]⟩)) || ((decide (k.str = ⟨#[99, 104, 97, 114]⟩)) || ((decide (k.str = ⟨#[102, 105, 110, 100]⟩)) || ((decide (k.str = ⟨#[102, 111, 114, 109, 97, 116]⟩)) || ((decide (k.str = ⟨#[103, 109, 97, 116, 99, 104]⟩)) || ((decide (k.str = ⟨#[103, 115, 117, 98]⟩)) || ((decide (k.str = ⟨#[108, 101, 110]⟩)) || ((decide (k.str = ⟨#[108, 111, 119, 101, 114]⟩)) || ((decide (k.str = ⟨#[109, 97, 116, 99, 104]⟩)) || ((decide (k.str = ⟨#[114, 101, 112]⟩)) || ((decide (k.str = ⟨#[114, 101, 118, 101, 114, 115, 101]⟩)) || ((decide (k.str = ⟨#[115, 117, 98]⟩)) || (decide (k.str = ⟨#[117, 112, 112, 101, 114]⟩)))))))))))))) by first | (simp only [c5, c8, c11, c14, c17, bls]; done) | simp [c5, c8, c11, c14, c17]⟩, trivial⟩⟩⟩) (fun _ h => h.re [0, 0] [])
       ·
        have p19 := of_decide_eq_false c17
        refine k_sr ?_
        refine s_lt t_cmpS ?_
        refine sp (.bool (decide (k.str = ⟨#[103, 115, 117, 98]⟩))) ?_
        refine s_nt ?_
        refine k_cond (decide (k.str = ⟨#[103, 115, 117, 98]⟩)) (fun c20 => ?_) (fun c20 => ?_)
        ·
         have p21 := of_decide_eq_true c20
         refine k_skip ?_
         exact xs_cut () trivial (sub_of rfl ⟨⟨rfl, rfl⟩, ⟨⟨rfl, rfl⟩, ⟨⟨rfl, show Value.bool (decide (k.str = ⟨#[103, 115, 117, 98]⟩)) = Value.bool ((decide (k.str = ⟨#[98, 121, 116, 101]⟩)) || ((decide (k.str = ⟨#[99, 104, 97, 114]⟩)) || ((decide (k.str = ⟨#[102, 105, 110, 100]⟩)) || ((decide (k.str = ⟨#[102, 111, 114, 109, 97, 116]⟩)) || ((decide (k.str = ⟨#[103, 109, 97, 116, 99, 104]⟩)) || ((decide (k.str = ⟨#[103, 115, 117, 98]⟩)) || ((decide (k.str = ⟨#[108, 101, 110]⟩)) || ((decide (k.str = ⟨#[108, 111, 119, 101, 114]⟩)) || ((decide (k.str = ⟨#[109, 97, 116, 99, 104]⟩)) || ((decide (k.str = ⟨#[114, 101, 112]⟩)) || ((decide (k.str = ⟨#[114, 101, 118, 101, 114, 115, 101]⟩)) || ((decide (k.str = ⟨#[115, 117, 98]⟩)) || (decide (k.str = ⟨#[117, 112, 112, 101, 114]⟩)))))))))))))) by first | (simp only [c5, c8, c11, c14, c17, c20, bls]; done) | simp [c5, c8, c11, c14, c17, c20]⟩, trivial⟩⟩⟩) (fun _ h => h.re [0, 0] [])
        ·
         have p22 := of_decide_eq_false c20
         refine k_sr ?_
         refine s_lt t_cmpS ?_
         refine sp (.bool (decide (k.str = ⟨#[108, 101, 110]⟩))) ?_
         refine s_nt ?_
         refine k_cond (decide (k.str = ⟨#[108, 101, 110]⟩)) (fun c23 => ?_) (fun c23 => ?_)
         ·
          have p24 := of_decide_eq_true c23
          refine k_skip ?_
          exact xs_cut () trivial (sub_of rfl ⟨⟨rfl, rfl⟩, ⟨⟨rfl, rfl⟩, ⟨⟨rfl, show Value.bool (decide (k.str = ⟨#[108, 101, 110]⟩)) = Value.bool ((decide (k.str = ⟨#[98, 121, 116, 101]⟩)) || ((decide (k.str = ⟨#[99, 104, 97, 114]⟩)) || ((decide (k.str = ⟨#[102, 105, 110, 100]⟩)) || ((decide (k.str = ⟨#[102, 111, 114, 109, 97, 116]⟩)) || ((decide (k.str = ⟨#[103, 109, 97, 116, 99, 104]⟩)) || ((decide (k.str = ⟨#[103, 115, 117, 98]⟩)) || ((decide (k.str = ⟨#[108, 101, 110]⟩)) || ((decide (k.str = ⟨#[108, 111, 119, 101, 114]⟩)) || ((decide (k.str = ⟨#[109, 97, 116, 99, 104]⟩)) || ((decide (k.str = ⟨#[114, 101, 112]⟩)) || ((decide (k.str = ⟨#[114, 101, 118, 101, 114, 115, 101]⟩)) || ((decide (k.str = ⟨#[115, 117, 98]⟩)) || (decide (k.str = ⟨#[117, 112, 112, 101, 114]⟩)))))))))))))) by first | (simp only [c5, c8, c11, c14, c17, c20, c23, bls]; done) | simp [c5, c8, c11, c14, c17, c20, c23]⟩, trivial⟩⟩⟩) (fun _ h => h.re [0, 0] [])
         ·
          have p25 := of_decide_eq_false c23
          refine k_sr ?_
          refine s_lt t_cmpS ?_
          refine sp (.bool (decide (k.str = ⟨#[108, 111, 119, 101, 114]⟩))) ?_
          refine s_nt ?_
          refine k_cond (decide (k.str = ⟨#[108, 111, 119, 101, 114]⟩)) (fun c26 => ?_) (fun c26 => ?_)
          ·
           have p27 := of_decide_eq_true c26
           refine k_skip ?_
           exact xs_cut () trivial (sub_of rfl ⟨⟨rfl, rfl⟩, ⟨⟨rfl, rfl⟩, ⟨⟨rfl, show Value.bool (decide (k.str = ⟨#[108, 111, 119, 101, 114]⟩)) = Value.bool ((decide (k.str = ⟨#[98, 121, 116, 101]⟩)) || ((decide (k.str = ⟨#[99, 104, 97, 114]⟩)) || ((decide (k.str = ⟨#[102, 105, 110, 100]⟩)) || ((decide (k.str = ⟨#[102, 111, 114, 109, 97, 116]⟩)) || ((decide (k.str = ⟨#[103, 109, 97, 116, 99, 104]⟩)) || ((decide (k.str = ⟨#[103, 115, 117, 98]⟩)) || ((decide (k.str = ⟨#[108, 101, 110]⟩)) || ((decide (k.str = ⟨#[108, 111, 119, 101, 114]⟩)) || ((decide (k.str = ⟨#[109, 97, 116, 99, 104]⟩)) || ((decide (k.str = ⟨#[114, 101, 112]⟩)) || ((decide (k.str = ⟨#[114, 101, 118, 101, 114, 115, 101]⟩)) || ((decide (k.str = ⟨#[115, 117, 98]⟩)) || (decide (k.str = ⟨#[117, 112, 112, 101, 114]⟩)))))))))))))) by first | (simp only [c5, c8, c11, c14, c17, c20, c23, c26, bls]; done) | simp [c5, c8, c11, c14, c17, c20, c23, c26]⟩, trivial⟩⟩⟩) (fun _ h => h.re [0, 0] [])
          ·
           have p28 := of_decide_eq_false c26
           refine k_sr ?_
           refine s_lt t_cmpS ?_
           refine sp (.bool (decide (k.str = ⟨#[109, 97, 116, 99, 104]⟩))) ?_
           refine s_nt ?_
           refine k_cond (decide (k.str = ⟨#[109, 97, 116, 99, 104]⟩)) (fun c29 => ?_) (fun c29 => ?_)
           ·
            have p30 := of_decide_eq_true c29
            refine k_skip ?_
            exact xs_cut () trivial (sub_of rfl ⟨⟨rfl, rfl⟩, ⟨⟨rfl, rfl⟩, ⟨⟨rfl, show Value.bool (decide (k.str = ⟨#[109, 97, 116, 99, 104]⟩)) = Value.bool ((decide (k.str = ⟨#[98, 121, 116, 101]⟩)) || ((decide (k.str = ⟨#[99, 104, 97, 114]⟩)) || ((decide (k.str = ⟨#[102, 105, 110, 100]⟩)) || ((decide (k.str = ⟨#[102, 111, 114, 109, 97, 116]⟩)) || ((decide (k.str = ⟨#[103, 109, 97, 116, 99, 104]⟩)) || ((decide (k.str = ⟨#[103, 115, 117, 98]⟩)) || ((decide (k.str = ⟨#[108, 101, 110]⟩)) || ((decide (k.str = ⟨#[108, 111, 119, 101, 114]⟩)) || ((decide (k.str = ⟨#[109, 97, 116, 99, 104]⟩)) || ((decide (k.str = ⟨#[114, 101, 112]⟩)) || ((decide (k.str = ⟨#[114, 101, 118, 101, 114, 115, 101]⟩)) || ((decide (k.str = ⟨#[115, 117, 98]⟩)) || (decide (k.str = ⟨#[117, 112, 112, 101, 114]⟩)))))))))))))) by first | (simp only [c5, c8, c11, c14, c17, c20, c23, c26, c29, bls]; done) | simp [c5, c8, c11, c14, c17, c20, c23, c26, c29]⟩, trivial⟩⟩⟩) (fun _ h => h.re [0, 0] [])
           ·
            have p31 := of_decide_eq_false c29
            refine k_sr ?_
            refine s_lt t_cmpS ?_
            refine sp (.bool (decide (k.str = ⟨#[114, 101, 112]⟩))) ?_
            refine s_nt ?_
            refine k_cond (decide (k.str = ⟨#[114, 101, 112]⟩)) (fun c32 => ?_) (fun c32 => ?_)
            ·
             have p33 := of_decide_eq_true c32
             refine k_skip ?_
             exact xs_cut () trivial (sub_of rfl ⟨⟨rfl, rfl⟩, ⟨⟨rfl, rfl⟩, ⟨⟨rfl, show Value.bool (decide (k.str = ⟨#[114, 101, 112]⟩)) = Value.bool ((decide (k.str = ⟨#[98, 121, 116, 101]⟩)) || ((decide (k.str = ⟨#[99, 104, 97, 114]⟩)) || ((decide (k.str = ⟨#[102, 105, 110, 100]⟩)) || ((decide (k.str = ⟨#[102, 111, 114, 109, 97, 116]⟩)) || ((decide (k.str = ⟨#[103, 109, 97, 116, 99, 104]⟩)) || ((decide (k.str = ⟨#[103, 115, 117, 98]⟩)) || ((decide (k.str = ⟨#[108, 101, 110]⟩)) || ((decide (k.str = ⟨#[108, 111, 119, 101, 114]⟩)) || ((decide (k.str = ⟨#[109, 97, 116, 99, 104]⟩)) || ((decide (k.str = ⟨#[114, 101, 112]⟩)) || ((decide (k.str = ⟨#[114, 101, 118, 101, 114, 115, 101]⟩)) || ((decide (k.str = ⟨#[115, 117, 98]⟩)) || (decide (k.str = ⟨#[117, 112, 112, 101, 114]⟩)))))))))))))) by first | (simp only [c5, c8, c11, c14, c17, c20, c23, c26, c29, c32, bls]; done) | simp [c5, c8, c11, c14, c17, c20, c23, c26, c29, c32]⟩, trivial⟩⟩⟩) (fun _ h => h.re [0, 0] [])
            ·
             have p34 := of_decide_eq_false c32
             refine k_sr ?_
             refine s_lt t_cmpS ?_
             refine sp (.bool (decide (k.str = ⟨#[114, 101, 118, 101, 114, 115, 101]⟩))) ?_
             refine s_nt ?_
             refine k_cond (decide (k.str = ⟨#[114, 101, 118, 101, 114, 115, 101]⟩)) (fun c35 => ?_) (fun c35 => ?_)
             ·
              have p36 := of_decide_eq_true c35
              refine k_skip ?_
              exact xs_cut () trivial (sub_of rfl ⟨⟨rfl, rfl⟩, ⟨⟨rfl, rfl⟩, ⟨⟨rfl, show Value.bool (decide (k.str = ⟨#[114, 101, 118, 101, 114, 115, 101]⟩)) = Value.bool ((decide (k.str = ⟨#[98, 121, 116, 101]⟩)) || ((decide (k.str = ⟨#[99, 104, 97, 114]⟩)) || ((decide (k.str = ⟨#[102, 105, 110, 100]⟩)) || ((decide (k.str = ⟨#[102, 111, 114, 109, 97, 116]⟩)) || ((decide (k.str = ⟨#[103, 109, 97, 116, 99, 104]⟩)) || ((decide (k.str = ⟨#[103, 115, 117, 98]⟩)) || ((decide (k.str = ⟨#[108, 101, 110]⟩)) || ((decide (k.str = ⟨#[108, 111, 119, 101, 114]⟩)) || ((decide (k.str = ⟨#[109, 97, 116, 99, 104]⟩)) || ((decide (k.str = ⟨#[114, 101, 112]⟩)) || ((decide (k.str = ⟨#[114, 101, 118, 101, 114, 115, 101]⟩)) || ((decide (k.str = ⟨#[115, 117, 98]⟩)) || (decide (k.str = ⟨#[117, 112, 112, 101, 114]⟩)))))))))))))) by first | (simp only [c5, c8, c11, c14, c17, c20, c23, c26, c29, c32, c35, bls]; done) | simp [c5, c8, c11, c14, c17, c20, c23, c26, c29, c32, c35]⟩, trivial⟩⟩⟩) (fun _ h => h.re [0, 0] [])
             ·
              have p37 := of_decide_eq_false c35
              refine k_sr ?_
              refine s_lt t_cmpS ?_
              refine sp (.bool (decide (k.str = ⟨#[115, 117, 98]⟩))) ?_
              refine s_nt ?_
              refine k_cond (decide (k.str = ⟨#[115, 117, 98]⟩)) (fun c38 => ?_) (fun c38 => ?_)
              ·
               have p39 := of_decide_eq_true c38
               refine k_skip ?_
               exact xs_cut () trivial (sub_of rfl ⟨⟨rfl, rfl⟩, ⟨⟨rfl, rfl⟩, ⟨⟨rfl, show Value.bool (decide (k.str = ⟨#[115, 117, 98]⟩)) = Value.bool ((decide (k.str = ⟨#[98, 121, 116, 101]⟩)) || ((decide (k.str = ⟨#[99, 104, 97, 114]⟩)) || ((decide (k.str = ⟨#[102, 105, 110, 100]⟩)) || ((decide (k.str = ⟨#[102, 111, 114, 109, 97, 116]⟩)) || ((decide (k.str = ⟨#[103, 109, 97, 116, 99, 104]⟩)) || ((decide (k.str = ⟨#[103, 115, 117, 98]⟩)) || ((decide (k.str = ⟨#[108, 101, 110]⟩)) || ((decide (k.str = ⟨#[108, 111, 119, 101, 114]⟩)) || ((decide (k.str = ⟨#[109, 97, 116, 99, 104]⟩)) || ((decide (k.str = ⟨#[114, 101, 112]⟩)) || ((decide (k.str = ⟨#[114, 101, 118, 101, 114, 115, 101]⟩)) || ((decide (k.str = ⟨#[115, 117, 98]⟩)) || (decide (k.str = ⟨#[117, 112, 112, 101, 114]⟩)))))))))))))) by first | (simp only [c5, c8, c11, c14, c17, c20, c23, c26, c29, c32, c35, c38, bls]; done) | simp [c5, c8, c11, c14, c17, c20, c23, c26, c29, c32, c35, c38]⟩, trivial⟩⟩⟩) (fun _ h => h.re [0, 0] [])
              ·
               have p40 := of_decide_eq_false c38
               refine k_reg ?_
               refine s_lt t_cmpS ?_
               refine sp (.bool (decide (k.str = ⟨#[117, 112, 112, 101, 114]⟩))) ?_
               refine s_nil ?_
               exact xs_cut () trivial (sub_of rfl ⟨⟨rfl, rfl⟩, ⟨⟨rfl, rfl⟩, ⟨⟨rfl, show Value.bool (decide (k.str = ⟨#[117, 112, 112, 101, 114]⟩)) = Value.bool ((decide (k.str = ⟨#[98, 121, 116, 101]⟩)) || ((decide (k.str = ⟨#[99, 104, 97, 114]⟩)) || ((decide (k.str = ⟨#[102, 105, 110, 100]⟩)) || ((decide (k.str = ⟨#[102, 111, 114, 109, 97, 116]⟩)) || ((decide (k.str = ⟨#[103, 109, 97, 116, 99, 104]⟩)) || ((decide (k.str = ⟨#[103, 115, 117, 98]⟩)) || ((decide (k.str = ⟨#[108, 101, 110]⟩)) || ((decide (k.str = ⟨#[108, 111, 119, 101, 114]⟩)) || ((decide (k.str = ⟨#[109, 97, 116, 99, 104]⟩)) || ((decide (k.str = ⟨#[114, 101, 112]⟩)) || ((decide (k.str = ⟨#[114, 101, 118, 101, 114, 115, 101]⟩)) || ((decide (k.str = ⟨#[115, 117, 98]⟩)) || (decide (k.str = ⟨#[117, 112, 112, 101, 114]⟩)))))))))))))) by first | (simp only [c5, c8, c11, c14, c17, c20, c23, c26, c29, c32, c35, c38, bls]; done) | simp [c5, c8, c11, c14, c17, c20, c23, c26, c29, c32, c35, c38]⟩, trivial⟩⟩⟩) (fun _ h => h.re [0, 0] [])
  ·
   refine k_cond ((decide (k.str = ⟨#[98, 121, 116, 101]⟩)) || ((decide (k.str = ⟨#[99, 104, 97, 114]⟩)) || ((decide (k.str = ⟨#[102, 105, 110, 100]⟩)) || ((decide (k.str = ⟨#[102, 111, 114, 109, 97, 116]⟩)) || ((decide (k.str = ⟨#[103, 109, 97, 116, 99, 104]⟩)) || ((decide (k.str = ⟨#[103, 115, 117, 98]⟩)) || ((decide (k.str = ⟨#[108, 101, 110]⟩)) || ((decide (k.str = ⟨#[108, 111, 119, 101, 114]⟩)) || ((decide (k.str = ⟨#[109, 97, 116, 99, 104]⟩)) || ((decide (k.str = ⟨#[114, 101, 112]⟩)) || ((decide (k.str = ⟨#[114, 101, 118, 101, 114, 115, 101]⟩)) || ((decide (k.str = ⟨#[115, 117, 98]⟩)) || (decide (k.str = ⟨#[117, 112, 112, 101, 114]⟩)))))))))))))) (fun c41 => ?_) (fun c41 => ?_)
   ·
    have p42 := c41
    simp only [Bool.and_eq_true, Bool.or_eq_true, Bool.and_eq_false_iff, Bool.or_eq_false_iff, Bool.not_eq_true', Bool.not_eq_false', decide_eq_true_eq, decide_eq_false_iff_not] at p42
    refine k_sr ?_
    refine sp (pB g1 3) ?_
    refine s_lt (t_load 1 (.string k.str)) ?_
    refine s_lt (t_cat ⟨#[115, 116, 114, 105, 110, 103, 46]⟩ k.str (cat_ok (by decide : (⟨#[115, 116, 114, 105, 110, 103, 46]⟩ : ByteArray).size ≤ 7) (lib_size (s := k.str) c41) (by decide))) ?_
    refine s_lt (t_kern (.agg #[.int .i64 6, .int .i64 0, .int .i64 0, .string (⟨#[115, 116, 114, 105, 110, 103, 46]⟩ ++ k.str), .int .i64 0])) ?_
    refine s_store 0 #[.int .i64 6, .int .i64 0, .int .i64 0, .string (⟨#[115, 116, 114, 105, 110, 103, 46]⟩ ++ k.str), .int .i64 0] ?_
    refine s_nt ?_
    refine k_ret ?_
    refine xs_retBlock ?_
    refine xs_ret ?_
    refine xs_fin [.agg #[.int .i64 6, .int .i64 0, .int .i64 0, .string (⟨#[115, 116, 114, 105, 110, 103, 46]⟩ ++ k.str), .int .i64 0]] [] (SI.agg 2 26 0 SI.nil) (fun _ h => h.re [] [0, 0]) ⟨?_, rfl⟩
    unfold methV; rw [if_pos ⟨by omega, c41⟩]; rfl
   ·
    obtain ⟨c43, c44⟩ := or_f c41
    have p45 := of_decide_eq_false c43
    obtain ⟨c46, c47⟩ := or_f c44
    have p48 := of_decide_eq_false c46
    obtain ⟨c49, c50⟩ := or_f c47
    have p51 := of_decide_eq_false c49
    obtain ⟨c52, c53⟩ := or_f c50
    have p54 := of_decide_eq_false c52
    obtain ⟨c55, c56⟩ := or_f c53
    have p57 := of_decide_eq_false c55
    obtain ⟨c58, c59⟩ := or_f c56
    have p60 := of_decide_eq_false c58
    obtain ⟨c61, c62⟩ := or_f c59
    have p63 := of_decide_eq_false c61
    obtain ⟨c64, c65⟩ := or_f c62
    have p66 := of_decide_eq_false c64
    obtain ⟨c67, c68⟩ := or_f c65
    have p69 := of_decide_eq_false c67
    obtain ⟨c70, c71⟩ := or_f c68
    have p72 := of_decide_eq_false c70
    obtain ⟨c73, c74⟩ := or_f c71
    have p75 := of_decide_eq_false c73
    obtain ⟨c76, c77⟩ := or_f c74
    have p78 := of_decide_eq_false c76
    have p79 := of_decide_eq_false c77
    refine k_skip ?_
    refine xs_block ?_
    refine xs_then ?_
    refine k_sr ?_
    refine s_lt (t_kern (.agg #[.int .i64 0, .int .i64 0, .int .i64 0, .string ByteArray.empty, .int .i64 0])) ?_
    refine s_store 0 #[.int .i64 0, .int .i64 0, .int .i64 0, .string ByteArray.empty, .int .i64 0] ?_
    refine s_nt ?_
    refine k_ret ?_
    refine xs_fin [.agg #[.int .i64 0, .int .i64 0, .int .i64 0, .string ByteArray.empty, .int .i64 0]] [] (SI.agg 2 26 0 SI.nil) (fun _ h => h.re [] [0, 0]) ⟨?_, rfl⟩
    unfold methV; rw [if_neg (fun h => Bool.false_ne_true ((show libB k.str = false from c41).symm.trans h.2))]; rfl
 ·
  have p80 := of_decide_eq_false c3
  refine k_st ?_
  refine k_sr ?_
  refine s_lt (t_kern (.agg #[.int .i64 0, .int .i64 0, .int .i64 0, .string ByteArray.empty, .int .i64 0])) ?_
  refine s_store 0 #[.int .i64 0, .int .i64 0, .int .i64 0, .string ByteArray.empty, .int .i64 0] ?_
  refine s_nt ?_
  refine k_ret ?_
  refine xs_fin [.agg #[.int .i64 0, .int .i64 0, .int .i64 0, .string ByteArray.empty, .int .i64 0]] [] (SI.agg 2 26 0 SI.nil) (fun _ h => h.re [] [0, 0]) ⟨?_, rfl⟩
  unfold methV; rw [if_neg (fun h => absurd h.1 (by omega))]; rfl
theorem stl_s {Z : Zone} {F : List Asr} {b : Nat} {st : Hst} {gf gk : Nat} {k : Vl} {n : Nat} (hsm : HSm n st) (hn : n ≤ 300) (v f : Vl) : SF Try.prog 53 #[v.v, f.v, .pointer (some ⟨gf, 0, none⟩), .pointer (some ⟨gk, 0, none⟩)] Z (blkA gf #[.func (.func 24) #[.pointer (some ⟨b, 0, none⟩)] #[]] 58 :: blkA gk #[.int .i64 k.kind, .int .i64 k.p, .int .i64 k.q, .string k.str, .int .i64 k.ref] 26 :: hpA b st :: F) fun r Bs => r = .tuple #[(stl st k v f).1.w (.slice none 0 0), .bool (stl st k v f).2] ∧ Bs = blkA gf #[.func (.func 24) #[.pointer (some ⟨b, 0, none⟩)] #[]] 58 :: blkA gk #[.int .i64 k.kind, .int .i64 k.p, .int .i64 k.q, .string k.str, .int .i64 k.ref] 26 :: hpA b st :: F := by
 refine sf_enter Try.func53 37 [(0, .agg #[.int .i64 v.kind, .int .i64 v.p, .int .i64 v.q, .string v.str, .int .i64 v.ref]), (1, .agg #[.int .i64 f.kind, .int .i64 f.p, .int .i64 f.q, .string f.str, .int .i64 f.ref]), (2, pB gf 0), (3, pB gk 0)] (fun w0 => ?_)
 have hlen0 := hsm.len
 refine k_sr ?_
 refine s_box #[.int .i64 v.kind, .int .i64 v.p, .int .i64 v.q, .string v.str, .int .i64 v.ref] (fun g1 => ?_)
 refine s_box #[.int .i64 f.kind, .int .i64 f.p, .int .i64 f.q, .string f.str, .int .i64 f.ref] (fun g2 => ?_)
 refine s_alloc (.agg #[.int .i64 0, .int .i64 0, .int .i64 0, .int .i64 0, .string ByteArray.empty, .int .i64 0, .int .i64 0, .int .i64 0, .int .i64 0, .string ByteArray.empty, .int .i64 0, (.slice none 0 0), .int .i64 0, .string ByteArray.empty]) #[.int .i64 0, .int .i64 0, .int .i64 0, .int .i64 0, .string ByteArray.empty, .int .i64 0, .int .i64 0, .int .i64 0, .int .i64 0, .string ByteArray.empty, .int .i64 0, (.slice none 0 0), .int .i64 0, .string ByteArray.empty] (fun g3 => ?_)
 refine sp (.bool false) ?_
 refine s_nt ?_
 refine k_seq ?_
 refine k_sr ?_
 refine sp (pB g1 0) ?_
 refine s_lt (t_load 2 (.int .i64 v.kind)) ?_
 refine s_nt ?_
 refine k_block ?_
 refine k_sr ?_
 refine s_lt t_cmp ?_
 refine sp (.bool (decide (v.kind = 4))) ?_
 refine s_nt ?_
 refine k_cond (decide (v.kind = 4)) (fun c4 => ?_) (fun c4 => ?_)
 ·
  have p5 := of_decide_eq_true c4
  refine k_sr ?_
  refine s_lt (t_load 3 (.func (.func 24) #[pB b 0] #[])) ?_
  refine s_lt (t_loadA 2 #[.int .i64 v.kind, .int .i64 v.p, .int .i64 v.q, .string v.str, .int .i64 v.ref]) ?_
  refine s_lt (t_loadA 4 #[.int .i64 k.kind, .int .i64 k.p, .int .i64 k.q, .string k.str, .int .i64 k.ref]) ?_
  refine s_callL [5] (hget_s (st := st) hsm (by omega) v k) ?_
  rintro _ _ ⟨rfl, rfl⟩
  refine sp (.tuple #[.agg #[.int .i64 ((hgetV st v k).kind), .int .i64 ((hgetV st v k).p), .int .i64 ((hgetV st v k).q), .string ((hgetV st v k).str), .int .i64 ((hgetV st v k).ref)], .int .i64 (hgetE st v)]) ?_
  refine sp (.agg #[.int .i64 ((hgetV st v k).kind), .int .i64 ((hgetV st v k).p), .int .i64 ((hgetV st v k).q), .string ((hgetV st v k).str), .int .i64 ((hgetV st v k).ref)]) ?_
  refine sp (.int .i64 (hgetE st v)) ?_
  refine s_alloc (.agg #[.int .i64 0, .int .i64 0, .int .i64 0, .string ByteArray.empty, .int .i64 0]) #[.int .i64 0, .int .i64 0, .int .i64 0, .string ByteArray.empty, .int .i64 0] (fun g6 => ?_)
  refine s_store 0 #[.int .i64 ((hgetV st v k).kind), .int .i64 ((hgetV st v k).p), .int .i64 ((hgetV st v k).q), .string ((hgetV st v k).str), .int .i64 ((hgetV st v k).ref)] ?_
  refine sp (.int .i64 (hgetE st v)) ?_
  refine s_nt ?_
  refine k_seq ?_
  refine k_held [blkA g6 #[.int .i64 ((hgetV st v k).kind), .int .i64 ((hgetV st v k).p), .int .i64 ((hgetV st v k).q), .string ((hgetV st v k).str), .int .i64 ((hgetV st v k).ref)] 26, blkA g2 #[.int .i64 f.kind, .int .i64 f.p, .int .i64 f.q, .string f.str, .int .i64 f.ref] 26, blkA g1 #[.int .i64 v.kind, .int .i64 v.p, .int .i64 v.q, .string v.str, .int .i64 v.ref] 26, blkA gf #[.func (.func 24) #[pB b 0] #[]] 58, blkA gk #[.int .i64 k.kind, .int .i64 k.p, .int .i64 k.q, .string k.str, .int .i64 k.ref] 26] ?_
  refine h_l 0 rfl [0, 2, 2, 2, 2] (fun _ => (t_loadA 0 #[.int .i64 ((hgetV st v k).kind), .int .i64 ((hgetV st v k).p), .int .i64 ((hgetV st v k).q), .string ((hgetV st v k).str), .int .i64 ((hgetV st v k).ref)])) ?_
  refine hp_ 2 [0, 2, 2, 2, 2] (pB g6 0) ?_
  refine h_l 3 rfl [0, 2, 2, 2, 2] (fun _ => (t_load 0 (.int .i64 ((hgetV st v k).kind)))) ?_
  refine h_l 4 rfl [0, 2, 2, 2, 2] (fun _ => t_cmp) ?_
  refine h_stepS 1 ?_
  refine s_vcall (fun _ h => given_s (hgetV st v k)) ?_
  rintro _ rfl
  refine s_nil (xs_held [0, 2, 2, 2, 2] ?_)
  refine hp_ 5 [0, 2, 2, 2, 2] (.bool (decide ((hgetV st v k).kind ≠ 0))) ?_
  refine h_forkS 26 (decide ((hgetV st v k).kind ≠ 0)) (fun c7 => ?_) (fun c7 => ?_)
  ·
   have p8 := of_decide_eq_true c7
   refine h_sk 6 [0, 2, 2, 2, 2] ?_
   refine h_sk 7 [0, 2, 2, 2, 2] ?_
   refine h_sk 8 [0, 2, 2, 2, 2] ?_
   refine hp_ 9 [0, 2, 2, 2, 2] (.bool true) ?_
   refine h_stepS 10 ?_
   refine s_store 2 #[.int .i64 1, .int .i64 ((hgetV st v k).kind), .int .i64 ((hgetV st v k).p), .int .i64 ((hgetV st v k).q), .string ((hgetV st v k).str), .int .i64 ((hgetV st v k).ref), .int .i64 0, .int .i64 0, .int .i64 0, .string ByteArray.empty, .int .i64 0, (.slice none 0 0), .int .i64 0, .string ByteArray.empty] ?_
   refine s_nil (xs_held [0, 2, 2, 2, 2] ?_)
   refine hp_ 11 [0, 2, 2, 2, 2] (.bool true) ?_
   refine h_doneS ?_
   refine xs_then ?_
   refine k_ret ?_
   refine xs_retBlock ?_
   refine xs_ret ?_
   have hs : stl st k v f = (giveN (hgetV st v k), true) := by rw [stl, if_pos (by omega)]; simp [c4, c7, p5, p8]
   exact xs_fin [.agg #[.int .i64 1, .int .i64 ((hgetV st v k).kind), .int .i64 ((hgetV st v k).p), .int .i64 ((hgetV st v k).q), .string ((hgetV st v k).str), .int .i64 ((hgetV st v k).ref), .int .i64 0, .int .i64 0, .int .i64 0, .string ByteArray.empty, .int .i64 0, (.slice none 0 0), .int .i64 0, .string ByteArray.empty], .bool true] (blkA gf #[.func (.func 24) #[.pointer (some ⟨b, 0, none⟩)] #[]] 58 :: blkA gk #[.int .i64 k.kind, .int .i64 k.p, .int .i64 k.q, .string k.str, .int .i64 k.ref] 26 :: hpA b st :: F) (SI.agg 6 51 2 (SI.tmp 7 SI.nil)) (fun _ h => h.re [5, 5, 1] [3, 3, 3, 3]) ⟨by rw [hs]; rfl, rfl⟩
  ·
   have p9 := Decidable.not_not.1 (of_decide_eq_false c7)
   refine hp_ 6 [0, 2, 2, 2, 2] (pB g2 0) ?_
   refine h_l 7 rfl [0, 2, 2, 2, 2] (fun _ => (t_load 1 (.int .i64 f.kind))) ?_
   refine h_l 8 rfl [0, 2, 2, 2, 2] (fun _ => t_cmp) ?_
   refine hp_ 9 [0, 2, 2, 2, 2] (.bool (decide (f.kind = 0))) ?_
   refine h_stepS 10 ?_
   refine s_store 2 #[.int .i64 1, .int .i64 ((hgetV st v k).kind), .int .i64 ((hgetV st v k).p), .int .i64 ((hgetV st v k).q), .string ((hgetV st v k).str), .int .i64 ((hgetV st v k).ref), .int .i64 0, .int .i64 0, .int .i64 0, .string ByteArray.empty, .int .i64 0, (.slice none 0 0), .int .i64 0, .string ByteArray.empty] ?_
   refine s_nil (xs_held [0, 2, 2, 2, 2] ?_)
   refine hp_ 11 [0, 2, 2, 2, 2] (.bool (decide (f.kind = 0))) ?_
   refine h_doneS ?_
   refine xs_then ?_
   refine k_ret ?_
   refine xs_retBlock ?_
   refine xs_ret ?_
   have hs : stl st k v f = (giveN (hgetV st v k), (decide (f.kind = 0))) := by rw [stl, if_pos (by omega)]; simp [c4, c7, p5, p9]
   exact xs_fin [.agg #[.int .i64 1, .int .i64 ((hgetV st v k).kind), .int .i64 ((hgetV st v k).p), .int .i64 ((hgetV st v k).q), .string ((hgetV st v k).str), .int .i64 ((hgetV st v k).ref), .int .i64 0, .int .i64 0, .int .i64 0, .string ByteArray.empty, .int .i64 0, (.slice none 0 0), .int .i64 0, .string ByteArray.empty], .bool (decide (f.kind = 0))] (blkA gf #[.func (.func 24) #[.pointer (some ⟨b, 0, none⟩)] #[]] 58 :: blkA gk #[.int .i64 k.kind, .int .i64 k.p, .int .i64 k.q, .string k.str, .int .i64 k.ref] 26 :: hpA b st :: F) (SI.agg 6 51 2 (SI.tmp 7 SI.nil)) (fun _ h => h.re [5, 5, 1] [3, 3, 3, 3]) ⟨by rw [hs]; rfl, rfl⟩
 ·
  have p10 := of_decide_eq_false c4
  refine k_sr ?_
  refine s_lt t_cmp ?_
  refine sp (.bool (decide (v.kind = 3))) ?_
  refine s_nt ?_
  refine k_cond (decide (v.kind = 3)) (fun c11 => ?_) (fun c11 => ?_)
  ·
   have p12 := of_decide_eq_true c11
   refine k_sr ?_
   refine s_lt (t_loadA 4 #[.int .i64 k.kind, .int .i64 k.p, .int .i64 k.q, .string k.str, .int .i64 k.ref]) ?_
   refine s_vcall (fun _ h => meth_s k) ?_
   rintro _ rfl
   refine s_vcall (fun _ h => given_s (methV k)) ?_
   rintro _ rfl
   refine s_store 0 #[.int .i64 1, .int .i64 ((methV k).kind), .int .i64 ((methV k).p), .int .i64 ((methV k).q), .string ((methV k).str), .int .i64 ((methV k).ref), .int .i64 0, .int .i64 0, .int .i64 0, .string ByteArray.empty, .int .i64 0, (.slice none 0 0), .int .i64 0, .string ByteArray.empty] ?_
   refine sp (.bool true) ?_
   refine s_nt ?_
   refine k_ret ?_
   refine xs_retBlock ?_
   refine xs_ret ?_
   have hs : stl st k v f = (giveN (methV k), true) := by rw [stl, if_neg (by omega), if_pos (by omega)]
   exact xs_fin [.agg #[.int .i64 1, .int .i64 ((methV k).kind), .int .i64 ((methV k).p), .int .i64 ((methV k).q), .string ((methV k).str), .int .i64 ((methV k).ref), .int .i64 0, .int .i64 0, .int .i64 0, .string ByteArray.empty, .int .i64 0, (.slice none 0 0), .int .i64 0, .string ByteArray.empty], .bool true] (blkA gf #[.func (.func 24) #[.pointer (some ⟨b, 0, none⟩)] #[]] 58 :: blkA gk #[.int .i64 k.kind, .int .i64 k.p, .int .i64 k.q, .string k.str, .int .i64 k.ref] 26 :: hpA b st :: F) (SI.agg 6 51 0 (SI.tmp 7 SI.nil)) (fun _ h => h.re [3, 3, 3] [3, 3, 3]) ⟨by rw [hs]; rfl, rfl⟩
  ·
   have p13 := of_decide_eq_false c11
   refine k_skip ?_
   refine xs_block ?_
   refine xs_then ?_
   refine k_sr ?_
   refine s_lt (t_kern (.agg #[.int .i64 0, .int .i64 0, .int .i64 0, .int .i64 0, .string ByteArray.empty, .int .i64 0, .int .i64 0, .int .i64 0, .int .i64 0, .string ByteArray.empty, .int .i64 0, (.slice none 0 0), .int .i64 0, .string ByteArray.empty])) ?_
   refine s_store 0 #[.int .i64 0, .int .i64 0, .int .i64 0, .int .i64 0, .string ByteArray.empty, .int .i64 0, .int .i64 0, .int .i64 0, .int .i64 0, .string ByteArray.empty, .int .i64 0, (.slice none 0 0), .int .i64 0, .string ByteArray.empty] ?_
   refine sp (.bool false) ?_
   refine s_nt ?_
   refine k_ret ?_
   have hs : stl st k v f = (zNd, false) := by rw [stl, if_neg (by omega), if_neg (by omega)]
   exact xs_fin [.agg #[.int .i64 0, .int .i64 0, .int .i64 0, .int .i64 0, .string ByteArray.empty, .int .i64 0, .int .i64 0, .int .i64 0, .int .i64 0, .string ByteArray.empty, .int .i64 0, (.slice none 0 0), .int .i64 0, .string ByteArray.empty], .bool false] (blkA gf #[.func (.func 24) #[.pointer (some ⟨b, 0, none⟩)] #[]] 58 :: blkA gk #[.int .i64 k.kind, .int .i64 k.p, .int .i64 k.q, .string k.str, .int .i64 k.ref] 26 :: hpA b st :: F) (SI.agg 6 51 0 (SI.tmp 7 SI.nil)) (fun _ h => h.re [3, 3, 3] [3, 3, 3]) ⟨by rw [hs]; rfl, rfl⟩
theorem icall_s {Z : Zone} {F : List Asr} {gk : Nat} {k : Vl} (v f : Vl) : SF Try.prog 57 #[v.v, f.v, .pointer (some ⟨gk, 0, none⟩)] Z (blkA gk #[.int .i64 k.kind, .int .i64 k.p, .int .i64 k.q, .string k.str, .int .i64 k.ref] 26 :: F) fun r Bs => ∃ av, r = (callN f 1 [v, k]).w av ∧ Bs = own VlT av [v, k] :: blkA gk #[.int .i64 k.kind, .int .i64 k.p, .int .i64 k.q, .string k.str, .int .i64 k.ref] 26 :: F := by
 refine sf_enter Try.func57 11 [(0, .agg #[.int .i64 v.kind, .int .i64 v.p, .int .i64 v.q, .string v.str, .int .i64 v.ref]), (1, .agg #[.int .i64 f.kind, .int .i64 f.p, .int .i64 f.q, .string f.str, .int .i64 f.ref]), (2, pB gk 0)] (fun w0 => ?_)
 refine k_sr ?_
 refine s_box #[.int .i64 v.kind, .int .i64 v.p, .int .i64 v.q, .string v.str, .int .i64 v.ref] (fun g1 => ?_)
 refine s_box #[.int .i64 f.kind, .int .i64 f.p, .int .i64 f.q, .string f.str, .int .i64 f.ref] (fun g2 => ?_)
 refine s_alloc (.agg #[.int .i64 0, .int .i64 0, .int .i64 0, .int .i64 0, .string ByteArray.empty, .int .i64 0, .int .i64 0, .int .i64 0, .int .i64 0, .string ByteArray.empty, .int .i64 0, (.slice none 0 0), .int .i64 0, .string ByteArray.empty]) #[.int .i64 0, .int .i64 0, .int .i64 0, .int .i64 0, .string ByteArray.empty, .int .i64 0, .int .i64 0, .int .i64 0, .int .i64 0, .string ByteArray.empty, .int .i64 0, (.slice none 0 0), .int .i64 0, .string ByteArray.empty] (fun g3 => ?_)
 refine s_nr ?_
 refine s_lt (t_loadA 1 #[.int .i64 f.kind, .int .i64 f.p, .int .i64 f.q, .string f.str, .int .i64 f.ref]) ?_
 refine s_lt (t_loadA 2 #[.int .i64 v.kind, .int .i64 v.p, .int .i64 v.q, .string v.str, .int .i64 v.ref]) ?_
 refine s_lt (t_loadA 3 #[.int .i64 k.kind, .int .i64 k.p, .int .i64 k.q, .string k.str, .int .i64 k.ref]) ?_
 refine s_buildSlice (e := 26) [(0, .agg #[.int .i64 v.kind, .int .i64 v.p, .int .i64 v.q, .string v.str, .int .i64 v.ref]), (1, .agg #[.int .i64 k.kind, .int .i64 k.p, .int .i64 k.q, .string k.str, .int .i64 k.ref])] #[.int .i64 v.kind, .int .i64 v.p, .int .i64 v.q, .string v.str, .int .i64 v.ref, .int .i64 k.kind, .int .i64 k.p, .int .i64 k.q, .string k.str, .int .i64 k.ref] (fun g4 => ?_) (hb := by kernel_rfl)
 refine s_vcall (fun _ h => called_s f 1 (some ⟨g4, 0, none⟩) 2 2 []) ?_
 rintro _ rfl
 refine s_store 1 #[.int .i64 2, .int .i64 0, .int .i64 0, .int .i64 0, .string ByteArray.empty, .int .i64 0, .int .i64 f.kind, .int .i64 f.p, .int .i64 f.q, .string f.str, .int .i64 f.ref, (.slice (some ⟨g4, 0, none⟩) 2 2), .int .i64 1, .string ByteArray.empty] ?_
 refine s_nt ?_
 refine k_ret ?_
 refine xs_mem (fun _ h => Holds.slice 0 h VlT_ok [v, k]) ?_
 exact xs_fin [.agg #[.int .i64 2, .int .i64 0, .int .i64 0, .int .i64 0, .string ByteArray.empty, .int .i64 0, .int .i64 f.kind, .int .i64 f.p, .int .i64 f.q, .string f.str, .int .i64 f.ref, (.slice (some ⟨g4, 0, none⟩) 2 2), .int .i64 1, .string ByteArray.empty]] (own VlT (.slice (some ⟨g4, 0, none⟩) 2 2) [v, k] :: blkA gk #[.int .i64 k.kind, .int .i64 k.p, .int .i64 k.q, .string k.str, .int .i64 k.ref] 26 :: F) (SI.agg 5 51 1 SI.nil) (fun _ h => h.re [0, 3] [2, 2, 2]) ⟨_, rfl, rfl⟩
theorem chain_s {Z : Zone} {F : List Asr} {b : Nat} {st : Hst} {gf gk : Nat} {k : Vl} {n : Nat} (hsm : HSm n st) (hn : n ≤ 300) (v : Vl) : SF Try.prog 56 #[.pointer (some ⟨b, 0, none⟩), v.v, .string ⟨#[95, 95, 105, 110, 100, 101, 120]⟩, .func (.func 53) #[] #[.pointer (some ⟨gf, 0, none⟩), .pointer (some ⟨gk, 0, none⟩)], .func (.func 57) #[] #[.pointer (some ⟨gk, 0, none⟩)]] Z (blkA gf #[.func (.func 24) #[.pointer (some ⟨b, 0, none⟩)] #[]] 58 :: blkA gk #[.int .i64 k.kind, .int .i64 k.p, .int .i64 k.q, .string k.str, .int .i64 k.ref] 26 :: hpA b st :: F) fun r Bs => ∃ av, r = (idx st k 32 v).w av ∧ Bs = own VlT av (idx st k 32 v).args :: blkA gf #[.func (.func 24) #[.pointer (some ⟨b, 0, none⟩)] #[]] 58 :: blkA gk #[.int .i64 k.kind, .int .i64 k.p, .int .i64 k.q, .string k.str, .int .i64 k.ref] 26 :: hpA b st :: F := by
 refine sf_enter Try.func56 46 [(0, pB b 0), (1, .agg #[.int .i64 v.kind, .int .i64 v.p, .int .i64 v.q, .string v.str, .int .i64 v.ref]), (2, .string ⟨#[95, 95, 105, 110, 100, 101, 120]⟩), (3, .func (.func 53) #[] #[pB gf 0, pB gk 0]), (4, .func (.func 57) #[] #[pB gk 0])] (fun w0 => ?_)
 have hlen0 := hsm.len
 refine k_sr ?_
 refine s_box #[.int .i64 v.kind, .int .i64 v.p, .int .i64 v.q, .string v.str, .int .i64 v.ref] (fun g1 => ?_)
 refine s_alloc (.agg #[.int .i64 0, .int .i64 0, .int .i64 0, .int .i64 0, .string ByteArray.empty, .int .i64 0, .int .i64 0, .int .i64 0, .int .i64 0, .string ByteArray.empty, .int .i64 0, (.slice none 0 0), .int .i64 0, .string ByteArray.empty]) #[.int .i64 0, .int .i64 0, .int .i64 0, .int .i64 0, .string ByteArray.empty, .int .i64 0, .int .i64 0, .int .i64 0, .int .i64 0, .string ByteArray.empty, .int .i64 0, (.slice none 0 0), .int .i64 0, .string ByteArray.empty] (fun g2 => ?_)
 refine s_nt ?_
 refine k_seq ?_
 refine k_sr ?_
 refine sp (.int .i64 0) ?_
 refine s_nt ?_
 refine k_block ?_
 refine k_loop (ι := Vl × Nat) (fun (q, i) => i ≤ 32 ∧ idx st k (32 - i) q = idx st k 32 v) (fun (q, i) => [(0, pB b 0), (2, .string ⟨#[95, 95, 105, 110, 100, 101, 120]⟩), (3, .func (.func 53) #[] #[pB gf 0, pB gk 0]), (4, .func (.func 57) #[] #[pB gk 0]), (6, pB g1 0), (10, pB g2 0), (14, .int .i64 (i : Int))]) (fun (q, i) => blkA g2 #[.int .i64 0, .int .i64 0, .int .i64 0, .int .i64 0, .string ByteArray.empty, .int .i64 0, .int .i64 0, .int .i64 0, .int .i64 0, .string ByteArray.empty, .int .i64 0, (.slice none 0 0), .int .i64 0, .string ByteArray.empty] 51 :: blkA g1 #[.int .i64 q.kind, .int .i64 q.p, .int .i64 q.q, .string q.str, .int .i64 q.ref] 26 :: blkA gf #[.func (.func 24) #[pB b 0] #[]] 58 :: blkA gk #[.int .i64 k.kind, .int .i64 k.p, .int .i64 k.q, .string k.str, .int .i64 k.ref] 26 :: hpA b st :: F) (fun (q, i) => 32 - i) (v, 0) ⟨by omega, rfl⟩ (sub_of rfl ⟨⟨rfl, rfl⟩, ⟨⟨rfl, rfl⟩, ⟨⟨rfl, rfl⟩, ⟨⟨rfl, rfl⟩, ⟨⟨rfl, rfl⟩, ⟨⟨rfl, rfl⟩, ⟨⟨rfl, rfl⟩, trivial⟩⟩⟩⟩⟩⟩⟩) (fun _ h => h.re [0, 0, 0, 0, 0] []) ?_
 rintro ⟨q, i⟩ hi3
 replace hi3 : i ≤ 32 ∧ idx st k (32 - i) q = idx st k 32 v := hi3
 show SK _ _ _ _ _ [(0, .pointer (some ⟨b, 0, none⟩)), (2, .string ⟨#[95, 95, 105, 110, 100, 101, 120]⟩), (3, .func (.func 53) #[] #[.pointer (some ⟨gf, 0, none⟩), .pointer (some ⟨gk, 0, none⟩)]), (4, .func (.func 57) #[] #[.pointer (some ⟨gk, 0, none⟩)]), (6, .pointer (some ⟨g1, 0, none⟩)), (10, .pointer (some ⟨g2, 0, none⟩)), (14, .int .i64 (i : Int))] _ (blkA g2 #[.int .i64 0, .int .i64 0, .int .i64 0, .int .i64 0, .string ByteArray.empty, .int .i64 0, .int .i64 0, .int .i64 0, .int .i64 0, .string ByteArray.empty, .int .i64 0, (.slice none 0 0), .int .i64 0, .string ByteArray.empty] 51 :: blkA g1 #[.int .i64 q.kind, .int .i64 q.p, .int .i64 q.q, .string q.str, .int .i64 q.ref] 26 :: blkA gf #[.func (.func 24) #[.pointer (some ⟨b, 0, none⟩)] #[]] 58 :: blkA gk #[.int .i64 k.kind, .int .i64 k.p, .int .i64 k.q, .string k.str, .int .i64 k.ref] 26 :: hpA b st :: F)
 refine k_sr ?_
 refine s_lt t_cmp ?_
 refine s_nt ?_
 refine k_seq ?_
 refine k_cond (decide ((i : Int) < 32)) (fun c4 => ?_) (fun c4 => ?_)
 ·
  have p5 := of_decide_eq_true c4
  refine k_st ?_
  refine k_seq ?_
  refine k_block ?_
  refine k_sr ?_
  refine sp (pB b 0) ?_
  refine s_lt (t_loadA 1 #[.int .i64 q.kind, .int .i64 q.p, .int .i64 q.q, .string q.str, .int .i64 q.ref]) ?_
  refine sp (.string ⟨#[95, 95, 105, 110, 100, 101, 120]⟩) ?_
  refine s_call [4] (hdl_s (st := st) hsm (by omega) q ⟨#[95, 95, 105, 110, 100, 101, 120]⟩) ?_
  rintro _ _ ⟨rfl, rfl⟩
  refine s_alloc (.agg #[.int .i64 0, .int .i64 0, .int .i64 0, .string ByteArray.empty, .int .i64 0]) #[.int .i64 0, .int .i64 0, .int .i64 0, .string ByteArray.empty, .int .i64 0] (fun g6 => ?_)
  refine s_store 0 #[.int .i64 ((hdl st q ⟨#[95, 95, 105, 110, 100, 101, 120]⟩).kind), .int .i64 ((hdl st q ⟨#[95, 95, 105, 110, 100, 101, 120]⟩).p), .int .i64 ((hdl st q ⟨#[95, 95, 105, 110, 100, 101, 120]⟩).q), .string ((hdl st q ⟨#[95, 95, 105, 110, 100, 101, 120]⟩).str), .int .i64 ((hdl st q ⟨#[95, 95, 105, 110, 100, 101, 120]⟩).ref)] ?_
  refine s_nt ?_
  refine k_seq ?_
  refine k_sr ?_
  refine sp (.func (.func 53) #[] #[pB gf 0, pB gk 0]) ?_
  refine s_lt (t_loadA 3 #[.int .i64 q.kind, .int .i64 q.p, .int .i64 q.q, .string q.str, .int .i64 q.ref]) ?_
  refine s_lt (t_loadA 0 #[.int .i64 ((hdl st q ⟨#[95, 95, 105, 110, 100, 101, 120]⟩).kind), .int .i64 ((hdl st q ⟨#[95, 95, 105, 110, 100, 101, 120]⟩).p), .int .i64 ((hdl st q ⟨#[95, 95, 105, 110, 100, 101, 120]⟩).q), .string ((hdl st q ⟨#[95, 95, 105, 110, 100, 101, 120]⟩).str), .int .i64 ((hdl st q ⟨#[95, 95, 105, 110, 100, 101, 120]⟩).ref)]) ?_
  refine s_callL [4, 4, 1] (stl_s (k := k) (st := st) hsm (by omega) q (hdl st q ⟨#[95, 95, 105, 110, 100, 101, 120]⟩)) ?_
  rintro _ _ ⟨rfl, rfl⟩
  refine sp (.tuple #[.agg #[.int .i64 ((stl st k q (hdl st q ⟨#[95, 95, 105, 110, 100, 101, 120]⟩)).1.kind), .int .i64 (((stl st k q (hdl st q ⟨#[95, 95, 105, 110, 100, 101, 120]⟩)).1.val).kind), .int .i64 (((stl st k q (hdl st q ⟨#[95, 95, 105, 110, 100, 101, 120]⟩)).1.val).p), .int .i64 (((stl st k q (hdl st q ⟨#[95, 95, 105, 110, 100, 101, 120]⟩)).1.val).q), .string (((stl st k q (hdl st q ⟨#[95, 95, 105, 110, 100, 101, 120]⟩)).1.val).str), .int .i64 (((stl st k q (hdl st q ⟨#[95, 95, 105, 110, 100, 101, 120]⟩)).1.val).ref), .int .i64 (((stl st k q (hdl st q ⟨#[95, 95, 105, 110, 100, 101, 120]⟩)).1.fn).kind), .int .i64 (((stl st k q (hdl st q ⟨#[95, 95, 105, 110, 100, 101, 120]⟩)).1.fn).p), .int .i64 (((stl st k q (hdl st q ⟨#[95, 95, 105, 110, 100, 101, 120]⟩)).1.fn).q), .string (((stl st k q (hdl st q ⟨#[95, 95, 105, 110, 100, 101, 120]⟩)).1.fn).str), .int .i64 (((stl st k q (hdl st q ⟨#[95, 95, 105, 110, 100, 101, 120]⟩)).1.fn).ref), (.slice none 0 0), .int .i64 ((stl st k q (hdl st q ⟨#[95, 95, 105, 110, 100, 101, 120]⟩)).1.after), .string ((stl st k q (hdl st q ⟨#[95, 95, 105, 110, 100, 101, 120]⟩)).1.str)], .bool ((stl st k q (hdl st q ⟨#[95, 95, 105, 110, 100, 101, 120]⟩)).2)]) ?_
  refine sp (.agg #[.int .i64 ((stl st k q (hdl st q ⟨#[95, 95, 105, 110, 100, 101, 120]⟩)).1.kind), .int .i64 (((stl st k q (hdl st q ⟨#[95, 95, 105, 110, 100, 101, 120]⟩)).1.val).kind), .int .i64 (((stl st k q (hdl st q ⟨#[95, 95, 105, 110, 100, 101, 120]⟩)).1.val).p), .int .i64 (((stl st k q (hdl st q ⟨#[95, 95, 105, 110, 100, 101, 120]⟩)).1.val).q), .string (((stl st k q (hdl st q ⟨#[95, 95, 105, 110, 100, 101, 120]⟩)).1.val).str), .int .i64 (((stl st k q (hdl st q ⟨#[95, 95, 105, 110, 100, 101, 120]⟩)).1.val).ref), .int .i64 (((stl st k q (hdl st q ⟨#[95, 95, 105, 110, 100, 101, 120]⟩)).1.fn).kind), .int .i64 (((stl st k q (hdl st q ⟨#[95, 95, 105, 110, 100, 101, 120]⟩)).1.fn).p), .int .i64 (((stl st k q (hdl st q ⟨#[95, 95, 105, 110, 100, 101, 120]⟩)).1.fn).q), .string (((stl st k q (hdl st q ⟨#[95, 95, 105, 110, 100, 101, 120]⟩)).1.fn).str), .int .i64 (((stl st k q (hdl st q ⟨#[95, 95, 105, 110, 100, 101, 120]⟩)).1.fn).ref), (.slice none 0 0), .int .i64 ((stl st k q (hdl st q ⟨#[95, 95, 105, 110, 100, 101, 120]⟩)).1.after), .string ((stl st k q (hdl st q ⟨#[95, 95, 105, 110, 100, 101, 120]⟩)).1.str)]) ?_
  refine sp (.bool ((stl st k q (hdl st q ⟨#[95, 95, 105, 110, 100, 101, 120]⟩)).2)) ?_
  refine s_alloc (.agg #[.int .i64 0, .int .i64 0, .int .i64 0, .int .i64 0, .string ByteArray.empty, .int .i64 0, .int .i64 0, .int .i64 0, .int .i64 0, .string ByteArray.empty, .int .i64 0, (.slice none 0 0), .int .i64 0, .string ByteArray.empty]) #[.int .i64 0, .int .i64 0, .int .i64 0, .int .i64 0, .string ByteArray.empty, .int .i64 0, .int .i64 0, .int .i64 0, .int .i64 0, .string ByteArray.empty, .int .i64 0, (.slice none 0 0), .int .i64 0, .string ByteArray.empty] (fun g7 => ?_)
  refine s_store 0 #[.int .i64 ((stl st k q (hdl st q ⟨#[95, 95, 105, 110, 100, 101, 120]⟩)).1.kind), .int .i64 (((stl st k q (hdl st q ⟨#[95, 95, 105, 110, 100, 101, 120]⟩)).1.val).kind), .int .i64 (((stl st k q (hdl st q ⟨#[95, 95, 105, 110, 100, 101, 120]⟩)).1.val).p), .int .i64 (((stl st k q (hdl st q ⟨#[95, 95, 105, 110, 100, 101, 120]⟩)).1.val).q), .string (((stl st k q (hdl st q ⟨#[95, 95, 105, 110, 100, 101, 120]⟩)).1.val).str), .int .i64 (((stl st k q (hdl st q ⟨#[95, 95, 105, 110, 100, 101, 120]⟩)).1.val).ref), .int .i64 (((stl st k q (hdl st q ⟨#[95, 95, 105, 110, 100, 101, 120]⟩)).1.fn).kind), .int .i64 (((stl st k q (hdl st q ⟨#[95, 95, 105, 110, 100, 101, 120]⟩)).1.fn).p), .int .i64 (((stl st k q (hdl st q ⟨#[95, 95, 105, 110, 100, 101, 120]⟩)).1.fn).q), .string (((stl st k q (hdl st q ⟨#[95, 95, 105, 110, 100, 101, 120]⟩)).1.fn).str), .int .i64 (((stl st k q (hdl st q ⟨#[95, 95, 105, 110, 100, 101, 120]⟩)).1.fn).ref), (.slice none 0 0), .int .i64 ((stl st k q (hdl st q ⟨#[95, 95, 105, 110, 100, 101, 120]⟩)).1.after), .string ((stl st k q (hdl st q ⟨#[95, 95, 105, 110, 100, 101, 120]⟩)).1.str)] ?_
  refine sp (.bool ((stl st k q (hdl st q ⟨#[95, 95, 105, 110, 100, 101, 120]⟩)).2)) ?_
  refine s_nr ?_
  refine sp (.bool ((stl st k q (hdl st q ⟨#[95, 95, 105, 110, 100, 101, 120]⟩)).2)) ?_
  refine s_nt ?_
  refine k_cond ((stl st k q (hdl st q ⟨#[95, 95, 105, 110, 100, 101, 120]⟩)).2) (fun c8 => ?_) (fun c8 => ?_)
  ·
   refine k_sr ?_
   refine s_lt (t_loadA 0 #[.int .i64 ((stl st k q (hdl st q ⟨#[95, 95, 105, 110, 100, 101, 120]⟩)).1.kind), .int .i64 (((stl st k q (hdl st q ⟨#[95, 95, 105, 110, 100, 101, 120]⟩)).1.val).kind), .int .i64 (((stl st k q (hdl st q ⟨#[95, 95, 105, 110, 100, 101, 120]⟩)).1.val).p), .int .i64 (((stl st k q (hdl st q ⟨#[95, 95, 105, 110, 100, 101, 120]⟩)).1.val).q), .string (((stl st k q (hdl st q ⟨#[95, 95, 105, 110, 100, 101, 120]⟩)).1.val).str), .int .i64 (((stl st k q (hdl st q ⟨#[95, 95, 105, 110, 100, 101, 120]⟩)).1.val).ref), .int .i64 (((stl st k q (hdl st q ⟨#[95, 95, 105, 110, 100, 101, 120]⟩)).1.fn).kind), .int .i64 (((stl st k q (hdl st q ⟨#[95, 95, 105, 110, 100, 101, 120]⟩)).1.fn).p), .int .i64 (((stl st k q (hdl st q ⟨#[95, 95, 105, 110, 100, 101, 120]⟩)).1.fn).q), .string (((stl st k q (hdl st q ⟨#[95, 95, 105, 110, 100, 101, 120]⟩)).1.fn).str), .int .i64 (((stl st k q (hdl st q ⟨#[95, 95, 105, 110, 100, 101, 120]⟩)).1.fn).ref), (.slice none 0 0), .int .i64 ((stl st k q (hdl st q ⟨#[95, 95, 105, 110, 100, 101, 120]⟩)).1.after), .string ((stl st k q (hdl st q ⟨#[95, 95, 105, 110, 100, 101, 120]⟩)).1.str)]) ?_
   refine s_store 5 #[.int .i64 ((stl st k q (hdl st q ⟨#[95, 95, 105, 110, 100, 101, 120]⟩)).1.kind), .int .i64 (((stl st k q (hdl st q ⟨#[95, 95, 105, 110, 100, 101, 120]⟩)).1.val).kind), .int .i64 (((stl st k q (hdl st q ⟨#[95, 95, 105, 110, 100, 101, 120]⟩)).1.val).p), .int .i64 (((stl st k q (hdl st q ⟨#[95, 95, 105, 110, 100, 101, 120]⟩)).1.val).q), .string (((stl st k q (hdl st q ⟨#[95, 95, 105, 110, 100, 101, 120]⟩)).1.val).str), .int .i64 (((stl st k q (hdl st q ⟨#[95, 95, 105, 110, 100, 101, 120]⟩)).1.val).ref), .int .i64 (((stl st k q (hdl st q ⟨#[95, 95, 105, 110, 100, 101, 120]⟩)).1.fn).kind), .int .i64 (((stl st k q (hdl st q ⟨#[95, 95, 105, 110, 100, 101, 120]⟩)).1.fn).p), .int .i64 (((stl st k q (hdl st q ⟨#[95, 95, 105, 110, 100, 101, 120]⟩)).1.fn).q), .string (((stl st k q (hdl st q ⟨#[95, 95, 105, 110, 100, 101, 120]⟩)).1.fn).str), .int .i64 (((stl st k q (hdl st q ⟨#[95, 95, 105, 110, 100, 101, 120]⟩)).1.fn).ref), (.slice none 0 0), .int .i64 ((stl st k q (hdl st q ⟨#[95, 95, 105, 110, 100, 101, 120]⟩)).1.after), .string ((stl st k q (hdl st q ⟨#[95, 95, 105, 110, 100, 101, 120]⟩)).1.str)] ?_
   refine s_nt ?_
   refine k_ret ?_
   refine xs_ret ?_
   refine xs_retBlock ?_
   refine xs_ret ?_
   refine xs_ret ?_
   refine xs_retBlock ?_
   refine xs_ret ?_
   have hc : idx st k 32 v = (stl st k q (hdl st q ⟨#[95, 95, 105, 110, 100, 101, 120]⟩)).1 := hi3.2.symm.trans (chn_set (by omega) c8)
   refine xs_mem (fun _ h => Holds.nilS (T := VlT) h) ?_
   exact xs_fin [.agg #[.int .i64 ((stl st k q (hdl st q ⟨#[95, 95, 105, 110, 100, 101, 120]⟩)).1.kind), .int .i64 (((stl st k q (hdl st q ⟨#[95, 95, 105, 110, 100, 101, 120]⟩)).1.val).kind), .int .i64 (((stl st k q (hdl st q ⟨#[95, 95, 105, 110, 100, 101, 120]⟩)).1.val).p), .int .i64 (((stl st k q (hdl st q ⟨#[95, 95, 105, 110, 100, 101, 120]⟩)).1.val).q), .string (((stl st k q (hdl st q ⟨#[95, 95, 105, 110, 100, 101, 120]⟩)).1.val).str), .int .i64 (((stl st k q (hdl st q ⟨#[95, 95, 105, 110, 100, 101, 120]⟩)).1.val).ref), .int .i64 (((stl st k q (hdl st q ⟨#[95, 95, 105, 110, 100, 101, 120]⟩)).1.fn).kind), .int .i64 (((stl st k q (hdl st q ⟨#[95, 95, 105, 110, 100, 101, 120]⟩)).1.fn).p), .int .i64 (((stl st k q (hdl st q ⟨#[95, 95, 105, 110, 100, 101, 120]⟩)).1.fn).q), .string (((stl st k q (hdl st q ⟨#[95, 95, 105, 110, 100, 101, 120]⟩)).1.fn).str), .int .i64 (((stl st k q (hdl st q ⟨#[95, 95, 105, 110, 100, 101, 120]⟩)).1.fn).ref), (.slice none 0 0), .int .i64 ((stl st k q (hdl st q ⟨#[95, 95, 105, 110, 100, 101, 120]⟩)).1.after), .string ((stl st k q (hdl st q ⟨#[95, 95, 105, 110, 100, 101, 120]⟩)).1.str)]] (own VlT (.slice none 0 0) [] :: blkA gf #[.func (.func 24) #[.pointer (some ⟨b, 0, none⟩)] #[]] 58 :: blkA gk #[.int .i64 k.kind, .int .i64 k.p, .int .i64 k.q, .string k.str, .int .i64 k.ref] 26 :: hpA b st :: F) (SI.agg 10 51 6 SI.nil) (fun _ h => h.re [0, 1, 1, 1] [4, 4, 4, 4]) ⟨(.slice none 0 0), by rw [hc]; rfl, by rw [hc, stl_args]⟩
  ·
   refine k_st ?_
   refine k_seq ?_
   refine k_block ?_
   refine k_sr ?_
   refine sp (pB g6 0) ?_
   refine s_lt (t_load 4 (.int .i64 ((hdl st q ⟨#[95, 95, 105, 110, 100, 101, 120]⟩).kind))) ?_
   refine s_lt t_cmp ?_
   refine sp (.bool (decide ((hdl st q ⟨#[95, 95, 105, 110, 100, 101, 120]⟩).kind = 0))) ?_
   refine s_nt ?_
   refine k_cond (decide ((hdl st q ⟨#[95, 95, 105, 110, 100, 101, 120]⟩).kind = 0)) (fun c9 => ?_) (fun c9 => ?_)
   ·
    have p10 := of_decide_eq_true c9
    refine k_sr ?_
    refine s_lt (t_loadA 6 #[.int .i64 q.kind, .int .i64 q.p, .int .i64 q.q, .string q.str, .int .i64 q.ref]) ?_
    refine s_vcall (fun _ h => attempt_s q) ?_
    rintro _ rfl
    refine s_vcall (fun _ h => failed_s (attB q.kind)) ?_
    rintro _ rfl
    refine s_store 5 #[.int .i64 3, .int .i64 0, .int .i64 0, .int .i64 0, .string ByteArray.empty, .int .i64 0, .int .i64 0, .int .i64 0, .int .i64 0, .string ByteArray.empty, .int .i64 0, (.slice none 0 0), .int .i64 0, .string (attB q.kind)] ?_
    refine s_nt ?_
    refine k_ret ?_
    refine xs_retBlock ?_
    refine xs_ret ?_
    refine xs_retBlock ?_
    refine xs_ret ?_
    refine xs_ret ?_
    refine xs_retBlock ?_
    refine xs_ret ?_
    have hc : idx st k 32 v = failN (attB q.kind) := hi3.2.symm.trans (chn_none (by omega) c8 (of_decide_eq_true c9))
    refine xs_mem (fun _ h => Holds.nilS (T := VlT) h) ?_
    exact xs_fin [.agg #[.int .i64 3, .int .i64 0, .int .i64 0, .int .i64 0, .string ByteArray.empty, .int .i64 0, .int .i64 0, .int .i64 0, .int .i64 0, .string ByteArray.empty, .int .i64 0, (.slice none 0 0), .int .i64 0, .string (attB q.kind)]] (own VlT (.slice none 0 0) [] :: blkA gf #[.func (.func 24) #[.pointer (some ⟨b, 0, none⟩)] #[]] 58 :: blkA gk #[.int .i64 k.kind, .int .i64 k.p, .int .i64 k.q, .string k.str, .int .i64 k.ref] 26 :: hpA b st :: F) (SI.agg 10 51 6 SI.nil) (fun _ h => h.re [0, 1, 1, 1] [4, 4, 4, 4]) ⟨(.slice none 0 0), by rw [hc]; rfl, by rw [hc]; rfl⟩
   ·
    have p11 := of_decide_eq_false c9
    refine k_sr ?_
    refine s_lt (t_loadA 4 #[.int .i64 ((hdl st q ⟨#[95, 95, 105, 110, 100, 101, 120]⟩).kind), .int .i64 ((hdl st q ⟨#[95, 95, 105, 110, 100, 101, 120]⟩).p), .int .i64 ((hdl st q ⟨#[95, 95, 105, 110, 100, 101, 120]⟩).q), .string ((hdl st q ⟨#[95, 95, 105, 110, 100, 101, 120]⟩).str), .int .i64 ((hdl st q ⟨#[95, 95, 105, 110, 100, 101, 120]⟩).ref)]) ?_
    refine s_vcall (fun _ h => fun_s (hdl st q ⟨#[95, 95, 105, 110, 100, 101, 120]⟩)) ?_
    rintro _ rfl
    refine sp (.bool (fnB (hdl st q ⟨#[95, 95, 105, 110, 100, 101, 120]⟩))) ?_
    refine s_nt ?_
    refine k_cond (fnB (hdl st q ⟨#[95, 95, 105, 110, 100, 101, 120]⟩)) (fun c12 => ?_) (fun c12 => ?_)
    ·
     refine k_sr ?_
     refine sp (.func (.func 57) #[] #[pB gk 0]) ?_
     refine s_lt (t_loadA 6 #[.int .i64 q.kind, .int .i64 q.p, .int .i64 q.q, .string q.str, .int .i64 q.ref]) ?_
     refine s_lt (t_loadA 4 #[.int .i64 ((hdl st q ⟨#[95, 95, 105, 110, 100, 101, 120]⟩).kind), .int .i64 ((hdl st q ⟨#[95, 95, 105, 110, 100, 101, 120]⟩).p), .int .i64 ((hdl st q ⟨#[95, 95, 105, 110, 100, 101, 120]⟩).q), .string ((hdl st q ⟨#[95, 95, 105, 110, 100, 101, 120]⟩).str), .int .i64 ((hdl st q ⟨#[95, 95, 105, 110, 100, 101, 120]⟩).ref)]) ?_
     refine s_callL [2] (icall_s (k := k) q (hdl st q ⟨#[95, 95, 105, 110, 100, 101, 120]⟩)) ?_
     rintro _ _ ⟨av13, rfl, rfl⟩
     refine s_fact (fun H h => ((Acc.own (T := VlT) (L := [q, k]) 0 rfl) H h).form) (fun hf14 => ?_)
     refine s_store (u := .agg #[.int .i64 ((callN (hdl st q ⟨#[95, 95, 105, 110, 100, 101, 120]⟩) 1 [q, k]).kind), .int .i64 (((callN (hdl st q ⟨#[95, 95, 105, 110, 100, 101, 120]⟩) 1 [q, k]).val).kind), .int .i64 (((callN (hdl st q ⟨#[95, 95, 105, 110, 100, 101, 120]⟩) 1 [q, k]).val).p), .int .i64 (((callN (hdl st q ⟨#[95, 95, 105, 110, 100, 101, 120]⟩) 1 [q, k]).val).q), .string (((callN (hdl st q ⟨#[95, 95, 105, 110, 100, 101, 120]⟩) 1 [q, k]).val).str), .int .i64 (((callN (hdl st q ⟨#[95, 95, 105, 110, 100, 101, 120]⟩) 1 [q, k]).val).ref), .int .i64 (((callN (hdl st q ⟨#[95, 95, 105, 110, 100, 101, 120]⟩) 1 [q, k]).fn).kind), .int .i64 (((callN (hdl st q ⟨#[95, 95, 105, 110, 100, 101, 120]⟩) 1 [q, k]).fn).p), .int .i64 (((callN (hdl st q ⟨#[95, 95, 105, 110, 100, 101, 120]⟩) 1 [q, k]).fn).q), .string (((callN (hdl st q ⟨#[95, 95, 105, 110, 100, 101, 120]⟩) 1 [q, k]).fn).str), .int .i64 (((callN (hdl st q ⟨#[95, 95, 105, 110, 100, 101, 120]⟩) 1 [q, k]).fn).ref), av13, .int .i64 ((callN (hdl st q ⟨#[95, 95, 105, 110, 100, 101, 120]⟩) 1 [q, k]).after), .string ((callN (hdl st q ⟨#[95, 95, 105, 110, 100, 101, 120]⟩) 1 [q, k]).str)]) (m := 14) 6 #[.int .i64 ((callN (hdl st q ⟨#[95, 95, 105, 110, 100, 101, 120]⟩) 1 [q, k]).kind), .int .i64 (((callN (hdl st q ⟨#[95, 95, 105, 110, 100, 101, 120]⟩) 1 [q, k]).val).kind), .int .i64 (((callN (hdl st q ⟨#[95, 95, 105, 110, 100, 101, 120]⟩) 1 [q, k]).val).p), .int .i64 (((callN (hdl st q ⟨#[95, 95, 105, 110, 100, 101, 120]⟩) 1 [q, k]).val).q), .string (((callN (hdl st q ⟨#[95, 95, 105, 110, 100, 101, 120]⟩) 1 [q, k]).val).str), .int .i64 (((callN (hdl st q ⟨#[95, 95, 105, 110, 100, 101, 120]⟩) 1 [q, k]).val).ref), .int .i64 (((callN (hdl st q ⟨#[95, 95, 105, 110, 100, 101, 120]⟩) 1 [q, k]).fn).kind), .int .i64 (((callN (hdl st q ⟨#[95, 95, 105, 110, 100, 101, 120]⟩) 1 [q, k]).fn).p), .int .i64 (((callN (hdl st q ⟨#[95, 95, 105, 110, 100, 101, 120]⟩) 1 [q, k]).fn).q), .string (((callN (hdl st q ⟨#[95, 95, 105, 110, 100, 101, 120]⟩) 1 [q, k]).fn).str), .int .i64 (((callN (hdl st q ⟨#[95, 95, 105, 110, 100, 101, 120]⟩) 1 [q, k]).fn).ref), av13, .int .i64 ((callN (hdl st q ⟨#[95, 95, 105, 110, 100, 101, 120]⟩) 1 [q, k]).after), .string ((callN (hdl st q ⟨#[95, 95, 105, 110, 100, 101, 120]⟩) 1 [q, k]).str)] ?_ (hm := by (obtain ⟨_, _, e⟩ := hf14; rw [e]; rfl)) (h1 := by (obtain ⟨_, _, e⟩ := hf14; rw [e]; rfl)) (ha' := by (obtain ⟨_, _, e⟩ := hf14; rw [e]; rfl))
     refine s_nt ?_
     refine k_ret ?_
     refine xs_retBlock ?_
     refine xs_ret ?_
     refine xs_retBlock ?_
     refine xs_ret ?_
     refine xs_ret ?_
     refine xs_retBlock ?_
     refine xs_ret ?_
     have hc : idx st k 32 v = callN (hdl st q ⟨#[95, 95, 105, 110, 100, 101, 120]⟩) 1 [q, k] := hi3.2.symm.trans (chn_call (by omega) c8 (of_decide_eq_false c9) c12)
     exact xs_fin [.agg #[.int .i64 ((callN (hdl st q ⟨#[95, 95, 105, 110, 100, 101, 120]⟩) 1 [q, k]).kind), .int .i64 (((callN (hdl st q ⟨#[95, 95, 105, 110, 100, 101, 120]⟩) 1 [q, k]).val).kind), .int .i64 (((callN (hdl st q ⟨#[95, 95, 105, 110, 100, 101, 120]⟩) 1 [q, k]).val).p), .int .i64 (((callN (hdl st q ⟨#[95, 95, 105, 110, 100, 101, 120]⟩) 1 [q, k]).val).q), .string (((callN (hdl st q ⟨#[95, 95, 105, 110, 100, 101, 120]⟩) 1 [q, k]).val).str), .int .i64 (((callN (hdl st q ⟨#[95, 95, 105, 110, 100, 101, 120]⟩) 1 [q, k]).val).ref), .int .i64 (((callN (hdl st q ⟨#[95, 95, 105, 110, 100, 101, 120]⟩) 1 [q, k]).fn).kind), .int .i64 (((callN (hdl st q ⟨#[95, 95, 105, 110, 100, 101, 120]⟩) 1 [q, k]).fn).p), .int .i64 (((callN (hdl st q ⟨#[95, 95, 105, 110, 100, 101, 120]⟩) 1 [q, k]).fn).q), .string (((callN (hdl st q ⟨#[95, 95, 105, 110, 100, 101, 120]⟩) 1 [q, k]).fn).str), .int .i64 (((callN (hdl st q ⟨#[95, 95, 105, 110, 100, 101, 120]⟩) 1 [q, k]).fn).ref), av13, .int .i64 ((callN (hdl st q ⟨#[95, 95, 105, 110, 100, 101, 120]⟩) 1 [q, k]).after), .string ((callN (hdl st q ⟨#[95, 95, 105, 110, 100, 101, 120]⟩) 1 [q, k]).str)]] (own VlT av13 [q, k] :: blkA gf #[.func (.func 24) #[.pointer (some ⟨b, 0, none⟩)] #[]] 58 :: blkA gk #[.int .i64 k.kind, .int .i64 k.p, .int .i64 k.q, .string k.str, .int .i64 k.ref] 26 :: hpA b st :: F) (SI.agg 10 51 6 SI.nil) (fun _ h => h.re [0, 2, 0, 1] [4, 4, 4, 4]) ⟨av13, by rw [hc]; rfl, by rw [hc]; rfl⟩
    ·
     refine k_skip ?_
     refine xs_block ?_
     refine xs_then ?_
     refine k_reg ?_
     refine s_lt (t_loadA 4 #[.int .i64 ((hdl st q ⟨#[95, 95, 105, 110, 100, 101, 120]⟩).kind), .int .i64 ((hdl st q ⟨#[95, 95, 105, 110, 100, 101, 120]⟩).p), .int .i64 ((hdl st q ⟨#[95, 95, 105, 110, 100, 101, 120]⟩).q), .string ((hdl st q ⟨#[95, 95, 105, 110, 100, 101, 120]⟩).str), .int .i64 ((hdl st q ⟨#[95, 95, 105, 110, 100, 101, 120]⟩).ref)]) ?_
     refine s_store 6 #[.int .i64 ((hdl st q ⟨#[95, 95, 105, 110, 100, 101, 120]⟩).kind), .int .i64 ((hdl st q ⟨#[95, 95, 105, 110, 100, 101, 120]⟩).p), .int .i64 ((hdl st q ⟨#[95, 95, 105, 110, 100, 101, 120]⟩).q), .string ((hdl st q ⟨#[95, 95, 105, 110, 100, 101, 120]⟩).str), .int .i64 ((hdl st q ⟨#[95, 95, 105, 110, 100, 101, 120]⟩).ref)] ?_
     refine s_nil ?_
     refine xs_block ?_
     refine xs_then ?_
     refine k_reg ?_
     refine s_lt (t_add (i : Int) 1 (by (try simp only [lnm]); omega)) ?_
     refine sp (.int .i64 ((i : Int) + 1)) ?_
     refine s_nil ?_
     exact xs_round ((hdl st q ⟨#[95, 95, 105, 110, 100, 101, 120]⟩), i + 1) (by show 32 - (i + 1) < 32 - i; omega) (by show i + 1 ≤ 32 ∧ _; exact ⟨by omega, (chn_step (i := i) (q := q) (by omega) c8 (of_decide_eq_false c9) c12).trans hi3.2⟩) (sub_of rfl ⟨⟨rfl, rfl⟩, ⟨⟨rfl, rfl⟩, ⟨⟨rfl, rfl⟩, ⟨⟨rfl, rfl⟩, ⟨⟨rfl, rfl⟩, ⟨⟨rfl, rfl⟩, ⟨⟨rfl, rfl⟩, trivial⟩⟩⟩⟩⟩⟩⟩) (fun _ h => h.re [5, 5, 1, 1, 1] [5, 5])
 ·
  have p15 := of_decide_eq_false c4
  refine k_exit ?_
  refine xs_exit ?_
  refine xs_exit ?_
  refine xs_here ?_
  refine xs_then ?_
  refine k_sr ?_
  refine s_vcall (fun _ h => failed_s ⟨#[99, 104, 97, 105, 110, 32, 111, 102, 32, 109, 101, 116, 97, 116, 97, 98, 108, 101, 115, 32, 116, 111, 111, 32, 108, 111, 110, 103]⟩) ?_
  rintro _ rfl
  refine s_store 0 #[.int .i64 3, .int .i64 0, .int .i64 0, .int .i64 0, .string ByteArray.empty, .int .i64 0, .int .i64 0, .int .i64 0, .int .i64 0, .string ByteArray.empty, .int .i64 0, (.slice none 0 0), .int .i64 0, .string ⟨#[99, 104, 97, 105, 110, 32, 111, 102, 32, 109, 101, 116, 97, 116, 97, 98, 108, 101, 115, 32, 116, 111, 111, 32, 108, 111, 110, 103]⟩] ?_
  refine s_nt ?_
  refine k_ret ?_
  have hc : idx st k 32 v = failN ⟨#[99, 104, 97, 105, 110, 32, 111, 102, 32, 109, 101, 116, 97, 116, 97, 98, 108, 101, 115, 32, 116, 111, 111, 32, 108, 111, 110, 103]⟩ := hi3.2.symm.trans (chn_end (by omega))
  refine xs_mem (fun _ h => Holds.nilS (T := VlT) h) ?_
  exact xs_fin [.agg #[.int .i64 3, .int .i64 0, .int .i64 0, .int .i64 0, .string ByteArray.empty, .int .i64 0, .int .i64 0, .int .i64 0, .int .i64 0, .string ByteArray.empty, .int .i64 0, (.slice none 0 0), .int .i64 0, .string ⟨#[99, 104, 97, 105, 110, 32, 111, 102, 32, 109, 101, 116, 97, 116, 97, 98, 108, 101, 115, 32, 116, 111, 111, 32, 108, 111, 110, 103]⟩]] (own VlT (.slice none 0 0) [] :: blkA gf #[.func (.func 24) #[.pointer (some ⟨b, 0, none⟩)] #[]] 58 :: blkA gk #[.int .i64 k.kind, .int .i64 k.p, .int .i64 k.q, .string k.str, .int .i64 k.ref] 26 :: hpA b st :: F) (SI.agg 10 51 1 SI.nil) (fun _ h => h.re [0, 2, 2, 2] [4, 4]) ⟨(.slice none 0 0), by rw [hc]; rfl, by rw [hc]; rfl⟩
theorem index_s {Z : Zone} {F : List Asr} {b : Nat} {st : Hst} {n : Nat} (hsm : HSm n st) (hn : n ≤ 300) (v k : Vl) : SF Try.prog 20 #[.pointer (some ⟨b, 0, none⟩), v.v, k.v] Z (hpA b st :: F) fun r Bs => ∃ av, r = (idx st k 32 v).w av ∧ Bs = own VlT av (idx st k 32 v).args :: hpA b st :: F := by
 refine sf_enter Try.func20 17 [(0, pB b 0), (1, .agg #[.int .i64 v.kind, .int .i64 v.p, .int .i64 v.q, .string v.str, .int .i64 v.ref]), (2, .agg #[.int .i64 k.kind, .int .i64 k.p, .int .i64 k.q, .string k.str, .int .i64 k.ref])] (fun w0 => ?_)
 have hlen0 := hsm.len
 refine k_sr ?_
 refine s_box #[.int .i64 v.kind, .int .i64 v.p, .int .i64 v.q, .string v.str, .int .i64 v.ref] (fun g1 => ?_)
 refine s_box #[.int .i64 k.kind, .int .i64 k.p, .int .i64 k.q, .string k.str, .int .i64 k.ref] (fun g2 => ?_)
 refine s_alloc (.agg #[.int .i64 0, .int .i64 0, .int .i64 0, .int .i64 0, .string ByteArray.empty, .int .i64 0, .int .i64 0, .int .i64 0, .int .i64 0, .string ByteArray.empty, .int .i64 0, (.slice none 0 0), .int .i64 0, .string ByteArray.empty]) #[.int .i64 0, .int .i64 0, .int .i64 0, .int .i64 0, .string ByteArray.empty, .int .i64 0, .int .i64 0, .int .i64 0, .int .i64 0, .string ByteArray.empty, .int .i64 0, (.slice none 0 0), .int .i64 0, .string ByteArray.empty] (fun g3 => ?_)
 refine s_nr ?_
 refine sp (pB b 0) ?_
 refine s_lt (t_clo 24 [pB b 0] []) ?_
 refine s_alloc (.nilFunc) #[.nilFunc] (fun g4 => ?_)
 refine s_store 0 #[.func (.func 24) #[pB b 0] #[]] ?_
 refine s_nr ?_
 refine s_lt (t_clo 53 [] [pB g4 0, pB g2 0]) ?_
 refine sp (.func (.func 53) #[] #[pB g4 0, pB g2 0]) ?_
 refine s_nr ?_
 refine sp (pB b 0) ?_
 refine s_lt (t_loadA 3 #[.int .i64 v.kind, .int .i64 v.p, .int .i64 v.q, .string v.str, .int .i64 v.ref]) ?_
 refine sp (.func (.func 53) #[] #[pB g4 0, pB g2 0]) ?_
 refine s_lt (t_clo 57 [] [pB g2 0]) ?_
 refine s_call [0, 1, 2] (chain_s (k := k) (st := st) hsm (by omega) v) ?_
 rintro _ _ ⟨av5, rfl, rfl⟩
 refine s_fact (fun H h => ((Acc.own (T := VlT) (L := (idx st k 32 v).args) 0 rfl) H h).form) (fun hf6 => ?_)
 refine s_store (u := .agg #[.int .i64 ((idx st k 32 v).kind), .int .i64 (((idx st k 32 v).val).kind), .int .i64 (((idx st k 32 v).val).p), .int .i64 (((idx st k 32 v).val).q), .string (((idx st k 32 v).val).str), .int .i64 (((idx st k 32 v).val).ref), .int .i64 (((idx st k 32 v).fn).kind), .int .i64 (((idx st k 32 v).fn).p), .int .i64 (((idx st k 32 v).fn).q), .string (((idx st k 32 v).fn).str), .int .i64 (((idx st k 32 v).fn).ref), av5, .int .i64 ((idx st k 32 v).after), .string ((idx st k 32 v).str)]) (m := 14) 4 #[.int .i64 ((idx st k 32 v).kind), .int .i64 (((idx st k 32 v).val).kind), .int .i64 (((idx st k 32 v).val).p), .int .i64 (((idx st k 32 v).val).q), .string (((idx st k 32 v).val).str), .int .i64 (((idx st k 32 v).val).ref), .int .i64 (((idx st k 32 v).fn).kind), .int .i64 (((idx st k 32 v).fn).p), .int .i64 (((idx st k 32 v).fn).q), .string (((idx st k 32 v).fn).str), .int .i64 (((idx st k 32 v).fn).ref), av5, .int .i64 ((idx st k 32 v).after), .string ((idx st k 32 v).str)] ?_ (hm := by (obtain ⟨_, _, e⟩ := hf6; rw [e]; rfl)) (h1 := by (obtain ⟨_, _, e⟩ := hf6; rw [e]; rfl)) (ha' := by (obtain ⟨_, _, e⟩ := hf6; rw [e]; rfl))
 refine s_nt ?_
 refine k_ret ?_
 exact xs_fin [.agg #[.int .i64 ((idx st k 32 v).kind), .int .i64 (((idx st k 32 v).val).kind), .int .i64 (((idx st k 32 v).val).p), .int .i64 (((idx st k 32 v).val).q), .string (((idx st k 32 v).val).str), .int .i64 (((idx st k 32 v).val).ref), .int .i64 (((idx st k 32 v).fn).kind), .int .i64 (((idx st k 32 v).fn).p), .int .i64 (((idx st k 32 v).fn).q), .string (((idx st k 32 v).fn).str), .int .i64 (((idx st k 32 v).fn).ref), av5, .int .i64 ((idx st k 32 v).after), .string ((idx st k 32 v).str)]] (own VlT av5 ((idx st k 32 v).args) :: hpA b st :: F) (SI.agg 6 51 4 SI.nil) (fun _ h => h.re [0, 2] [2, 2, 2, 2]) ⟨_, rfl, rfl⟩
end Go.Proofs.Ytplkkhpokodbmaa
