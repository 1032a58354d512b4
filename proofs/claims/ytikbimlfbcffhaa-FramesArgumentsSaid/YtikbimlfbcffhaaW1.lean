/-
  The functions of layer 43 and of its reference that push, pop, replace.
-/
import Derived.Test.YtikbimlfbcffhaaDefs
set_option linter.unusedSimpArgs false
set_option linter.unusedVariables false
set_option maxRecDepth 100000
namespace Go.Proofs.Ytikbimlfbcffhaa
open Go.Hp Go.J
open Go.Mem (Ty KTy blk elemAt pre suf blk_pre blk_suf aget aset strK)

theorem right_ok (f : Fr) (H : Heap) : HC Try.prog 34 #[f.v] H fun v H' => v = .bool (rightB f) ∧ Chg (fun _ => False) H H' := by
  refine enter Try.func34 rfl 21 rfl rfl [(0, .agg #[.string f.name, .int .i64 f.line, .int .i64 f.base, .int .i64 f.extra, .int .i64 f.want, .bool f.tail])] rfl (fun w0 => ?_)
  have hT : Chg (fun _ => False) H H := Chg.refl _ _
  refine c_seq ?_
  refine c_reg ?_
  refine l_box rfl (.agg #[.string f.name, .int .i64 f.line, .int .i64 f.base, .int .i64 f.extra, .int .i64 f.want, .bool f.tail]) #[.string f.name, .int .i64 f.line, .int .i64 f.base, .int .i64 f.extra, .int .i64 f.want, .bool f.tail] rfl rfl rfl (fun g2 H3 n4 => ?_)
  have e5 := n4.at_; have e6 := n4.size
  replace hT := hT.trans' (n4.chg fun _ => False) (fun _ h _ => h.elim)
  have B1 := n4.is
  refine l_pure (.bool false) rfl (fun _ => rfl) ?_
  refine l_nil ?_
  refine x_then ?_
  refine c_seq ?_
  refine c_reg ?_
  refine l_pure (.pointer (some ⟨g2, 1, none⟩)) rfl (fun _ => rfl) ?_
  refine l_loadC rfl g2 1 #[.string f.name, .int .i64 f.line, .int .i64 f.base, .int .i64 f.extra, .int .i64 f.want, .bool f.tail] _ _ (.int .i64 f.line) rfl rfl (by kernel_rfl) B1 rfl ?_
  refine l_cmp rfl .i64 f.line 0 (decide ((0 : Int) ≤ f.line)) rfl rfl rfl rfl ?_
  refine l_pure (.bool (decide ((0 : Int) ≤ f.line))) rfl (fun _ => rfl) ?_
  refine l_fork 6 (decide ((0 : Int) ≤ f.line)) rfl rfl (fun c7 => ?_) (fun c7 => ?_)
  · have p8 := of_decide_eq_true c7
    refine l_pure (.pointer (some ⟨g2, 2, none⟩)) rfl (fun _ => rfl) ?_
    refine l_loadC rfl g2 2 #[.string f.name, .int .i64 f.line, .int .i64 f.base, .int .i64 f.extra, .int .i64 f.want, .bool f.tail] _ _ (.int .i64 f.base) rfl rfl (by kernel_rfl) B1 rfl ?_
    refine l_cmp rfl .i64 f.base 0 (decide ((0 : Int) ≤ f.base)) rfl rfl rfl rfl ?_
    refine l_pure (.bool (decide ((0 : Int) ≤ f.base))) rfl (fun _ => rfl) ?_
    refine l_pure (.bool (decide ((0 : Int) ≤ f.base))) rfl (fun _ => rfl) ?_
    refine l_fork 11 (decide ((0 : Int) ≤ f.base)) rfl rfl (fun c9 => ?_) (fun c9 => ?_)
    · have p10 := of_decide_eq_true c9
      refine l_pure (.pointer (some ⟨g2, 3, none⟩)) rfl (fun _ => rfl) ?_
      refine l_loadC rfl g2 3 #[.string f.name, .int .i64 f.line, .int .i64 f.base, .int .i64 f.extra, .int .i64 f.want, .bool f.tail] _ _ (.int .i64 f.extra) rfl rfl (by kernel_rfl) B1 rfl ?_
      refine l_cmp rfl .i64 f.extra 0 (decide ((0 : Int) ≤ f.extra)) rfl rfl rfl rfl ?_
      refine l_pure (.bool (decide ((0 : Int) ≤ f.extra))) rfl (fun _ => rfl) ?_
      refine l_pure (.bool (decide ((0 : Int) ≤ f.extra))) rfl (fun _ => rfl) ?_
      refine l_fork 16 (decide ((0 : Int) ≤ f.extra)) rfl rfl (fun c11 => ?_) (fun c11 => ?_)
      · have p12 := of_decide_eq_true c11
        refine l_pure (.pointer (some ⟨g2, 4, none⟩)) rfl (fun _ => rfl) ?_
        refine l_loadC rfl g2 4 #[.string f.name, .int .i64 f.line, .int .i64 f.base, .int .i64 f.extra, .int .i64 f.want, .bool f.tail] _ _ (.int .i64 f.want) rfl rfl (by kernel_rfl) B1 rfl ?_
        refine l_cmp rfl .i64 f.want (-1) (decide ((-1) ≤ f.want)) rfl rfl rfl rfl ?_
        refine l_pure (.bool (decide ((-1) ≤ f.want))) rfl (fun _ => rfl) ?_
        refine l_pure (.bool (decide ((-1) ≤ f.want))) rfl (fun _ => rfl) ?_
        refine l_nil ?_
        refine x_then ?_
        refine c_ret ?_
        refine x_fin (.bool (decide ((-1) ≤ f.want))) (res_of (vs := [.bool (decide ((-1) ≤ f.want))]) rfl (.cons (.tmp _ (.bool (decide ((-1) ≤ f.want))) rfl rfl) .nil)) ?_
        refine ⟨?_, hT⟩
        first | (simp [rightB, p8, p10, p12]; done) | (simp [rightB, p8, p10, p12]; rw [Bool.eq_iff_iff]; simp; omega)
      · have p13 := of_decide_eq_false c11
        refine l_skip rfl rfl ?_
        refine l_skip rfl rfl ?_
        refine l_skip rfl rfl ?_
        refine l_pure (.bool false) rfl (fun _ => rfl) ?_
        refine l_pure (.bool false) rfl (fun _ => rfl) ?_
        refine l_nil ?_
        refine x_then ?_
        refine c_ret ?_
        refine x_fin (.bool false) (res_of (vs := [.bool false]) rfl (.cons (.tmp _ (.bool false) rfl rfl) .nil)) ?_
        refine ⟨?_, hT⟩
        first | (simp [rightB, p8, p10, p13]; done) | (simp [rightB, p8, p10, p13]; rw [Bool.eq_iff_iff]; simp; omega)
    · have p14 := of_decide_eq_false c9
      refine l_skip rfl rfl ?_
      refine l_skip rfl rfl ?_
      refine l_skip rfl rfl ?_
      refine l_pure (.bool false) rfl (fun _ => rfl) ?_
      refine l_pure (.bool false) rfl (fun _ => rfl) ?_
      refine l_skip rfl rfl ?_
      refine l_skip rfl rfl ?_
      refine l_skip rfl rfl ?_
      refine l_pure (.bool false) rfl (fun _ => rfl) ?_
      refine l_pure (.bool false) rfl (fun _ => rfl) ?_
      refine l_nil ?_
      refine x_then ?_
      refine c_ret ?_
      refine x_fin (.bool false) (res_of (vs := [.bool false]) rfl (.cons (.tmp _ (.bool false) rfl rfl) .nil)) ?_
      refine ⟨?_, hT⟩
      first | (simp [rightB, p8, p14]; done) | (simp [rightB, p8, p14]; rw [Bool.eq_iff_iff]; simp; omega)
  · have p15 := of_decide_eq_false c7
    refine l_skip rfl rfl ?_
    refine l_skip rfl rfl ?_
    refine l_skip rfl rfl ?_
    refine l_pure (.bool false) rfl (fun _ => rfl) ?_
    refine l_pure (.bool false) rfl (fun _ => rfl) ?_
    refine l_skip rfl rfl ?_
    refine l_skip rfl rfl ?_
    refine l_skip rfl rfl ?_
    refine l_pure (.bool false) rfl (fun _ => rfl) ?_
    refine l_pure (.bool false) rfl (fun _ => rfl) ?_
    refine l_skip rfl rfl ?_
    refine l_skip rfl rfl ?_
    refine l_skip rfl rfl ?_
    refine l_pure (.bool false) rfl (fun _ => rfl) ?_
    refine l_pure (.bool false) rfl (fun _ => rfl) ?_
    refine l_nil ?_
    refine x_then ?_
    refine c_ret ?_
    refine x_fin (.bool false) (res_of (vs := [.bool false]) rfl (.cons (.tmp _ (.bool false) rfl rfl) .nil)) ?_
    refine ⟨?_, hT⟩
    first | (simp [rightB, p15]; done) | (simp [rightB, p15]; rw [Bool.eq_iff_iff]; simp; omega)
theorem wrong_ok (f : Fr) (H : Heap) : HC Try.prog 35 #[f.v] H fun v H' => v = .bool (!rightB f) ∧ Chg (fun _ => False) H H' := by
  refine enter Try.func35 rfl 21 rfl rfl [(0, .agg #[.string f.name, .int .i64 f.line, .int .i64 f.base, .int .i64 f.extra, .int .i64 f.want, .bool f.tail])] rfl (fun w0 => ?_)
  have hT : Chg (fun _ => False) H H := Chg.refl _ _
  refine c_seq ?_
  refine c_reg ?_
  refine l_box rfl (.agg #[.string f.name, .int .i64 f.line, .int .i64 f.base, .int .i64 f.extra, .int .i64 f.want, .bool f.tail]) #[.string f.name, .int .i64 f.line, .int .i64 f.base, .int .i64 f.extra, .int .i64 f.want, .bool f.tail] rfl rfl rfl (fun g2 H3 n4 => ?_)
  have e5 := n4.at_; have e6 := n4.size
  replace hT := hT.trans' (n4.chg fun _ => False) (fun _ h _ => h.elim)
  have B1 := n4.is
  refine l_pure (.bool false) rfl (fun _ => rfl) ?_
  refine l_nil ?_
  refine x_then ?_
  refine c_seq ?_
  refine c_reg ?_
  refine l_pure (.pointer (some ⟨g2, 1, none⟩)) rfl (fun _ => rfl) ?_
  refine l_loadC rfl g2 1 #[.string f.name, .int .i64 f.line, .int .i64 f.base, .int .i64 f.extra, .int .i64 f.want, .bool f.tail] _ _ (.int .i64 f.line) rfl rfl (by kernel_rfl) B1 rfl ?_
  refine l_cmp rfl .i64 f.line 0 (decide (f.line < 0)) rfl rfl rfl rfl ?_
  refine l_pure (.bool (decide (f.line < 0))) rfl (fun _ => rfl) ?_
  refine l_fork 6 (decide (f.line < 0)) rfl rfl (fun c7 => ?_) (fun c7 => ?_)
  · have p8 := of_decide_eq_true c7
    refine l_skip rfl rfl ?_
    refine l_skip rfl rfl ?_
    refine l_skip rfl rfl ?_
    refine l_pure (.bool true) rfl (fun _ => rfl) ?_
    refine l_pure (.bool true) rfl (fun _ => rfl) ?_
    refine l_skip rfl rfl ?_
    refine l_skip rfl rfl ?_
    refine l_skip rfl rfl ?_
    refine l_pure (.bool true) rfl (fun _ => rfl) ?_
    refine l_pure (.bool true) rfl (fun _ => rfl) ?_
    refine l_skip rfl rfl ?_
    refine l_skip rfl rfl ?_
    refine l_skip rfl rfl ?_
    refine l_pure (.bool true) rfl (fun _ => rfl) ?_
    refine l_pure (.bool true) rfl (fun _ => rfl) ?_
    refine l_nil ?_
    refine x_then ?_
    refine c_ret ?_
    refine x_fin (.bool true) (res_of (vs := [.bool true]) rfl (.cons (.tmp _ (.bool true) rfl rfl) .nil)) ?_
    refine ⟨?_, hT⟩
    first | (simp [rightB, p8]; done) | (simp [rightB, p8]; rw [Bool.eq_iff_iff]; simp; omega)
  · have p9 := of_decide_eq_false c7
    refine l_pure (.pointer (some ⟨g2, 2, none⟩)) rfl (fun _ => rfl) ?_
    refine l_loadC rfl g2 2 #[.string f.name, .int .i64 f.line, .int .i64 f.base, .int .i64 f.extra, .int .i64 f.want, .bool f.tail] _ _ (.int .i64 f.base) rfl rfl (by kernel_rfl) B1 rfl ?_
    refine l_cmp rfl .i64 f.base 0 (decide (f.base < 0)) rfl rfl rfl rfl ?_
    refine l_pure (.bool (decide (f.base < 0))) rfl (fun _ => rfl) ?_
    refine l_pure (.bool (decide (f.base < 0))) rfl (fun _ => rfl) ?_
    refine l_fork 11 (decide (f.base < 0)) rfl rfl (fun c10 => ?_) (fun c10 => ?_)
    · have p11 := of_decide_eq_true c10
      refine l_skip rfl rfl ?_
      refine l_skip rfl rfl ?_
      refine l_skip rfl rfl ?_
      refine l_pure (.bool true) rfl (fun _ => rfl) ?_
      refine l_pure (.bool true) rfl (fun _ => rfl) ?_
      refine l_skip rfl rfl ?_
      refine l_skip rfl rfl ?_
      refine l_skip rfl rfl ?_
      refine l_pure (.bool true) rfl (fun _ => rfl) ?_
      refine l_pure (.bool true) rfl (fun _ => rfl) ?_
      refine l_nil ?_
      refine x_then ?_
      refine c_ret ?_
      refine x_fin (.bool true) (res_of (vs := [.bool true]) rfl (.cons (.tmp _ (.bool true) rfl rfl) .nil)) ?_
      refine ⟨?_, hT⟩
      first | (simp [rightB, p9, p11]; done) | (simp [rightB, p9, p11]; rw [Bool.eq_iff_iff]; simp; omega)
    · have p12 := of_decide_eq_false c10
      refine l_pure (.pointer (some ⟨g2, 3, none⟩)) rfl (fun _ => rfl) ?_
      refine l_loadC rfl g2 3 #[.string f.name, .int .i64 f.line, .int .i64 f.base, .int .i64 f.extra, .int .i64 f.want, .bool f.tail] _ _ (.int .i64 f.extra) rfl rfl (by kernel_rfl) B1 rfl ?_
      refine l_cmp rfl .i64 f.extra 0 (decide (f.extra < 0)) rfl rfl rfl rfl ?_
      refine l_pure (.bool (decide (f.extra < 0))) rfl (fun _ => rfl) ?_
      refine l_pure (.bool (decide (f.extra < 0))) rfl (fun _ => rfl) ?_
      refine l_fork 16 (decide (f.extra < 0)) rfl rfl (fun c13 => ?_) (fun c13 => ?_)
      · have p14 := of_decide_eq_true c13
        refine l_skip rfl rfl ?_
        refine l_skip rfl rfl ?_
        refine l_skip rfl rfl ?_
        refine l_pure (.bool true) rfl (fun _ => rfl) ?_
        refine l_pure (.bool true) rfl (fun _ => rfl) ?_
        refine l_nil ?_
        refine x_then ?_
        refine c_ret ?_
        refine x_fin (.bool true) (res_of (vs := [.bool true]) rfl (.cons (.tmp _ (.bool true) rfl rfl) .nil)) ?_
        refine ⟨?_, hT⟩
        first | (simp [rightB, p9, p12, p14]; done) | (simp [rightB, p9, p12, p14]; rw [Bool.eq_iff_iff]; simp; omega)
      · have p15 := of_decide_eq_false c13
        refine l_pure (.pointer (some ⟨g2, 4, none⟩)) rfl (fun _ => rfl) ?_
        refine l_loadC rfl g2 4 #[.string f.name, .int .i64 f.line, .int .i64 f.base, .int .i64 f.extra, .int .i64 f.want, .bool f.tail] _ _ (.int .i64 f.want) rfl rfl (by kernel_rfl) B1 rfl ?_
        refine l_cmp rfl .i64 f.want (-1) (decide (f.want < (-1))) rfl rfl rfl rfl ?_
        refine l_pure (.bool (decide (f.want < (-1)))) rfl (fun _ => rfl) ?_
        refine l_pure (.bool (decide (f.want < (-1)))) rfl (fun _ => rfl) ?_
        refine l_nil ?_
        refine x_then ?_
        refine c_ret ?_
        refine x_fin (.bool (decide (f.want < (-1)))) (res_of (vs := [.bool (decide (f.want < (-1)))]) rfl (.cons (.tmp _ (.bool (decide (f.want < (-1)))) rfl rfl) .nil)) ?_
        refine ⟨?_, hT⟩
        first | (simp [rightB, p9, p12, p15]; done) | (simp [rightB, p9, p12, p15]; rw [Bool.eq_iff_iff]; simp; omega)
theorem push_ok (f : Fr) (H : Heap) (b : Nat) (L : List Fr) (fp : Nat → Prop) (hS : FS H b L fp) : HC Try.prog 23 #[.pointer (some ⟨b, 0, none⟩), f.v] H fun v H' => v = .int .i64 (pushR L f).1 ∧ ∃ fp', FS H' b (pushR L f).2 fp' ∧ Chg fp H H' ∧ ∀ k, fp' k → fp k ∨ H.size ≤ k := by
  obtain ⟨sv, mb, m, hB, hV, hM, hbm, hne, hfp⟩ := hS
  have s0 : ∀ k, blk sv = some k → k ≠ b ∧ k ≠ mb ∧ k < H.size := fun k hk => ⟨(hne k hk).1, (hne k hk).2, hV.lt hk⟩
  have o0 : ∀ k, blk sv = some k → k < H.size → fp k := fun k hk _ => (hfp k).2 (.inr (.inr hk))
  have lb := lt_of_some hB
  have lm := hM.lt
  have lL : L.length ≤ 9223372036854775807 := hV.sl.len_le
  refine enter Try.func23 rfl 37 rfl rfl [(0, .pointer (some ⟨b, 0, none⟩)), (1, .agg #[.string f.name, .int .i64 f.line, .int .i64 f.base, .int .i64 f.extra, .int .i64 f.want, .bool f.tail])] rfl (fun w0 => ?_)
  have hT : Chg fp H H := Chg.refl _ _
  refine c_seq ?_
  refine c_reg ?_
  refine l_box rfl (.agg #[.string f.name, .int .i64 f.line, .int .i64 f.base, .int .i64 f.extra, .int .i64 f.want, .bool f.tail]) #[.string f.name, .int .i64 f.line, .int .i64 f.base, .int .i64 f.extra, .int .i64 f.want, .bool f.tail] rfl rfl rfl (fun g2 H3 n4 => ?_)
  have e5 := n4.at_; have e6 := n4.size
  replace hB := (n4.chg fun _ => False).get hB (fun h => h)
  replace hV := hV.chg (n4.chg fun _ => False) (fun _ _ h => h)
  replace hM := hM.chg (n4.chg fun _ => False) (fun h => h)
  replace hT := hT.trans' (n4.chg fun _ => False) (fun _ h _ => h.elim)
  have B1 := n4.is
  refine l_pure (.int .i64 0) rfl (fun _ => rfl) ?_
  refine l_nil ?_
  refine x_then ?_
  refine c_seq ?_
  refine c_block ?_
  refine c_seq ?_
  refine c_reg ?_
  refine l_pure (.pointer (some ⟨b, 0, none⟩)) rfl (fun _ => rfl) ?_
  refine l_pure (.bool false) rfl (fun _ => rfl) ?_
  refine l_pure (.bool false) rfl (fun _ => rfl) ?_
  refine l_nil ?_
  refine x_then ?_
  refine c_false rfl rfl ?_
  refine c_seq ?_
  refine c_reg ?_
  refine l_loadA rfl g2 0 6 #[.string f.name, .int .i64 f.line, .int .i64 f.base, .int .i64 f.extra, .int .i64 f.want, .bool f.tail] _ _ #[.string f.name, .int .i64 f.line, .int .i64 f.base, .int .i64 f.extra, .int .i64 f.want, .bool f.tail] rfl rfl (by kernel_rfl) B1 rfl rfl ?_
  refine l_call rfl [.agg #[.string f.name, .int .i64 f.line, .int .i64 f.base, .int .i64 f.extra, .int .i64 f.want, .bool f.tail]] rfl rfl (by kernel_rfl) (right_ok f _) ?_
  rintro _ H7 ⟨rfl, k8⟩
  have e9 := k8.size
  replace hB := k8.get hB (fun h => h)
  replace hV := hV.chg k8 (fun _ _ h => h)
  replace hM := hM.chg k8 (fun h => h)
  replace B1 := k8.get B1 (fun h => h)
  replace hT := hT.trans' k8 (fun _ h _ => h.elim)
  refine l_pure (.bool (!(rightB f))) rfl (fun _ => rfl) ?_
  refine l_pure (.bool (!(rightB f))) rfl (fun _ => rfl) ?_
  refine l_nil ?_
  refine x_then ?_
  refine c_cond (c := (!(rightB f))) rfl rfl (fun c10 => ?_) (fun c10 => ?_)
  · have p11 := c10
    refine c_seq ?_
    refine c_reg ?_
    refine l_pure (.int .i64 2) rfl (fun _ => rfl) ?_
    refine l_nil ?_
    refine x_then ?_
    refine c_ret ?_
    refine x_retBlock ?_
    refine x_ret ?_
    refine x_fin (.int .i64 2) (res_of (vs := [.int .i64 2]) rfl (.cons (.tmp _ (.int .i64 2) rfl rfl) .nil)) ?_
    have hp : pushR L f = (2, L) := by simp [pushR, p11]
    rw [hp]
    exact ⟨rfl, fun k => k = b ∨ k = mb ∨ blk sv = some k, ⟨sv, mb, _, hB, hV, hM, hbm, fun g hg => by have := s0 g hg; omega, fun k => Iff.rfl⟩, hT, fun k hk => by
      by_cases hl : k < H.size
      · left; rcases hk with rfl | rfl | hk
        · exact (hfp _).2 (.inl rfl)
        · exact (hfp _).2 (.inr (.inl rfl))
        · exact o0 k hk hl
      · right; omega⟩
  · have p12 := c10
    refine c_seq ?_
    refine c_reg ?_
    refine l_pure (.pointer (some ⟨b, 0, none⟩)) rfl (fun _ => rfl) ?_
    refine l_pure (.pointer (some ⟨b, 0, none⟩)) rfl (fun _ => rfl) ?_
    refine l_pure (.pointer (some ⟨b, 0, none⟩)) rfl (fun _ => rfl) ?_
    refine l_loadC rfl b 0 #[sv, .map (some mb)] _ _ sv rfl rfl (by kernel_rfl) hB rfl ?_
    refine l_len rfl FrT_ok Try.underlying61 rfl rfl hV.sl ?_
    refine l_cmp rfl .i64 (L.length : Int) 150 (decide ((150 : Int) ≤ (L.length : Int))) rfl rfl rfl rfl ?_
    refine l_pure (.bool (decide ((150 : Int) ≤ (L.length : Int)))) rfl (fun _ => rfl) ?_
    refine l_nil ?_
    refine x_then ?_
    refine c_cond (c := (decide ((150 : Int) ≤ (L.length : Int)))) rfl rfl (fun c13 => ?_) (fun c13 => ?_)
    · have p14 := of_decide_eq_true c13
      first
      | (exfalso; omega)
      | (refine c_seq ?_
         refine c_reg ?_
         refine l_pure (.int .i64 17) rfl (fun _ => rfl) ?_
         refine l_nil ?_
         refine x_then ?_
         refine c_ret ?_
         refine x_retBlock ?_
         refine x_ret ?_
         refine x_fin (.int .i64 17) (res_of (vs := [.int .i64 17]) rfl (.cons (.tmp _ (.int .i64 17) rfl rfl) .nil)) ?_
         have hp : pushR L f = (17, L) := by simp [pushR, p12, p14]
         rw [hp]
         exact ⟨rfl, fun k => k = b ∨ k = mb ∨ blk sv = some k, ⟨sv, mb, _, hB, hV, hM, hbm, fun g hg => by have := s0 g hg; omega, fun k => Iff.rfl⟩, hT, fun k hk => by
           by_cases hl : k < H.size
           · left; rcases hk with rfl | rfl | hk
             · exact (hfp _).2 (.inl rfl)
             · exact (hfp _).2 (.inr (.inl rfl))
             · exact o0 k hk hl
           · right; omega⟩)
    · have p15 := of_decide_eq_false c13
      first
      | (exfalso; omega)
      | (refine c_skip ?_
         refine x_block ?_
         refine x_then ?_
         refine c_seq ?_
         refine c_draw Try.mixed (by kernel_rfl) ?_
         refine l_pure (.pointer (some ⟨b, 0, none⟩)) rfl (fun _ => rfl) ?_
         refine l_pure (.pointer (some ⟨b, 0, none⟩)) rfl (fun _ => rfl) ?_
         refine l_pure (.pointer (some ⟨b, 0, none⟩)) rfl (fun _ => rfl) ?_
         refine l_pure (.pointer (some ⟨b, 0, none⟩)) rfl (fun _ => rfl) ?_
         refine l_loadC rfl b 0 #[sv, .map (some mb)] _ _ sv rfl rfl (by kernel_rfl) hB rfl ?_
         refine l_loadA rfl g2 0 6 #[.string f.name, .int .i64 f.line, .int .i64 f.base, .int .i64 f.extra, .int .i64 f.want, .bool f.tail] _ _ #[.string f.name, .int .i64 f.line, .int .i64 f.base, .int .i64 f.extra, .int .i64 f.want, .bool f.tail] rfl rfl (by kernel_rfl) B1 rfl rfl ?_
         refine l_buildSlice rfl [(0, .agg #[.string f.name, .int .i64 f.line, .int .i64 f.base, .int .i64 f.extra, .int .i64 f.want, .bool f.tail])] 46 #[.string f.name, .int .i64 f.line, .int .i64 f.base, .int .i64 f.extra, .int .i64 f.want, .bool f.tail] rfl rfl (by kernel_rfl) (fun g17 H18 n19 => ?_)
         have e20 := n19.at_; have e21 := n19.size
         replace hB := (n19.chg fun _ => False).get hB (fun h => h)
         replace hV := hV.chg (n19.chg fun _ => False) (fun _ _ h => h)
         replace hM := hM.chg (n19.chg fun _ => False) (fun h => h)
         replace B1 := (n19.chg fun _ => False).get B1 (fun h => h)
         replace hT := hT.trans' (n19.chg fun _ => False) (fun _ h _ => h.elim)
         have B16 := n19.is
         refine l_append (v := sv) (L := L) rfl FrT_ok Try.underlying61 (.slice (some ⟨g17, 0, none⟩) 1 1) rfl rfl rfl hV (Ow.lit FrT_ok [f] B16 rfl rfl (by simp)).sl (by simp only [List.length_nil, List.length_cons, List.length_append, List.length_drop, List.length_take]; show _ * 56 ≤ _; omega) (by simp only [List.length_nil, List.length_cons, List.length_append, List.length_drop, List.length_take]; omega) (fun v22 H23 a24 => ?_)
         have e25 := a24.chg.size
         replace hB := a24.chg.get hB (fun e => by have := s0 _ e; omega)
         replace hM := hM.chg a24.chg (fun e => by have := s0 _ e; omega)
         replace B1 := a24.chg.get B1 (fun e => by have := s0 _ e; omega)
         replace B16 := a24.chg.get B16 (fun e => by have := s0 _ e; omega)
         replace hT := hT.trans' a24.chg (fun i e hl => o0 i e hl)
         have S26 := a24.ow
         have s27m := a24.moved
         have s27 : ∀ k, blk v22 = some k → k ≠ b ∧ k ≠ mb ∧ k ≠ g2 ∧ k ≠ g17 ∧ k < H23.size := fun k hk => by
           rcases s27m k hk with h | h
           · have := s0 k h; have := S26.lt hk; omega
           · have := S26.lt hk; omega
         have o28 : ∀ k, blk v22 = some k → k < H.size → fp k := fun k hk hl => by
           rcases s27m k hk with h | h
           · exact o0 k h hl
           · exfalso; omega
         refine l_pure (.pointer (some ⟨b, 0, none⟩)) rfl (fun _ => rfl) ?_
         refine l_pure (.pointer (some ⟨b, 0, none⟩)) rfl (fun _ => rfl) ?_
         refine l_store rfl b 0 1 #[sv, .map (some mb)] #[v22, .map (some mb)] _ v22 rfl rfl rfl (by kernel_rfl) hB (by obtain ⟨_, _, e⟩ := S26.sl.form; rw [e]; rfl) rfl (by obtain ⟨_, _, e⟩ := S26.sl.form; rw [e]; rfl) (by obtain ⟨_, _, e⟩ := S26.sl.form; rw [e]; rfl) (fun H29 q30 => ?_)
         have e31 := q30.size
         replace hM := hM.chg q30.chg (fun e => by omega)
         replace B1 := q30.chg.get B1 (fun e => by omega)
         replace B16 := q30.chg.get B16 (fun e => by omega)
         replace S26 := S26.chg q30.chg (fun k hk e => by have := s27 k hk; omega)
         replace hT := hT.trans' q30.chg (fun i e _ => e ▸ (hfp b).2 (.inl rfl))
         have B32 := q30.is
         refine l_nil ?_
         refine x_dyn (by kernel_rfl) ?_
         refine x_then ?_
         refine c_seq ?_
         refine c_draw Try.mixed (by kernel_rfl) ?_
         refine l_pure (.pointer (some ⟨b, 0, none⟩)) rfl (fun _ => rfl) ?_
         refine l_pure (.pointer (some ⟨b, 0, none⟩)) rfl (fun _ => rfl) ?_
         refine l_pure (.pointer (some ⟨b, 1, none⟩)) rfl (fun _ => rfl) ?_
         refine l_loadC rfl b 1 #[v22, .map (some mb)] _ _ (.map (some mb)) rfl rfl (by kernel_rfl) B32 rfl ?_
         refine l_pure (.pointer (some ⟨g2, 0, none⟩)) rfl (fun _ => rfl) ?_
         refine l_loadC rfl g2 0 #[.string f.name, .int .i64 f.line, .int .i64 f.base, .int .i64 f.extra, .int .i64 f.want, .bool f.tail] _ _ (.string f.name) rfl rfl (by kernel_rfl) B1 rfl ?_
         refine l_lookup rfl strOk Try.underlying60 (.int .i64 0) (fun _ => by kernel_rfl) f.name rfl rfl rfl hM ?_
         obtain ⟨x33, hx34⟩ : ∃ x : Int, ((aget m f.name).map iV).getD (.int .i64 0) = .int .i64 x := by cases aget m f.name <;> exact ⟨_, rfl⟩
         rw [hx34]
         refine l_addW rfl x33 1 rfl rfl rfl ?_
         refine l_update rfl strOk Try.underlying60 f.name (IntKind.i64.wrap (x33 + 1)) rfl rfl rfl rfl hM (fun H35 u36 => ?_)
         have e37 := u36.chg.size
         replace B1 := u36.chg.get B1 (fun e => by omega)
         replace B16 := u36.chg.get B16 (fun e => by omega)
         replace S26 := S26.chg u36.chg (fun k hk e => by have := s27 k hk; omega)
         replace B32 := u36.chg.get B32 (fun e => by omega)
         replace hT := hT.trans' u36.chg (fun i e _ => e ▸ (hfp mb).2 (.inr (.inl rfl)))
         have M38 := u36.mp
         refine l_nil ?_
         refine x_dyn (by kernel_rfl) ?_
         refine x_then ?_
         refine c_seq ?_
         refine c_reg ?_
         refine l_pure (.int .i64 0) rfl (fun _ => rfl) ?_
         refine l_nil ?_
         refine x_then ?_
         refine c_ret ?_
         refine x_fin (.int .i64 0) (res_of (vs := [.int .i64 0]) rfl (.cons (.tmp _ (.int .i64 0) rfl rfl) .nil)) ?_
         have hp : pushR L f = (0, (L ++ [f])) := by simp [pushR, p12, p15]
         rw [hp]
         exact ⟨rfl, fun k => k = b ∨ k = mb ∨ blk v22 = some k, ⟨v22, mb, _, B32, S26, M38, hbm, fun g hg => by have := s27 g hg; omega, fun k => Iff.rfl⟩, hT, fun k hk => by
           by_cases hl : k < H.size
           · left; rcases hk with rfl | rfl | hk
             · exact (hfp _).2 (.inl rfl)
             · exact (hfp _).2 (.inr (.inl rfl))
             · exact o28 k hk hl
           · right; omega⟩)
theorem pop_ok (H : Heap) (b : Nat) (L : List Fr) (fp : Nat → Prop) (hS : FS H b L fp) : HC Try.prog 25 #[.pointer (some ⟨b, 0, none⟩)] H fun v H' => v = .tuple #[(popR L).1.1.v, .bool (popR L).1.2] ∧ ∃ fp', FS H' b (popR L).2 fp' ∧ Chg fp H H' ∧ ∀ k, fp' k → fp k ∨ H.size ≤ k := by
  obtain ⟨sv, mb, m, hB, hV, hM, hbm, hne, hfp⟩ := hS
  have s0 : ∀ k, blk sv = some k → k ≠ b ∧ k ≠ mb ∧ k < H.size := fun k hk => ⟨(hne k hk).1, (hne k hk).2, hV.lt hk⟩
  have o0 : ∀ k, blk sv = some k → k < H.size → fp k := fun k hk _ => (hfp k).2 (.inr (.inr hk))
  have lb := lt_of_some hB
  have lm := hM.lt
  have lL : L.length ≤ 9223372036854775807 := hV.sl.len_le
  refine enter Try.func25 rfl 51 rfl rfl [(0, .pointer (some ⟨b, 0, none⟩))] rfl (fun w0 => ?_)
  have hT : Chg fp H H := Chg.refl _ _
  refine c_seq ?_
  refine c_reg ?_
  refine l_alloc rfl (.agg #[.string ByteArray.empty, .int .i64 0, .int .i64 0, .int .i64 0, .int .i64 0, .bool false]) #[.string ByteArray.empty, .int .i64 0, .int .i64 0, .int .i64 0, .int .i64 0, .bool false] rfl (fun _ => by kernel_rfl) rfl (fun g2 H3 n4 => ?_)
  have e5 := n4.at_; have e6 := n4.size
  replace hB := (n4.chg fun _ => False).get hB (fun h => h)
  replace hV := hV.chg (n4.chg fun _ => False) (fun _ _ h => h)
  replace hM := hM.chg (n4.chg fun _ => False) (fun h => h)
  replace hT := hT.trans' (n4.chg fun _ => False) (fun _ h _ => h.elim)
  have B1 := n4.is
  refine l_pure (.bool false) rfl (fun _ => rfl) ?_
  refine l_nil ?_
  refine x_then ?_
  refine c_seq ?_
  refine c_seq ?_
  refine c_reg ?_
  refine l_pure (.pointer (some ⟨b, 0, none⟩)) rfl (fun _ => rfl) ?_
  refine l_pure (.bool false) rfl (fun _ => rfl) ?_
  refine l_pure (.bool false) rfl (fun _ => rfl) ?_
  refine l_pure (.pointer (some ⟨b, 0, none⟩)) rfl (fun _ => rfl) ?_
  refine l_pure (.pointer (some ⟨b, 0, none⟩)) rfl (fun _ => rfl) ?_
  refine l_pure (.pointer (some ⟨b, 0, none⟩)) rfl (fun _ => rfl) ?_
  refine l_loadC rfl b 0 #[sv, .map (some mb)] _ _ sv rfl rfl (by kernel_rfl) hB rfl ?_
  refine l_len rfl FrT_ok Try.underlying61 rfl rfl hV.sl ?_
  refine l_cmp rfl .i64 (L.length : Int) 0 (decide ((L.length : Int) = 0)) rfl rfl rfl rfl ?_
  refine l_pure (.bool (decide ((L.length : Int) = 0))) rfl (fun _ => rfl) ?_
  refine l_nil ?_
  refine x_then ?_
  refine c_cond (c := (decide ((L.length : Int) = 0))) rfl rfl (fun c7 => ?_) (fun c7 => ?_)
  · have p8 := of_decide_eq_true c7
    first
    | (exfalso; omega)
    | (refine c_seq ?_
       refine c_reg ?_
       refine l_pure (.agg #[.string ByteArray.empty, .int .i64 0, .int .i64 0, .int .i64 0, .int .i64 0, .bool false]) rfl (fun _ => by kernel_rfl) ?_
       refine l_store rfl g2 0 6 #[.string ByteArray.empty, .int .i64 0, .int .i64 0, .int .i64 0, .int .i64 0, .bool false] #[.string ByteArray.empty, .int .i64 0, .int .i64 0, .int .i64 0, .int .i64 0, .bool false] _ (.agg #[.string ByteArray.empty, .int .i64 0, .int .i64 0, .int .i64 0, .int .i64 0, .bool false]) rfl rfl rfl (by kernel_rfl) B1 rfl rfl rfl rfl (fun H9 q10 => ?_)
       have e11 := q10.size
       replace hB := q10.chg.get hB (fun e => by omega)
       replace hV := hV.chg q10.chg (fun k hk e => by have := s0 k hk; omega)
       replace hM := hM.chg q10.chg (fun e => by omega)
       replace hT := hT.trans' q10.chg (fun i (e : i = g2) hl => by exfalso; omega)
       have B12 := q10.is
       refine l_pure (.bool false) rfl (fun _ => rfl) ?_
       refine l_nil ?_
       refine x_then ?_
       refine c_ret ?_
       refine x_ret ?_
       refine x_fin (.tuple #[.agg #[.string ByteArray.empty, .int .i64 0, .int .i64 0, .int .i64 0, .int .i64 0, .bool false], .bool false]) (res_of (vs := [.agg #[.string ByteArray.empty, .int .i64 0, .int .i64 0, .int .i64 0, .int .i64 0, .bool false], .bool false]) rfl (.cons (.cell _ _ (.agg #[.string ByteArray.empty, .int .i64 0, .int .i64 0, .int .i64 0, .int .i64 0, .bool false]) _ rfl rfl (fun w hw => run_loadX (by kernel_rfl) hw B12 _ rfl rfl)) (.cons (.tmp _ (.bool false) rfl rfl) .nil))) ?_
       have hp : popR L = ((zFr, false), L) := popR_nil (by omega)
       rw [hp]
       exact ⟨rfl, fun k => k = b ∨ k = mb ∨ blk sv = some k, ⟨sv, mb, _, hB, hV, hM, hbm, fun g hg => by have := s0 g hg; omega, fun k => Iff.rfl⟩, hT, fun k hk => by
         by_cases hl : k < H.size
         · left; rcases hk with rfl | rfl | hk
           · exact (hfp _).2 (.inl rfl)
           · exact (hfp _).2 (.inr (.inl rfl))
           · exact o0 k hk hl
         · right; omega⟩)
  · have p13 := of_decide_eq_false c7
    first
    | (exfalso; omega)
    | (refine c_skip ?_
       refine x_then ?_
       refine c_seq ?_
       refine c_draw Try.mixed (by kernel_rfl) ?_
       refine l_pure (.pointer (some ⟨b, 0, none⟩)) rfl (fun _ => rfl) ?_
       refine l_pure (.pointer (some ⟨b, 0, none⟩)) rfl (fun _ => rfl) ?_
       refine l_pure (.pointer (some ⟨b, 0, none⟩)) rfl (fun _ => rfl) ?_
       refine l_loadC rfl b 0 #[sv, .map (some mb)] _ _ sv rfl rfl (by kernel_rfl) hB rfl ?_
       refine l_pure (.pointer (some ⟨b, 0, none⟩)) rfl (fun _ => rfl) ?_
       refine l_pure (.pointer (some ⟨b, 0, none⟩)) rfl (fun _ => rfl) ?_
       refine l_pure (.pointer (some ⟨b, 0, none⟩)) rfl (fun _ => rfl) ?_
       refine l_loadC rfl b 0 #[sv, .map (some mb)] _ _ sv rfl rfl (by kernel_rfl) hB rfl ?_
       refine l_len rfl FrT_ok Try.underlying61 rfl rfl hV.sl ?_
       refine l_sub rfl (L.length : Int) 1 rfl rfl rfl (by omega) ?_
       refine l_index rfl FrT_ok Try.underlying61 .i64 ((L.length : Int) - 1) rfl rfl rfl hV.sl (by omega) (by omega) (L.length - 1) (by omega) ?_
       obtain ⟨y14, hy15⟩ : ∃ y, L[(L.length - 1)]? = some y := ⟨_, List.getElem?_eq_getElem (by omega)⟩
       refine l_loadE rfl FrT_ok rfl sv (L.length - 1) y14 (.agg #[.string y14.name, .int .i64 y14.line, .int .i64 y14.base, .int .i64 y14.extra, .int .i64 y14.want, .bool y14.tail]) L rfl rfl hV.sl hy15 rfl ?_
       refine l_alloc rfl (.agg #[.string ByteArray.empty, .int .i64 0, .int .i64 0, .int .i64 0, .int .i64 0, .bool false]) #[.string ByteArray.empty, .int .i64 0, .int .i64 0, .int .i64 0, .int .i64 0, .bool false] rfl (fun _ => by kernel_rfl) rfl (fun g17 H18 n19 => ?_)
       have e20 := n19.at_; have e21 := n19.size
       replace hB := (n19.chg fun _ => False).get hB (fun h => h)
       replace hV := hV.chg (n19.chg fun _ => False) (fun _ _ h => h)
       replace hM := hM.chg (n19.chg fun _ => False) (fun h => h)
       replace B1 := (n19.chg fun _ => False).get B1 (fun h => h)
       replace hT := hT.trans' (n19.chg fun _ => False) (fun _ h _ => h.elim)
       have B16 := n19.is
       refine l_store rfl g17 0 6 #[.string ByteArray.empty, .int .i64 0, .int .i64 0, .int .i64 0, .int .i64 0, .bool false] #[.string y14.name, .int .i64 y14.line, .int .i64 y14.base, .int .i64 y14.extra, .int .i64 y14.want, .bool y14.tail] _ (.agg #[.string y14.name, .int .i64 y14.line, .int .i64 y14.base, .int .i64 y14.extra, .int .i64 y14.want, .bool y14.tail]) rfl rfl rfl (by kernel_rfl) B16 rfl rfl rfl rfl (fun H22 q23 => ?_)
       have e24 := q23.size
       replace hB := q23.chg.get hB (fun e => by omega)
       replace hV := hV.chg q23.chg (fun k hk e => by have := s0 k hk; omega)
       replace hM := hM.chg q23.chg (fun e => by omega)
       replace B1 := q23.chg.get B1 (fun e => by omega)
       replace hT := hT.trans' q23.chg (fun i (e : i = g17) hl => by exfalso; omega)
       have B25 := q23.is
       refine l_nil ?_
       refine x_dyn (by obtain ⟨_, _, rfl⟩ := hV.sl.form; kernel_rfl) ?_
       refine x_then ?_
       refine c_seq ?_
       refine c_draw Try.mixed (by kernel_rfl) ?_
       refine l_pure (.pointer (some ⟨b, 0, none⟩)) rfl (fun _ => rfl) ?_
       refine l_pure (.pointer (some ⟨b, 0, none⟩)) rfl (fun _ => rfl) ?_
       refine l_pure (.pointer (some ⟨b, 0, none⟩)) rfl (fun _ => rfl) ?_
       refine l_pure (.pointer (some ⟨b, 0, none⟩)) rfl (fun _ => rfl) ?_
       refine l_loadC rfl b 0 #[sv, .map (some mb)] _ _ sv rfl rfl (by kernel_rfl) hB rfl ?_
       refine l_pure (.pointer (some ⟨b, 0, none⟩)) rfl (fun _ => rfl) ?_
       refine l_pure (.pointer (some ⟨b, 0, none⟩)) rfl (fun _ => rfl) ?_
       refine l_pure (.pointer (some ⟨b, 0, none⟩)) rfl (fun _ => rfl) ?_
       refine l_loadC rfl b 0 #[sv, .map (some mb)] _ _ sv rfl rfl (by kernel_rfl) hB rfl ?_
       refine l_len rfl FrT_ok Try.underlying61 rfl rfl hV.sl ?_
       refine l_sub rfl (L.length : Int) 1 rfl rfl rfl (by omega) ?_
       refine l_pre rfl FrT_ok Try.underlying61 .i64 ((L.length : Int) - 1) rfl rfl rfl hV.sl (by omega) (by omega) (L.length - 1) (by omega) ?_
       have S26 := hV.pre FrT_ok (L.length - 1) (by omega)
       have s27 : ∀ k, blk (pre sv (L.length - 1)) = some k → _ := fun k hk => s0 k ((blk_pre _ _).symm.trans hk)
       have o28 : ∀ k, blk (pre sv (L.length - 1)) = some k → k < H.size → fp k := fun k hk hl => o0 k ((blk_pre _ _).symm.trans hk) hl
       refine l_pure (.pointer (some ⟨b, 0, none⟩)) rfl (fun _ => rfl) ?_
       refine l_pure (.pointer (some ⟨b, 0, none⟩)) rfl (fun _ => rfl) ?_
       refine l_store rfl b 0 1 #[sv, .map (some mb)] #[(pre sv (L.length - 1)), .map (some mb)] _ (pre sv (L.length - 1)) rfl rfl rfl (by kernel_rfl) hB (by obtain ⟨_, _, e⟩ := S26.sl.form; rw [e]; rfl) rfl (by obtain ⟨_, _, e⟩ := S26.sl.form; rw [e]; rfl) (by obtain ⟨_, _, e⟩ := S26.sl.form; rw [e]; rfl) (fun H29 q30 => ?_)
       have e31 := q30.size
       replace hV := hV.chg q30.chg (fun k hk e => by have := s0 k hk; omega)
       replace hM := hM.chg q30.chg (fun e => by omega)
       replace B1 := q30.chg.get B1 (fun e => by omega)
       replace B25 := q30.chg.get B25 (fun e => by omega)
       replace S26 := S26.chg q30.chg (fun k hk e => by have := s27 k hk; omega)
       replace hT := hT.trans' q30.chg (fun i e _ => e ▸ (hfp b).2 (.inl rfl))
       have B32 := q30.is
       refine l_nil ?_
       refine x_dyn (by obtain ⟨_, _, rfl⟩ := hV.sl.form; kernel_rfl) ?_
       refine x_then ?_
       refine c_seq ?_
       refine c_draw Try.mixed (by kernel_rfl) ?_
       refine l_pure (.pointer (some ⟨b, 0, none⟩)) rfl (fun _ => rfl) ?_
       refine l_pure (.pointer (some ⟨b, 0, none⟩)) rfl (fun _ => rfl) ?_
       refine l_pure (.pointer (some ⟨b, 1, none⟩)) rfl (fun _ => rfl) ?_
       refine l_loadC rfl b 1 #[(pre sv (L.length - 1)), .map (some mb)] _ _ (.map (some mb)) rfl rfl (by kernel_rfl) B32 rfl ?_
       refine l_pure (.pointer (some ⟨g17, 0, none⟩)) rfl (fun _ => rfl) ?_
       refine l_loadC rfl g17 0 #[.string y14.name, .int .i64 y14.line, .int .i64 y14.base, .int .i64 y14.extra, .int .i64 y14.want, .bool y14.tail] _ _ (.string y14.name) rfl rfl (by kernel_rfl) B25 rfl ?_
       refine l_lookup rfl strOk Try.underlying60 (.int .i64 0) (fun _ => by kernel_rfl) y14.name rfl rfl rfl hM ?_
       obtain ⟨x33, hx34⟩ : ∃ x : Int, ((aget m y14.name).map iV).getD (.int .i64 0) = .int .i64 x := by cases aget m y14.name <;> exact ⟨_, rfl⟩
       rw [hx34]
       refine l_subW rfl x33 1 rfl rfl rfl ?_
       refine l_update rfl strOk Try.underlying60 y14.name (IntKind.i64.wrap (x33 - 1)) rfl rfl rfl rfl hM (fun H35 u36 => ?_)
       have e37 := u36.chg.size
       replace hV := hV.chg u36.chg (fun k hk e => by have := s0 k hk; omega)
       replace B1 := u36.chg.get B1 (fun e => by omega)
       replace B25 := u36.chg.get B25 (fun e => by omega)
       replace S26 := S26.chg u36.chg (fun k hk e => by have := s27 k hk; omega)
       replace B32 := u36.chg.get B32 (fun e => by omega)
       replace hT := hT.trans' u36.chg (fun i e _ => e ▸ (hfp mb).2 (.inr (.inl rfl)))
       have M38 := u36.mp
       refine l_nil ?_
       refine x_dyn (by kernel_rfl) ?_
       refine x_then ?_
       refine c_seq ?_
       refine c_reg ?_
       refine l_loadA rfl g17 0 6 #[.string y14.name, .int .i64 y14.line, .int .i64 y14.base, .int .i64 y14.extra, .int .i64 y14.want, .bool y14.tail] _ _ #[.string y14.name, .int .i64 y14.line, .int .i64 y14.base, .int .i64 y14.extra, .int .i64 y14.want, .bool y14.tail] rfl rfl (by kernel_rfl) B25 rfl rfl ?_
       refine l_store rfl g2 0 6 #[.string ByteArray.empty, .int .i64 0, .int .i64 0, .int .i64 0, .int .i64 0, .bool false] #[.string y14.name, .int .i64 y14.line, .int .i64 y14.base, .int .i64 y14.extra, .int .i64 y14.want, .bool y14.tail] _ (.agg #[.string y14.name, .int .i64 y14.line, .int .i64 y14.base, .int .i64 y14.extra, .int .i64 y14.want, .bool y14.tail]) rfl rfl rfl (by kernel_rfl) B1 rfl rfl rfl rfl (fun H39 q40 => ?_)
       have e41 := q40.size
       replace hV := hV.chg q40.chg (fun k hk e => by have := s0 k hk; omega)
       replace B25 := q40.chg.get B25 (fun e => by omega)
       replace S26 := S26.chg q40.chg (fun k hk e => by have := s27 k hk; omega)
       replace B32 := q40.chg.get B32 (fun e => by omega)
       replace M38 := M38.chg q40.chg (fun e => by omega)
       replace hT := hT.trans' q40.chg (fun i (e : i = g2) hl => by exfalso; omega)
       have B42 := q40.is
       refine l_pure (.bool true) rfl (fun _ => rfl) ?_
       refine l_nil ?_
       refine x_then ?_
       refine c_ret ?_
       refine x_fin (.tuple #[.agg #[.string y14.name, .int .i64 y14.line, .int .i64 y14.base, .int .i64 y14.extra, .int .i64 y14.want, .bool y14.tail], .bool true]) (res_of (vs := [.agg #[.string y14.name, .int .i64 y14.line, .int .i64 y14.base, .int .i64 y14.extra, .int .i64 y14.want, .bool y14.tail], .bool true]) rfl (.cons (.cell _ _ (.agg #[.string y14.name, .int .i64 y14.line, .int .i64 y14.base, .int .i64 y14.extra, .int .i64 y14.want, .bool y14.tail]) _ rfl rfl (fun w hw => run_loadX (by kernel_rfl) hw B42 _ rfl rfl)) (.cons (.tmp _ (.bool true) rfl rfl) .nil))) ?_
       have hp := popR_some hy15
       rw [hp]
       exact ⟨rfl, fun k => k = b ∨ k = mb ∨ blk (pre sv (L.length - 1)) = some k, ⟨(pre sv (L.length - 1)), mb, _, B32, S26, M38, hbm, fun g hg => by have := s27 g hg; omega, fun k => Iff.rfl⟩, hT, fun k hk => by
         by_cases hl : k < H.size
         · left; rcases hk with rfl | rfl | hk
           · exact (hfp _).2 (.inl rfl)
           · exact (hfp _).2 (.inr (.inl rfl))
           · exact o28 k hk hl
         · right; omega⟩)
theorem repl_ok (f : Fr) (H : Heap) (b : Nat) (L : List Fr) (fp : Nat → Prop) (hS : FS H b L fp) : HC Try.prog 26 #[.pointer (some ⟨b, 0, none⟩), f.v] H fun v H' => v = .int .i64 (replR L f).1 ∧ ∃ fp', FS H' b (replR L f).2 fp' ∧ Chg fp H H' ∧ ∀ k, fp' k → fp k ∨ H.size ≤ k := by
  obtain ⟨sv, mb, m, hB, hV, hM, hbm, hne, hfp⟩ := hS
  have s0 : ∀ k, blk sv = some k → k ≠ b ∧ k ≠ mb ∧ k < H.size := fun k hk => ⟨(hne k hk).1, (hne k hk).2, hV.lt hk⟩
  have o0 : ∀ k, blk sv = some k → k < H.size → fp k := fun k hk _ => (hfp k).2 (.inr (.inr hk))
  have lb := lt_of_some hB
  have lm := hM.lt
  have lL : L.length ≤ 9223372036854775807 := hV.sl.len_le
  refine enter Try.func26 rfl 58 rfl rfl [(0, .pointer (some ⟨b, 0, none⟩)), (1, .agg #[.string f.name, .int .i64 f.line, .int .i64 f.base, .int .i64 f.extra, .int .i64 f.want, .bool f.tail])] rfl (fun w0 => ?_)
  have hT : Chg fp H H := Chg.refl _ _
  refine c_seq ?_
  refine c_reg ?_
  refine l_box rfl (.agg #[.string f.name, .int .i64 f.line, .int .i64 f.base, .int .i64 f.extra, .int .i64 f.want, .bool f.tail]) #[.string f.name, .int .i64 f.line, .int .i64 f.base, .int .i64 f.extra, .int .i64 f.want, .bool f.tail] rfl rfl rfl (fun g2 H3 n4 => ?_)
  have e5 := n4.at_; have e6 := n4.size
  replace hB := (n4.chg fun _ => False).get hB (fun h => h)
  replace hV := hV.chg (n4.chg fun _ => False) (fun _ _ h => h)
  replace hM := hM.chg (n4.chg fun _ => False) (fun h => h)
  replace hT := hT.trans' (n4.chg fun _ => False) (fun _ h _ => h.elim)
  have B1 := n4.is
  refine l_pure (.int .i64 0) rfl (fun _ => rfl) ?_
  refine l_nil ?_
  refine x_then ?_
  refine c_seq ?_
  refine c_block ?_
  refine c_seq ?_
  refine c_reg ?_
  refine l_pure (.pointer (some ⟨b, 0, none⟩)) rfl (fun _ => rfl) ?_
  refine l_pure (.bool false) rfl (fun _ => rfl) ?_
  refine l_pure (.bool false) rfl (fun _ => rfl) ?_
  refine l_nil ?_
  refine x_then ?_
  refine c_false rfl rfl ?_
  refine c_seq ?_
  refine c_reg ?_
  refine l_loadA rfl g2 0 6 #[.string f.name, .int .i64 f.line, .int .i64 f.base, .int .i64 f.extra, .int .i64 f.want, .bool f.tail] _ _ #[.string f.name, .int .i64 f.line, .int .i64 f.base, .int .i64 f.extra, .int .i64 f.want, .bool f.tail] rfl rfl (by kernel_rfl) B1 rfl rfl ?_
  refine l_call rfl [.agg #[.string f.name, .int .i64 f.line, .int .i64 f.base, .int .i64 f.extra, .int .i64 f.want, .bool f.tail]] rfl rfl (by kernel_rfl) (right_ok f _) ?_
  rintro _ H7 ⟨rfl, k8⟩
  have e9 := k8.size
  replace hB := k8.get hB (fun h => h)
  replace hV := hV.chg k8 (fun _ _ h => h)
  replace hM := hM.chg k8 (fun h => h)
  replace B1 := k8.get B1 (fun h => h)
  replace hT := hT.trans' k8 (fun _ h _ => h.elim)
  refine l_pure (.bool (!(rightB f))) rfl (fun _ => rfl) ?_
  refine l_pure (.bool (!(rightB f))) rfl (fun _ => rfl) ?_
  refine l_nil ?_
  refine x_then ?_
  refine c_cond (c := (!(rightB f))) rfl rfl (fun c10 => ?_) (fun c10 => ?_)
  · have p11 := c10
    refine c_seq ?_
    refine c_reg ?_
    refine l_pure (.int .i64 2) rfl (fun _ => rfl) ?_
    refine l_nil ?_
    refine x_then ?_
    refine c_ret ?_
    refine x_retBlock ?_
    refine x_ret ?_
    refine x_fin (.int .i64 2) (res_of (vs := [.int .i64 2]) rfl (.cons (.tmp _ (.int .i64 2) rfl rfl) .nil)) ?_
    have hp : replR L f = (2, L) := by simp [replR, tl, p11]
    rw [hp]
    exact ⟨rfl, fun k => k = b ∨ k = mb ∨ blk sv = some k, ⟨sv, mb, _, hB, hV, hM, hbm, fun g hg => by have := s0 g hg; omega, fun k => Iff.rfl⟩, hT, fun k hk => by
      by_cases hl : k < H.size
      · left; rcases hk with rfl | rfl | hk
        · exact (hfp _).2 (.inl rfl)
        · exact (hfp _).2 (.inr (.inl rfl))
        · exact o0 k hk hl
      · right; omega⟩
  · have p12 := c10
    refine c_seq ?_
    refine c_reg ?_
    refine l_pure (.pointer (some ⟨b, 0, none⟩)) rfl (fun _ => rfl) ?_
    refine l_pure (.pointer (some ⟨b, 0, none⟩)) rfl (fun _ => rfl) ?_
    refine l_pure (.pointer (some ⟨b, 0, none⟩)) rfl (fun _ => rfl) ?_
    refine l_loadC rfl b 0 #[sv, .map (some mb)] _ _ sv rfl rfl (by kernel_rfl) hB rfl ?_
    refine l_len rfl FrT_ok Try.underlying61 rfl rfl hV.sl ?_
    refine l_cmp rfl .i64 (L.length : Int) 0 (decide ((L.length : Int) = 0)) rfl rfl rfl rfl ?_
    refine l_pure (.bool (decide ((L.length : Int) = 0))) rfl (fun _ => rfl) ?_
    refine l_nil ?_
    refine x_then ?_
    refine c_cond (c := (decide ((L.length : Int) = 0))) rfl rfl (fun c13 => ?_) (fun c13 => ?_)
    · have p14 := of_decide_eq_true c13
      first
      | (exfalso; omega)
      | (refine c_seq ?_
         refine c_reg ?_
         refine l_pure (.int .i64 18) rfl (fun _ => rfl) ?_
         refine l_nil ?_
         refine x_then ?_
         refine c_ret ?_
         refine x_retBlock ?_
         refine x_ret ?_
         refine x_fin (.int .i64 18) (res_of (vs := [.int .i64 18]) rfl (.cons (.tmp _ (.int .i64 18) rfl rfl) .nil)) ?_
         have hp : replR L f = (18, L) := by simp [replR, tl, p12, p14]
         rw [hp]
         exact ⟨rfl, fun k => k = b ∨ k = mb ∨ blk sv = some k, ⟨sv, mb, _, hB, hV, hM, hbm, fun g hg => by have := s0 g hg; omega, fun k => Iff.rfl⟩, hT, fun k hk => by
           by_cases hl : k < H.size
           · left; rcases hk with rfl | rfl | hk
             · exact (hfp _).2 (.inl rfl)
             · exact (hfp _).2 (.inr (.inl rfl))
             · exact o0 k hk hl
           · right; omega⟩)
    · have p15 := of_decide_eq_false c13
      first
      | (exfalso; omega)
      | (refine c_skip ?_
         refine x_block ?_
         refine x_then ?_
         refine c_seq ?_
         refine c_reg ?_
         refine l_pure (.pointer (some ⟨g2, 5, none⟩)) rfl (fun _ => rfl) ?_
         refine l_store rfl g2 5 1 #[.string f.name, .int .i64 f.line, .int .i64 f.base, .int .i64 f.extra, .int .i64 f.want, .bool f.tail] #[.string f.name, .int .i64 f.line, .int .i64 f.base, .int .i64 f.extra, .int .i64 f.want, .bool true] _ (.bool true) rfl rfl rfl (by kernel_rfl) B1 rfl rfl rfl rfl (fun H16 q17 => ?_)
         have e18 := q17.size
         replace hB := q17.chg.get hB (fun e => by omega)
         replace hV := hV.chg q17.chg (fun k hk e => by have := s0 k hk; omega)
         replace hM := hM.chg q17.chg (fun e => by omega)
         replace hT := hT.trans' q17.chg (fun i (e : i = g2) hl => by exfalso; omega)
         have B19 := q17.is
         refine l_nil ?_
         refine x_then ?_
         refine c_seq ?_
         refine c_draw Try.mixed (by kernel_rfl) ?_
         refine l_pure (.pointer (some ⟨b, 0, none⟩)) rfl (fun _ => rfl) ?_
         refine l_pure (.pointer (some ⟨b, 0, none⟩)) rfl (fun _ => rfl) ?_
         refine l_pure (.pointer (some ⟨b, 0, none⟩)) rfl (fun _ => rfl) ?_
         refine l_loadC rfl b 0 #[sv, .map (some mb)] _ _ sv rfl rfl (by kernel_rfl) hB rfl ?_
         refine l_pure (.pointer (some ⟨b, 0, none⟩)) rfl (fun _ => rfl) ?_
         refine l_pure (.pointer (some ⟨b, 0, none⟩)) rfl (fun _ => rfl) ?_
         refine l_pure (.pointer (some ⟨b, 0, none⟩)) rfl (fun _ => rfl) ?_
         refine l_loadC rfl b 0 #[sv, .map (some mb)] _ _ sv rfl rfl (by kernel_rfl) hB rfl ?_
         refine l_len rfl FrT_ok Try.underlying61 rfl rfl hV.sl ?_
         refine l_sub rfl (L.length : Int) 1 rfl rfl rfl (by omega) ?_
         refine l_index rfl FrT_ok Try.underlying61 .i64 ((L.length : Int) - 1) rfl rfl rfl hV.sl (by omega) (by omega) (L.length - 1) (by omega) ?_
         refine l_pure (.pointer (some (elemAt FrT.size sv (L.length - 1)))) rfl (fun _ => rfl) ?_
         refine l_nil ?_
         refine x_dyn (by obtain ⟨_, _, rfl⟩ := hV.sl.form; kernel_rfl) ?_
         refine x_then ?_
         refine c_seq ?_
         refine c_seq ?_
         refine c_draw Try.mixed (by kernel_rfl) ?_
         refine l_pure (.pointer (some (elemAt FrT.size sv (L.length - 1)))) rfl (fun _ => rfl) ?_
         refine l_pure (.pointer (some (elemAt FrT.size sv (L.length - 1)))) rfl (fun _ => rfl) ?_
         obtain ⟨y20, hy21⟩ : ∃ y, L[(L.length - 1)]? = some y := ⟨_, List.getElem?_eq_getElem (by omega)⟩
         refine l_loadE rfl FrT_ok rfl sv (L.length - 1) y20 (.agg #[.string y20.name, .int .i64 y20.line, .int .i64 y20.base, .int .i64 y20.extra, .int .i64 y20.want, .bool y20.tail]) L rfl rfl hV.sl hy21 rfl ?_
         refine l_loadA rfl g2 0 6 #[.string f.name, .int .i64 f.line, .int .i64 f.base, .int .i64 f.extra, .int .i64 f.want, .bool true] _ _ #[.string f.name, .int .i64 f.line, .int .i64 f.base, .int .i64 f.extra, .int .i64 f.want, .bool true] rfl rfl (by kernel_rfl) B19 rfl rfl ?_
         refine l_eqS rfl #[.string y20.name, .int .i64 y20.line, .int .i64 y20.base, .int .i64 y20.extra, .int .i64 y20.want, .bool y20.tail] #[.string f.name, .int .i64 f.line, .int .i64 f.base, .int .i64 f.extra, .int .i64 f.want, .bool true] (decide (y20 = (⟨f.name, f.line, f.base, f.extra, f.want, true⟩ : Fr))) rfl rfl rfl (by kernel_rfl) (fun w => (eq46 y20 (⟨f.name, f.line, f.base, f.extra, f.want, true⟩ : Fr) w).1) ?_
         refine l_nil ?_
         refine x_dyn (by kernel_rfl) ?_
         refine x_then ?_
         refine c_cond (c := (decide (y20 = (⟨f.name, f.line, f.base, f.extra, f.want, true⟩ : Fr)))) rfl rfl (fun c22 => ?_) (fun c22 => ?_)
         · have p23 := of_decide_eq_true c22
           first
           | (exfalso; omega)
           | (refine c_seq ?_
              refine c_reg ?_
              refine l_pure (.int .i64 0) rfl (fun _ => rfl) ?_
              refine l_nil ?_
              refine x_then ?_
              refine c_ret ?_
              refine x_ret ?_
              refine x_fin (.int .i64 0) (res_of (vs := [.int .i64 0]) rfl (.cons (.tmp _ (.int .i64 0) rfl rfl) .nil)) ?_
              have hp : replR L f = (0, L) := replR_same (by simp [p12, p15, p23]) (by omega) (by rw [hy21]; congr 1)
              rw [hp]
              exact ⟨rfl, fun k => k = b ∨ k = mb ∨ blk sv = some k, ⟨sv, mb, _, hB, hV, hM, hbm, fun g hg => by have := s0 g hg; omega, fun k => Iff.rfl⟩, hT, fun k hk => by
                by_cases hl : k < H.size
                · left; rcases hk with rfl | rfl | hk
                  · exact (hfp _).2 (.inl rfl)
                  · exact (hfp _).2 (.inr (.inl rfl))
                  · exact o0 k hk hl
                · right; omega⟩)
         · have p24 := of_decide_eq_false c22
           first
           | (exfalso; omega)
           | (refine c_skip ?_
              refine x_then ?_
              refine c_seq ?_
              refine c_draw Try.mixed (by kernel_rfl) ?_
              refine l_pure (.pointer (some ⟨b, 0, none⟩)) rfl (fun _ => rfl) ?_
              refine l_pure (.pointer (some ⟨b, 0, none⟩)) rfl (fun _ => rfl) ?_
              refine l_pure (.pointer (some ⟨b, 1, none⟩)) rfl (fun _ => rfl) ?_
              refine l_loadC rfl b 1 #[sv, .map (some mb)] _ _ (.map (some mb)) rfl rfl (by kernel_rfl) hB rfl ?_
              refine l_pure (.pointer (some (elemAt FrT.size sv (L.length - 1)))) rfl (fun _ => rfl) ?_
              refine l_pure (.pointer (some (elemAt FrT.size sv (L.length - 1)))) rfl (fun _ => rfl) ?_
              refine l_pure (.pointer (some (elemAt FrT.size sv (L.length - 1)))) rfl (fun _ => rfl) ?_
              refine l_loadF rfl FrT_ok sv (L.length - 1) 0 y20 (.string y20.name) L rfl rfl (by kernel_rfl) hV.sl hy21 rfl ?_
              refine l_lookup rfl strOk Try.underlying60 (.int .i64 0) (fun _ => by kernel_rfl) y20.name rfl rfl rfl hM ?_
              obtain ⟨x25, hx26⟩ : ∃ x : Int, ((aget m y20.name).map iV).getD (.int .i64 0) = .int .i64 x := by cases aget m y20.name <;> exact ⟨_, rfl⟩
              rw [hx26]
              refine l_subW rfl x25 1 rfl rfl rfl ?_
              refine l_update rfl strOk Try.underlying60 y20.name (IntKind.i64.wrap (x25 - 1)) rfl rfl rfl rfl hM (fun H27 u28 => ?_)
              have e29 := u28.chg.size
              replace hB := u28.chg.get hB (fun e => by omega)
              replace hV := hV.chg u28.chg (fun k hk e => by have := s0 k hk; omega)
              replace B19 := u28.chg.get B19 (fun e => by omega)
              replace hT := hT.trans' u28.chg (fun i e _ => e ▸ (hfp mb).2 (.inr (.inl rfl)))
              have M30 := u28.mp
              refine l_nil ?_
              refine x_dyn (by kernel_rfl) ?_
              refine x_then ?_
              refine c_seq ?_
              refine c_draw Try.mixed (by kernel_rfl) ?_
              refine l_pure (.pointer (some ⟨b, 0, none⟩)) rfl (fun _ => rfl) ?_
              refine l_pure (.pointer (some ⟨b, 0, none⟩)) rfl (fun _ => rfl) ?_
              refine l_pure (.pointer (some ⟨b, 1, none⟩)) rfl (fun _ => rfl) ?_
              refine l_loadC rfl b 1 #[sv, .map (some mb)] _ _ (.map (some mb)) rfl rfl (by kernel_rfl) hB rfl ?_
              refine l_pure (.pointer (some ⟨g2, 0, none⟩)) rfl (fun _ => rfl) ?_
              refine l_loadC rfl g2 0 #[.string f.name, .int .i64 f.line, .int .i64 f.base, .int .i64 f.extra, .int .i64 f.want, .bool true] _ _ (.string f.name) rfl rfl (by kernel_rfl) B19 rfl ?_
              refine l_lookup rfl strOk Try.underlying60 (.int .i64 0) (fun _ => by kernel_rfl) f.name rfl rfl rfl M30 ?_
              obtain ⟨x31, hx32⟩ : ∃ x : Int, ((aget (aset m y20.name (IntKind.i64.wrap (x25 - 1))) f.name).map iV).getD (.int .i64 0) = .int .i64 x := by cases aget (aset m y20.name (IntKind.i64.wrap (x25 - 1))) f.name <;> exact ⟨_, rfl⟩
              rw [hx32]
              refine l_addW rfl x31 1 rfl rfl rfl ?_
              refine l_update rfl strOk Try.underlying60 f.name (IntKind.i64.wrap (x31 + 1)) rfl rfl rfl rfl M30 (fun H33 u34 => ?_)
              have e35 := u34.chg.size
              replace hB := u34.chg.get hB (fun e => by omega)
              replace hV := hV.chg u34.chg (fun k hk e => by have := s0 k hk; omega)
              replace B19 := u34.chg.get B19 (fun e => by omega)
              replace hT := hT.trans' u34.chg (fun i e _ => e ▸ (hfp mb).2 (.inr (.inl rfl)))
              have M36 := u34.mp
              refine l_nil ?_
              refine x_dyn (by kernel_rfl) ?_
              refine x_then ?_
              refine c_seq ?_
              refine c_reg ?_
              refine l_pure (.pointer (some (elemAt FrT.size sv (L.length - 1)))) rfl (fun _ => rfl) ?_
              refine l_loadA rfl g2 0 6 #[.string f.name, .int .i64 f.line, .int .i64 f.base, .int .i64 f.extra, .int .i64 f.want, .bool true] _ _ #[.string f.name, .int .i64 f.line, .int .i64 f.base, .int .i64 f.extra, .int .i64 f.want, .bool true] rfl rfl (by kernel_rfl) B19 rfl rfl ?_
              refine l_pure (.pointer (some (elemAt FrT.size sv (L.length - 1)))) rfl (fun _ => rfl) ?_
              refine l_storeE rfl FrT_ok sv (L.length - 1) 0 6 y20 (⟨f.name, f.line, f.base, f.extra, f.want, true⟩ : Fr) (.agg #[.string f.name, .int .i64 f.line, .int .i64 f.base, .int .i64 f.extra, .int .i64 f.want, .bool true]) L rfl rfl rfl (by kernel_rfl) hV hy21 rfl rfl rfl rfl (fun H37 S38 q39 => ?_)
              have e40 := q39.size
              replace hB := q39.get hB (fun e => by have := s0 _ e; omega)
              replace B19 := q39.get B19 (fun e => by have := s0 _ e; omega)
              replace M36 := M36.chg q39 (fun e => by have := s0 _ e; omega)
              replace hT := hT.trans' q39 (fun i e hl => o0 i e hl)
              refine l_nil ?_
              refine x_then ?_
              refine c_seq ?_
              refine c_reg ?_
              refine l_pure (.int .i64 0) rfl (fun _ => rfl) ?_
              refine l_nil ?_
              refine x_then ?_
              refine c_ret ?_
              refine x_fin (.int .i64 0) (res_of (vs := [.int .i64 0]) rfl (.cons (.tmp _ (.int .i64 0) rfl rfl) .nil)) ?_
              have hp : replR L f = (0, (L.set (L.length - 1) (⟨f.name, f.line, f.base, f.extra, f.want, true⟩ : Fr))) := replR_ok (by simp [p12, p15, p24]) (by omega)
              rw [hp]
              exact ⟨rfl, fun k => k = b ∨ k = mb ∨ blk sv = some k, ⟨sv, mb, _, hB, S38, M36, hbm, fun g hg => by have := s0 g hg; omega, fun k => Iff.rfl⟩, hT, fun k hk => by
                by_cases hl : k < H.size
                · left; rcases hk with rfl | rfl | hk
                  · exact (hfp _).2 (.inl rfl)
                  · exact (hfp _).2 (.inr (.inl rfl))
                  · exact o0 k hk hl
                · right; omega⟩))
theorem at_ok (n : Int) (H : Heap) (b : Nat) (L : List Fr) (fp : Nat → Prop) (hS : FS H b L fp) : HC Try.prog 27 #[.pointer (some ⟨b, 0, none⟩), .int .i64 n] H fun v H' => v = .int .i64 (atR L n).1 ∧ ∃ fp', FS H' b (atR L n).2 fp' ∧ Chg fp H H' ∧ ∀ k, fp' k → fp k ∨ H.size ≤ k := by
  obtain ⟨sv, mb, m, hB, hV, hM, hbm, hne, hfp⟩ := hS
  have s0 : ∀ k, blk sv = some k → k ≠ b ∧ k ≠ mb ∧ k < H.size := fun k hk => ⟨(hne k hk).1, (hne k hk).2, hV.lt hk⟩
  have o0 : ∀ k, blk sv = some k → k < H.size → fp k := fun k hk _ => (hfp k).2 (.inr (.inr hk))
  have lb := lt_of_some hB
  have lm := hM.lt
  have lL : L.length ≤ 9223372036854775807 := hV.sl.len_le
  refine enter Try.func27 rfl 31 rfl rfl [(0, .pointer (some ⟨b, 0, none⟩)), (1, .int .i64 n)] rfl (fun w0 => ?_)
  have hT : Chg fp H H := Chg.refl _ _
  refine c_seq ?_
  refine c_reg ?_
  refine l_pure (.int .i64 0) rfl (fun _ => rfl) ?_
  refine l_nil ?_
  refine x_then ?_
  refine c_seq ?_
  refine c_block ?_
  refine c_seq ?_
  refine c_reg ?_
  refine l_pure (.pointer (some ⟨b, 0, none⟩)) rfl (fun _ => rfl) ?_
  refine l_pure (.bool false) rfl (fun _ => rfl) ?_
  refine l_pure (.bool false) rfl (fun _ => rfl) ?_
  refine l_nil ?_
  refine x_then ?_
  refine c_false rfl rfl ?_
  refine c_seq ?_
  refine c_reg ?_
  refine l_pure (.int .i64 n) rfl (fun _ => rfl) ?_
  refine l_cmp rfl .i64 n 0 (decide (n < 0)) rfl rfl rfl rfl ?_
  refine l_pure (.bool (decide (n < 0))) rfl (fun _ => rfl) ?_
  refine l_nil ?_
  refine x_then ?_
  refine c_cond (c := (decide (n < 0))) rfl rfl (fun c1 => ?_) (fun c1 => ?_)
  · have p2 := of_decide_eq_true c1
    first
    | (exfalso; omega)
    | (refine c_seq ?_
       refine c_reg ?_
       refine l_pure (.int .i64 2) rfl (fun _ => rfl) ?_
       refine l_nil ?_
       refine x_then ?_
       refine c_ret ?_
       refine x_retBlock ?_
       refine x_ret ?_
       refine x_fin (.int .i64 2) (res_of (vs := [.int .i64 2]) rfl (.cons (.tmp _ (.int .i64 2) rfl rfl) .nil)) ?_
       have hp : atR L n = (2, L) := by simp [atR, p2]
       rw [hp]
       exact ⟨rfl, fun k => k = b ∨ k = mb ∨ blk sv = some k, ⟨sv, mb, _, hB, hV, hM, hbm, fun g hg => by have := s0 g hg; omega, fun k => Iff.rfl⟩, hT, fun k hk => by
         by_cases hl : k < H.size
         · left; rcases hk with rfl | rfl | hk
           · exact (hfp _).2 (.inl rfl)
           · exact (hfp _).2 (.inr (.inl rfl))
           · exact o0 k hk hl
         · right; omega⟩)
  · have p3 := of_decide_eq_false c1
    first
    | (exfalso; omega)
    | (refine c_seq ?_
       refine c_reg ?_
       refine l_pure (.pointer (some ⟨b, 0, none⟩)) rfl (fun _ => rfl) ?_
       refine l_pure (.pointer (some ⟨b, 0, none⟩)) rfl (fun _ => rfl) ?_
       refine l_pure (.pointer (some ⟨b, 0, none⟩)) rfl (fun _ => rfl) ?_
       refine l_loadC rfl b 0 #[sv, .map (some mb)] _ _ sv rfl rfl (by kernel_rfl) hB rfl ?_
       refine l_len rfl FrT_ok Try.underlying61 rfl rfl hV.sl ?_
       refine l_cmp rfl .i64 (L.length : Int) 0 (decide ((L.length : Int) = 0)) rfl rfl rfl rfl ?_
       refine l_pure (.bool (decide ((L.length : Int) = 0))) rfl (fun _ => rfl) ?_
       refine l_nil ?_
       refine x_then ?_
       refine c_cond (c := (decide ((L.length : Int) = 0))) rfl rfl (fun c4 => ?_) (fun c4 => ?_)
       · have p5 := of_decide_eq_true c4
         first
         | (exfalso; omega)
         | (refine c_seq ?_
            refine c_reg ?_
            refine l_pure (.int .i64 18) rfl (fun _ => rfl) ?_
            refine l_nil ?_
            refine x_then ?_
            refine c_ret ?_
            refine x_retBlock ?_
            refine x_ret ?_
            refine x_fin (.int .i64 18) (res_of (vs := [.int .i64 18]) rfl (.cons (.tmp _ (.int .i64 18) rfl rfl) .nil)) ?_
            have hp : atR L n = (18, L) := atR_nil (by omega) (by omega)
            rw [hp]
            exact ⟨rfl, fun k => k = b ∨ k = mb ∨ blk sv = some k, ⟨sv, mb, _, hB, hV, hM, hbm, fun g hg => by have := s0 g hg; omega, fun k => Iff.rfl⟩, hT, fun k hk => by
              by_cases hl : k < H.size
              · left; rcases hk with rfl | rfl | hk
                · exact (hfp _).2 (.inl rfl)
                · exact (hfp _).2 (.inr (.inl rfl))
                · exact o0 k hk hl
              · right; omega⟩)
       · have p6 := of_decide_eq_false c4
         first
         | (exfalso; omega)
         | (refine c_skip ?_
            refine x_block ?_
            refine x_then ?_
            refine c_seq ?_
            refine c_draw Try.mixed (by kernel_rfl) ?_
            refine l_pure (.pointer (some ⟨b, 0, none⟩)) rfl (fun _ => rfl) ?_
            refine l_pure (.pointer (some ⟨b, 0, none⟩)) rfl (fun _ => rfl) ?_
            refine l_pure (.pointer (some ⟨b, 0, none⟩)) rfl (fun _ => rfl) ?_
            refine l_loadC rfl b 0 #[sv, .map (some mb)] _ _ sv rfl rfl (by kernel_rfl) hB rfl ?_
            refine l_pure (.pointer (some ⟨b, 0, none⟩)) rfl (fun _ => rfl) ?_
            refine l_pure (.pointer (some ⟨b, 0, none⟩)) rfl (fun _ => rfl) ?_
            refine l_pure (.pointer (some ⟨b, 0, none⟩)) rfl (fun _ => rfl) ?_
            refine l_loadC rfl b 0 #[sv, .map (some mb)] _ _ sv rfl rfl (by kernel_rfl) hB rfl ?_
            refine l_len rfl FrT_ok Try.underlying61 rfl rfl hV.sl ?_
            refine l_sub rfl (L.length : Int) 1 rfl rfl rfl (by omega) ?_
            refine l_pure (.int .i64 n) rfl (fun _ => rfl) ?_
            refine l_index rfl FrT_ok Try.underlying61 .i64 ((L.length : Int) - 1) rfl rfl rfl hV.sl (by omega) (by omega) (L.length - 1) (by omega) ?_
            refine l_pure (.pointer (some ((elemAt FrT.size sv (L.length - 1)).add 1))) rfl (fun _ => rfl) ?_
            obtain ⟨y7, hy8⟩ : ∃ y, L[(L.length - 1)]? = some y := ⟨_, List.getElem?_eq_getElem (by omega)⟩
            refine l_storeE rfl FrT_ok sv (L.length - 1) 1 1 y7 (⟨y7.name, n, y7.base, y7.extra, y7.want, y7.tail⟩ : Fr) (.int .i64 n) L rfl rfl rfl (by kernel_rfl) hV hy8 rfl rfl rfl rfl (fun H9 S10 q11 => ?_)
            have e12 := q11.size
            replace hB := q11.get hB (fun e => by have := s0 _ e; omega)
            replace hM := hM.chg q11 (fun e => by have := s0 _ e; omega)
            replace hT := hT.trans' q11 (fun i e hl => o0 i e hl)
            refine l_nil ?_
            refine x_dyn (by obtain ⟨_, _, rfl⟩ := S10.sl.form; kernel_rfl) ?_
            refine x_then ?_
            refine c_seq ?_
            refine c_reg ?_
            refine l_pure (.int .i64 0) rfl (fun _ => rfl) ?_
            refine l_nil ?_
            refine x_then ?_
            refine c_ret ?_
            refine x_fin (.int .i64 0) (res_of (vs := [.int .i64 0]) rfl (.cons (.tmp _ (.int .i64 0) rfl rfl) .nil)) ?_
            have hp := atR_some (by omega) hy8
            rw [hp]
            exact ⟨rfl, fun k => k = b ∨ k = mb ∨ blk sv = some k, ⟨sv, mb, _, hB, S10, hM, hbm, fun g hg => by have := s0 g hg; omega, fun k => Iff.rfl⟩, hT, fun k hk => by
              by_cases hl : k < H.size
              · left; rcases hk with rfl | rfl | hk
                · exact (hfp _).2 (.inl rfl)
                · exact (hfp _).2 (.inr (.inl rfl))
                · exact o0 k hk hl
              · right; omega⟩))
theorem rpush_ok (f : Fr) (H : Heap) (b : Nat) (L : List Fr) (fp : Nat → Prop) (hS : RS H b L fp) : HC Try.prog 29 #[.pointer (some ⟨b, 0, none⟩), f.v] H fun v H' => v = .int .i64 (pushR L f).1 ∧ ∃ fp', RS H' b (pushR L f).2 fp' ∧ Chg fp H H' ∧ ∀ k, fp' k → fp k ∨ H.size ≤ k := by
  obtain ⟨sv, hB, hV, hne, hfp⟩ := hS
  have s0 : ∀ k, blk sv = some k → k ≠ b ∧ k < H.size := fun k hk => ⟨hne k hk, hV.lt hk⟩
  have o0 : ∀ k, blk sv = some k → k < H.size → fp k := fun k hk _ => (hfp k).2 (.inr hk)
  have lb := lt_of_some hB
  have lL : L.length ≤ 9223372036854775807 := hV.sl.len_le
  refine enter Try.func29 rfl 25 rfl rfl [(0, .pointer (some ⟨b, 0, none⟩)), (1, .agg #[.string f.name, .int .i64 f.line, .int .i64 f.base, .int .i64 f.extra, .int .i64 f.want, .bool f.tail])] rfl (fun w0 => ?_)
  have hT : Chg fp H H := Chg.refl _ _
  refine c_seq ?_
  refine c_reg ?_
  refine l_box rfl (.agg #[.string f.name, .int .i64 f.line, .int .i64 f.base, .int .i64 f.extra, .int .i64 f.want, .bool f.tail]) #[.string f.name, .int .i64 f.line, .int .i64 f.base, .int .i64 f.extra, .int .i64 f.want, .bool f.tail] rfl rfl rfl (fun g2 H3 n4 => ?_)
  have e5 := n4.at_; have e6 := n4.size
  replace hB := (n4.chg fun _ => False).get hB (fun h => h)
  replace hV := hV.chg (n4.chg fun _ => False) (fun _ _ h => h)
  replace hT := hT.trans' (n4.chg fun _ => False) (fun _ h _ => h.elim)
  have B1 := n4.is
  refine l_pure (.int .i64 0) rfl (fun _ => rfl) ?_
  refine l_nil ?_
  refine x_then ?_
  refine c_seq ?_
  refine c_seq ?_
  refine c_reg ?_
  refine l_pure (.pointer (some ⟨b, 0, none⟩)) rfl (fun _ => rfl) ?_
  refine l_pure (.bool false) rfl (fun _ => rfl) ?_
  refine l_nil ?_
  refine x_then ?_
  refine c_false rfl rfl ?_
  refine c_skip ?_
  refine x_then ?_
  refine c_seq ?_
  refine c_seq ?_
  refine c_reg ?_
  refine l_loadA rfl g2 0 6 #[.string f.name, .int .i64 f.line, .int .i64 f.base, .int .i64 f.extra, .int .i64 f.want, .bool f.tail] _ _ #[.string f.name, .int .i64 f.line, .int .i64 f.base, .int .i64 f.extra, .int .i64 f.want, .bool f.tail] rfl rfl (by kernel_rfl) B1 rfl rfl ?_
  refine l_call rfl [.agg #[.string f.name, .int .i64 f.line, .int .i64 f.base, .int .i64 f.extra, .int .i64 f.want, .bool f.tail]] rfl rfl (by kernel_rfl) (wrong_ok f _) ?_
  rintro _ H7 ⟨rfl, k8⟩
  have e9 := k8.size
  replace hB := k8.get hB (fun h => h)
  replace hV := hV.chg k8 (fun _ _ h => h)
  replace B1 := k8.get B1 (fun h => h)
  replace hT := hT.trans' k8 (fun _ h _ => h.elim)
  refine l_nil ?_
  refine x_then ?_
  refine c_cond (c := (!rightB f)) rfl rfl (fun c10 => ?_) (fun c10 => ?_)
  · have p11 := c10
    refine c_seq ?_
    refine c_reg ?_
    refine l_pure (.int .i64 2) rfl (fun _ => rfl) ?_
    refine l_nil ?_
    refine x_then ?_
    refine c_ret ?_
    refine x_ret ?_
    refine x_fin (.int .i64 2) (res_of (vs := [.int .i64 2]) rfl (.cons (.tmp _ (.int .i64 2) rfl rfl) .nil)) ?_
    have hp : pushR L f = (2, L) := by simp [pushR, p11]
    rw [hp]
    exact ⟨rfl, fun k => k = b ∨ blk sv = some k, ⟨sv, hB, hV, fun g hg => by have := s0 g hg; omega, fun k => Iff.rfl⟩, hT, fun k hk => by
      by_cases hl : k < H.size
      · left; rcases hk with rfl | hk
        · exact (hfp _).2 (.inl rfl)
        · exact o0 k hk hl
      · right; omega⟩
  · have p12 := c10
    refine c_skip ?_
    refine x_then ?_
    refine c_seq ?_
    refine c_seq ?_
    refine c_reg ?_
    refine l_pure (.pointer (some ⟨b, 0, none⟩)) rfl (fun _ => rfl) ?_
    refine l_pure (.pointer (some ⟨b, 0, none⟩)) rfl (fun _ => rfl) ?_
    refine l_pure (.pointer (some ⟨b, 0, none⟩)) rfl (fun _ => rfl) ?_
    refine l_loadC rfl b 0 #[sv] _ _ sv rfl rfl (by kernel_rfl) hB rfl ?_
    refine l_len rfl RfT_ok Try.underlying64 rfl rfl hV.sl ?_
    refine l_cmp rfl .i64 (L.length : Int) 150 (decide ((150 : Int) ≤ (L.length : Int))) rfl rfl rfl rfl ?_
    refine l_nil ?_
    refine x_then ?_
    refine c_cond (c := (decide ((150 : Int) ≤ (L.length : Int)))) rfl rfl (fun c13 => ?_) (fun c13 => ?_)
    · have p14 := of_decide_eq_true c13
      first
      | (exfalso; omega)
      | (refine c_seq ?_
         refine c_reg ?_
         refine l_pure (.int .i64 17) rfl (fun _ => rfl) ?_
         refine l_nil ?_
         refine x_then ?_
         refine c_ret ?_
         refine x_ret ?_
         refine x_fin (.int .i64 17) (res_of (vs := [.int .i64 17]) rfl (.cons (.tmp _ (.int .i64 17) rfl rfl) .nil)) ?_
         have hp : pushR L f = (17, L) := by simp [pushR, p12, p14]
         rw [hp]
         exact ⟨rfl, fun k => k = b ∨ blk sv = some k, ⟨sv, hB, hV, fun g hg => by have := s0 g hg; omega, fun k => Iff.rfl⟩, hT, fun k hk => by
           by_cases hl : k < H.size
           · left; rcases hk with rfl | hk
             · exact (hfp _).2 (.inl rfl)
             · exact o0 k hk hl
           · right; omega⟩)
    · have p15 := of_decide_eq_false c13
      first
      | (exfalso; omega)
      | (refine c_skip ?_
         refine x_then ?_
         refine c_seq ?_
         refine c_draw Try.mixed (by kernel_rfl) ?_
         refine l_pure (.pointer (some ⟨b, 0, none⟩)) rfl (fun _ => rfl) ?_
         refine l_pure (.pointer (some ⟨b, 0, none⟩)) rfl (fun _ => rfl) ?_
         refine l_pure (.pointer (some ⟨b, 0, none⟩)) rfl (fun _ => rfl) ?_
         refine l_pure (.pointer (some ⟨b, 0, none⟩)) rfl (fun _ => rfl) ?_
         refine l_loadC rfl b 0 #[sv] _ _ sv rfl rfl (by kernel_rfl) hB rfl ?_
         refine l_loadA rfl g2 0 6 #[.string f.name, .int .i64 f.line, .int .i64 f.base, .int .i64 f.extra, .int .i64 f.want, .bool f.tail] _ _ #[.string f.name, .int .i64 f.line, .int .i64 f.base, .int .i64 f.extra, .int .i64 f.want, .bool f.tail] rfl rfl (by kernel_rfl) B1 rfl rfl ?_
         refine l_buildSlice rfl [(0, .agg #[.string f.name, .int .i64 f.line, .int .i64 f.base, .int .i64 f.extra, .int .i64 f.want, .bool f.tail])] 68 #[.string f.name, .int .i64 f.line, .int .i64 f.base, .int .i64 f.extra, .int .i64 f.want, .bool f.tail] rfl rfl (by kernel_rfl) (fun g17 H18 n19 => ?_)
         have e20 := n19.at_; have e21 := n19.size
         replace hB := (n19.chg fun _ => False).get hB (fun h => h)
         replace hV := hV.chg (n19.chg fun _ => False) (fun _ _ h => h)
         replace B1 := (n19.chg fun _ => False).get B1 (fun h => h)
         replace hT := hT.trans' (n19.chg fun _ => False) (fun _ h _ => h.elim)
         have B16 := n19.is
         refine l_append (v := sv) (L := L) rfl RfT_ok Try.underlying64 (.slice (some ⟨g17, 0, none⟩) 1 1) rfl rfl rfl hV (Ow.lit RfT_ok [f] B16 rfl rfl (by simp)).sl (by simp only [List.length_nil, List.length_cons, List.length_append, List.length_drop, List.length_take]; show _ * 56 ≤ _; omega) (by simp only [List.length_nil, List.length_cons, List.length_append, List.length_drop, List.length_take]; omega) (fun v22 H23 a24 => ?_)
         have e25 := a24.chg.size
         replace hB := a24.chg.get hB (fun e => by have := s0 _ e; omega)
         replace B1 := a24.chg.get B1 (fun e => by have := s0 _ e; omega)
         replace B16 := a24.chg.get B16 (fun e => by have := s0 _ e; omega)
         replace hT := hT.trans' a24.chg (fun i e hl => o0 i e hl)
         have S26 := a24.ow
         have s27m := a24.moved
         have s27 : ∀ k, blk v22 = some k → k ≠ b ∧ k ≠ g2 ∧ k ≠ g17 ∧ k < H23.size := fun k hk => by
           rcases s27m k hk with h | h
           · have := s0 k h; have := S26.lt hk; omega
           · have := S26.lt hk; omega
         have o28 : ∀ k, blk v22 = some k → k < H.size → fp k := fun k hk hl => by
           rcases s27m k hk with h | h
           · exact o0 k h hl
           · exfalso; omega
         refine l_pure (.pointer (some ⟨b, 0, none⟩)) rfl (fun _ => rfl) ?_
         refine l_pure (.pointer (some ⟨b, 0, none⟩)) rfl (fun _ => rfl) ?_
         refine l_store rfl b 0 1 #[sv] #[v22] _ v22 rfl rfl rfl (by kernel_rfl) hB (by obtain ⟨_, _, e⟩ := S26.sl.form; rw [e]; rfl) rfl (by obtain ⟨_, _, e⟩ := S26.sl.form; rw [e]; rfl) (by obtain ⟨_, _, e⟩ := S26.sl.form; rw [e]; rfl) (fun H29 q30 => ?_)
         have e31 := q30.size
         replace B1 := q30.chg.get B1 (fun e => by omega)
         replace B16 := q30.chg.get B16 (fun e => by omega)
         replace S26 := S26.chg q30.chg (fun k hk e => by have := s27 k hk; omega)
         replace hT := hT.trans' q30.chg (fun i e _ => e ▸ (hfp b).2 (.inl rfl))
         have B32 := q30.is
         refine l_nil ?_
         refine x_dyn (by kernel_rfl) ?_
         refine x_then ?_
         refine c_seq ?_
         refine c_reg ?_
         refine l_pure (.int .i64 0) rfl (fun _ => rfl) ?_
         refine l_nil ?_
         refine x_then ?_
         refine c_ret ?_
         refine x_fin (.int .i64 0) (res_of (vs := [.int .i64 0]) rfl (.cons (.tmp _ (.int .i64 0) rfl rfl) .nil)) ?_
         have hp : pushR L f = (0, (L ++ [f])) := by simp [pushR, p12, p15]
         rw [hp]
         exact ⟨rfl, fun k => k = b ∨ blk v22 = some k, ⟨v22, B32, S26, fun g hg => by have := s27 g hg; omega, fun k => Iff.rfl⟩, hT, fun k hk => by
           by_cases hl : k < H.size
           · left; rcases hk with rfl | hk
             · exact (hfp _).2 (.inl rfl)
             · exact o28 k hk hl
           · right; omega⟩)
theorem rpop_ok (H : Heap) (b : Nat) (L : List Fr) (fp : Nat → Prop) (hS : RS H b L fp) : HC Try.prog 31 #[.pointer (some ⟨b, 0, none⟩)] H fun v H' => v = .tuple #[(popR L).1.1.v, .bool (popR L).1.2] ∧ ∃ fp', RS H' b (popR L).2 fp' ∧ Chg fp H H' ∧ ∀ k, fp' k → fp k ∨ H.size ≤ k := by
  obtain ⟨sv, hB, hV, hne, hfp⟩ := hS
  have s0 : ∀ k, blk sv = some k → k ≠ b ∧ k < H.size := fun k hk => ⟨hne k hk, hV.lt hk⟩
  have o0 : ∀ k, blk sv = some k → k < H.size → fp k := fun k hk _ => (hfp k).2 (.inr hk)
  have lb := lt_of_some hB
  have lL : L.length ≤ 9223372036854775807 := hV.sl.len_le
  refine enter Try.func31 rfl 43 rfl rfl [(0, .pointer (some ⟨b, 0, none⟩))] rfl (fun w0 => ?_)
  have hT : Chg fp H H := Chg.refl _ _
  refine c_seq ?_
  refine c_reg ?_
  refine l_alloc rfl (.agg #[.string ByteArray.empty, .int .i64 0, .int .i64 0, .int .i64 0, .int .i64 0, .bool false]) #[.string ByteArray.empty, .int .i64 0, .int .i64 0, .int .i64 0, .int .i64 0, .bool false] rfl (fun _ => by kernel_rfl) rfl (fun g2 H3 n4 => ?_)
  have e5 := n4.at_; have e6 := n4.size
  replace hB := (n4.chg fun _ => False).get hB (fun h => h)
  replace hV := hV.chg (n4.chg fun _ => False) (fun _ _ h => h)
  replace hT := hT.trans' (n4.chg fun _ => False) (fun _ h _ => h.elim)
  have B1 := n4.is
  refine l_pure (.bool false) rfl (fun _ => rfl) ?_
  refine l_nil ?_
  refine x_then ?_
  refine c_seq ?_
  refine c_seq ?_
  refine c_reg ?_
  refine l_pure (.pointer (some ⟨b, 0, none⟩)) rfl (fun _ => rfl) ?_
  refine l_pure (.bool false) rfl (fun _ => rfl) ?_
  refine l_pure (.bool false) rfl (fun _ => rfl) ?_
  refine l_pure (.pointer (some ⟨b, 0, none⟩)) rfl (fun _ => rfl) ?_
  refine l_pure (.pointer (some ⟨b, 0, none⟩)) rfl (fun _ => rfl) ?_
  refine l_pure (.pointer (some ⟨b, 0, none⟩)) rfl (fun _ => rfl) ?_
  refine l_loadC rfl b 0 #[sv] _ _ sv rfl rfl (by kernel_rfl) hB rfl ?_
  refine l_len rfl RfT_ok Try.underlying64 rfl rfl hV.sl ?_
  refine l_cmp rfl .i64 (L.length : Int) 0 (decide ((L.length : Int) = 0)) rfl rfl rfl rfl ?_
  refine l_pure (.bool (decide ((L.length : Int) = 0))) rfl (fun _ => rfl) ?_
  refine l_nil ?_
  refine x_then ?_
  refine c_cond (c := (decide ((L.length : Int) = 0))) rfl rfl (fun c7 => ?_) (fun c7 => ?_)
  · have p8 := of_decide_eq_true c7
    first
    | (exfalso; omega)
    | (refine c_seq ?_
       refine c_reg ?_
       refine l_pure (.agg #[.string ByteArray.empty, .int .i64 0, .int .i64 0, .int .i64 0, .int .i64 0, .bool false]) rfl (fun _ => by kernel_rfl) ?_
       refine l_store rfl g2 0 6 #[.string ByteArray.empty, .int .i64 0, .int .i64 0, .int .i64 0, .int .i64 0, .bool false] #[.string ByteArray.empty, .int .i64 0, .int .i64 0, .int .i64 0, .int .i64 0, .bool false] _ (.agg #[.string ByteArray.empty, .int .i64 0, .int .i64 0, .int .i64 0, .int .i64 0, .bool false]) rfl rfl rfl (by kernel_rfl) B1 rfl rfl rfl rfl (fun H9 q10 => ?_)
       have e11 := q10.size
       replace hB := q10.chg.get hB (fun e => by omega)
       replace hV := hV.chg q10.chg (fun k hk e => by have := s0 k hk; omega)
       replace hT := hT.trans' q10.chg (fun i (e : i = g2) hl => by exfalso; omega)
       have B12 := q10.is
       refine l_pure (.bool false) rfl (fun _ => rfl) ?_
       refine l_nil ?_
       refine x_then ?_
       refine c_ret ?_
       refine x_ret ?_
       refine x_fin (.tuple #[.agg #[.string ByteArray.empty, .int .i64 0, .int .i64 0, .int .i64 0, .int .i64 0, .bool false], .bool false]) (res_of (vs := [.agg #[.string ByteArray.empty, .int .i64 0, .int .i64 0, .int .i64 0, .int .i64 0, .bool false], .bool false]) rfl (.cons (.cell _ _ (.agg #[.string ByteArray.empty, .int .i64 0, .int .i64 0, .int .i64 0, .int .i64 0, .bool false]) _ rfl rfl (fun w hw => run_loadX (by kernel_rfl) hw B12 _ rfl rfl)) (.cons (.tmp _ (.bool false) rfl rfl) .nil))) ?_
       have hp : popR L = ((zFr, false), L) := popR_nil (by omega)
       rw [hp]
       exact ⟨rfl, fun k => k = b ∨ blk sv = some k, ⟨sv, hB, hV, fun g hg => by have := s0 g hg; omega, fun k => Iff.rfl⟩, hT, fun k hk => by
         by_cases hl : k < H.size
         · left; rcases hk with rfl | hk
           · exact (hfp _).2 (.inl rfl)
           · exact o0 k hk hl
         · right; omega⟩)
  · have p13 := of_decide_eq_false c7
    first
    | (exfalso; omega)
    | (refine c_skip ?_
       refine x_then ?_
       refine c_seq ?_
       refine c_draw Try.mixed (by kernel_rfl) ?_
       refine l_pure (.pointer (some ⟨b, 0, none⟩)) rfl (fun _ => rfl) ?_
       refine l_pure (.pointer (some ⟨b, 0, none⟩)) rfl (fun _ => rfl) ?_
       refine l_pure (.pointer (some ⟨b, 0, none⟩)) rfl (fun _ => rfl) ?_
       refine l_loadC rfl b 0 #[sv] _ _ sv rfl rfl (by kernel_rfl) hB rfl ?_
       refine l_pure (.pointer (some ⟨b, 0, none⟩)) rfl (fun _ => rfl) ?_
       refine l_pure (.pointer (some ⟨b, 0, none⟩)) rfl (fun _ => rfl) ?_
       refine l_pure (.pointer (some ⟨b, 0, none⟩)) rfl (fun _ => rfl) ?_
       refine l_loadC rfl b 0 #[sv] _ _ sv rfl rfl (by kernel_rfl) hB rfl ?_
       refine l_len rfl RfT_ok Try.underlying64 rfl rfl hV.sl ?_
       refine l_sub rfl (L.length : Int) 1 rfl rfl rfl (by omega) ?_
       refine l_index rfl RfT_ok Try.underlying64 .i64 ((L.length : Int) - 1) rfl rfl rfl hV.sl (by omega) (by omega) (L.length - 1) (by omega) ?_
       obtain ⟨y14, hy15⟩ : ∃ y, L[(L.length - 1)]? = some y := ⟨_, List.getElem?_eq_getElem (by omega)⟩
       refine l_loadE rfl RfT_ok rfl sv (L.length - 1) y14 (.agg #[.string y14.name, .int .i64 y14.line, .int .i64 y14.base, .int .i64 y14.extra, .int .i64 y14.want, .bool y14.tail]) L rfl rfl hV.sl hy15 rfl ?_
       refine l_alloc rfl (.agg #[.string ByteArray.empty, .int .i64 0, .int .i64 0, .int .i64 0, .int .i64 0, .bool false]) #[.string ByteArray.empty, .int .i64 0, .int .i64 0, .int .i64 0, .int .i64 0, .bool false] rfl (fun _ => by kernel_rfl) rfl (fun g17 H18 n19 => ?_)
       have e20 := n19.at_; have e21 := n19.size
       replace hB := (n19.chg fun _ => False).get hB (fun h => h)
       replace hV := hV.chg (n19.chg fun _ => False) (fun _ _ h => h)
       replace B1 := (n19.chg fun _ => False).get B1 (fun h => h)
       replace hT := hT.trans' (n19.chg fun _ => False) (fun _ h _ => h.elim)
       have B16 := n19.is
       refine l_store rfl g17 0 6 #[.string ByteArray.empty, .int .i64 0, .int .i64 0, .int .i64 0, .int .i64 0, .bool false] #[.string y14.name, .int .i64 y14.line, .int .i64 y14.base, .int .i64 y14.extra, .int .i64 y14.want, .bool y14.tail] _ (.agg #[.string y14.name, .int .i64 y14.line, .int .i64 y14.base, .int .i64 y14.extra, .int .i64 y14.want, .bool y14.tail]) rfl rfl rfl (by kernel_rfl) B16 rfl rfl rfl rfl (fun H22 q23 => ?_)
       have e24 := q23.size
       replace hB := q23.chg.get hB (fun e => by omega)
       replace hV := hV.chg q23.chg (fun k hk e => by have := s0 k hk; omega)
       replace B1 := q23.chg.get B1 (fun e => by omega)
       replace hT := hT.trans' q23.chg (fun i (e : i = g17) hl => by exfalso; omega)
       have B25 := q23.is
       refine l_nil ?_
       refine x_dyn (by obtain ⟨_, _, rfl⟩ := hV.sl.form; kernel_rfl) ?_
       refine x_then ?_
       refine c_seq ?_
       refine c_draw Try.mixed (by kernel_rfl) ?_
       refine l_pure (.pointer (some ⟨b, 0, none⟩)) rfl (fun _ => rfl) ?_
       refine l_pure (.pointer (some ⟨b, 0, none⟩)) rfl (fun _ => rfl) ?_
       refine l_pure (.pointer (some ⟨b, 0, none⟩)) rfl (fun _ => rfl) ?_
       refine l_pure (.pointer (some ⟨b, 0, none⟩)) rfl (fun _ => rfl) ?_
       refine l_loadC rfl b 0 #[sv] _ _ sv rfl rfl (by kernel_rfl) hB rfl ?_
       refine l_pure (.pointer (some ⟨b, 0, none⟩)) rfl (fun _ => rfl) ?_
       refine l_pure (.pointer (some ⟨b, 0, none⟩)) rfl (fun _ => rfl) ?_
       refine l_pure (.pointer (some ⟨b, 0, none⟩)) rfl (fun _ => rfl) ?_
       refine l_loadC rfl b 0 #[sv] _ _ sv rfl rfl (by kernel_rfl) hB rfl ?_
       refine l_len rfl RfT_ok Try.underlying64 rfl rfl hV.sl ?_
       refine l_sub rfl (L.length : Int) 1 rfl rfl rfl (by omega) ?_
       refine l_pre rfl RfT_ok Try.underlying64 .i64 ((L.length : Int) - 1) rfl rfl rfl hV.sl (by omega) (by omega) (L.length - 1) (by omega) ?_
       have S26 := hV.pre RfT_ok (L.length - 1) (by omega)
       have s27 : ∀ k, blk (pre sv (L.length - 1)) = some k → _ := fun k hk => s0 k ((blk_pre _ _).symm.trans hk)
       have o28 : ∀ k, blk (pre sv (L.length - 1)) = some k → k < H.size → fp k := fun k hk hl => o0 k ((blk_pre _ _).symm.trans hk) hl
       refine l_pure (.pointer (some ⟨b, 0, none⟩)) rfl (fun _ => rfl) ?_
       refine l_pure (.pointer (some ⟨b, 0, none⟩)) rfl (fun _ => rfl) ?_
       refine l_store rfl b 0 1 #[sv] #[(pre sv (L.length - 1))] _ (pre sv (L.length - 1)) rfl rfl rfl (by kernel_rfl) hB (by obtain ⟨_, _, e⟩ := S26.sl.form; rw [e]; rfl) rfl (by obtain ⟨_, _, e⟩ := S26.sl.form; rw [e]; rfl) (by obtain ⟨_, _, e⟩ := S26.sl.form; rw [e]; rfl) (fun H29 q30 => ?_)
       have e31 := q30.size
       replace hV := hV.chg q30.chg (fun k hk e => by have := s0 k hk; omega)
       replace B1 := q30.chg.get B1 (fun e => by omega)
       replace B25 := q30.chg.get B25 (fun e => by omega)
       replace S26 := S26.chg q30.chg (fun k hk e => by have := s27 k hk; omega)
       replace hT := hT.trans' q30.chg (fun i e _ => e ▸ (hfp b).2 (.inl rfl))
       have B32 := q30.is
       refine l_nil ?_
       refine x_dyn (by obtain ⟨_, _, rfl⟩ := hV.sl.form; kernel_rfl) ?_
       refine x_then ?_
       refine c_seq ?_
       refine c_reg ?_
       refine l_loadA rfl g17 0 6 #[.string y14.name, .int .i64 y14.line, .int .i64 y14.base, .int .i64 y14.extra, .int .i64 y14.want, .bool y14.tail] _ _ #[.string y14.name, .int .i64 y14.line, .int .i64 y14.base, .int .i64 y14.extra, .int .i64 y14.want, .bool y14.tail] rfl rfl (by kernel_rfl) B25 rfl rfl ?_
       refine l_store rfl g2 0 6 #[.string ByteArray.empty, .int .i64 0, .int .i64 0, .int .i64 0, .int .i64 0, .bool false] #[.string y14.name, .int .i64 y14.line, .int .i64 y14.base, .int .i64 y14.extra, .int .i64 y14.want, .bool y14.tail] _ (.agg #[.string y14.name, .int .i64 y14.line, .int .i64 y14.base, .int .i64 y14.extra, .int .i64 y14.want, .bool y14.tail]) rfl rfl rfl (by kernel_rfl) B1 rfl rfl rfl rfl (fun H33 q34 => ?_)
       have e35 := q34.size
       replace hV := hV.chg q34.chg (fun k hk e => by have := s0 k hk; omega)
       replace B25 := q34.chg.get B25 (fun e => by omega)
       replace S26 := S26.chg q34.chg (fun k hk e => by have := s27 k hk; omega)
       replace B32 := q34.chg.get B32 (fun e => by omega)
       replace hT := hT.trans' q34.chg (fun i (e : i = g2) hl => by exfalso; omega)
       have B36 := q34.is
       refine l_pure (.bool true) rfl (fun _ => rfl) ?_
       refine l_nil ?_
       refine x_then ?_
       refine c_ret ?_
       refine x_fin (.tuple #[.agg #[.string y14.name, .int .i64 y14.line, .int .i64 y14.base, .int .i64 y14.extra, .int .i64 y14.want, .bool y14.tail], .bool true]) (res_of (vs := [.agg #[.string y14.name, .int .i64 y14.line, .int .i64 y14.base, .int .i64 y14.extra, .int .i64 y14.want, .bool y14.tail], .bool true]) rfl (.cons (.cell _ _ (.agg #[.string y14.name, .int .i64 y14.line, .int .i64 y14.base, .int .i64 y14.extra, .int .i64 y14.want, .bool y14.tail]) _ rfl rfl (fun w hw => run_loadX (by kernel_rfl) hw B36 _ rfl rfl)) (.cons (.tmp _ (.bool true) rfl rfl) .nil))) ?_
       have hp := popR_some hy15
       rw [hp]
       exact ⟨rfl, fun k => k = b ∨ blk (pre sv (L.length - 1)) = some k, ⟨(pre sv (L.length - 1)), B32, S26, fun g hg => by have := s27 g hg; omega, fun k => Iff.rfl⟩, hT, fun k hk => by
         by_cases hl : k < H.size
         · left; rcases hk with rfl | hk
           · exact (hfp _).2 (.inl rfl)
           · exact o28 k hk hl
         · right; omega⟩)
theorem rrepl_ok (f : Fr) (H : Heap) (b : Nat) (L : List Fr) (fp : Nat → Prop) (hS : RS H b L fp) : HC Try.prog 32 #[.pointer (some ⟨b, 0, none⟩), f.v] H fun v H' => v = .int .i64 (replR L f).1 ∧ ∃ fp', RS H' b (replR L f).2 fp' ∧ Chg fp H H' ∧ ∀ k, fp' k → fp k ∨ H.size ≤ k := by
  obtain ⟨sv, hB, hV, hne, hfp⟩ := hS
  have s0 : ∀ k, blk sv = some k → k ≠ b ∧ k < H.size := fun k hk => ⟨hne k hk, hV.lt hk⟩
  have o0 : ∀ k, blk sv = some k → k < H.size → fp k := fun k hk _ => (hfp k).2 (.inr hk)
  have lb := lt_of_some hB
  have lL : L.length ≤ 9223372036854775807 := hV.sl.len_le
  refine enter Try.func32 rfl 28 rfl rfl [(0, .pointer (some ⟨b, 0, none⟩)), (1, .agg #[.string f.name, .int .i64 f.line, .int .i64 f.base, .int .i64 f.extra, .int .i64 f.want, .bool f.tail])] rfl (fun w0 => ?_)
  have hT : Chg fp H H := Chg.refl _ _
  refine c_seq ?_
  refine c_reg ?_
  refine l_box rfl (.agg #[.string f.name, .int .i64 f.line, .int .i64 f.base, .int .i64 f.extra, .int .i64 f.want, .bool f.tail]) #[.string f.name, .int .i64 f.line, .int .i64 f.base, .int .i64 f.extra, .int .i64 f.want, .bool f.tail] rfl rfl rfl (fun g2 H3 n4 => ?_)
  have e5 := n4.at_; have e6 := n4.size
  replace hB := (n4.chg fun _ => False).get hB (fun h => h)
  replace hV := hV.chg (n4.chg fun _ => False) (fun _ _ h => h)
  replace hT := hT.trans' (n4.chg fun _ => False) (fun _ h _ => h.elim)
  have B1 := n4.is
  refine l_pure (.int .i64 0) rfl (fun _ => rfl) ?_
  refine l_nil ?_
  refine x_then ?_
  refine c_seq ?_
  refine c_seq ?_
  refine c_reg ?_
  refine l_pure (.pointer (some ⟨b, 0, none⟩)) rfl (fun _ => rfl) ?_
  refine l_pure (.bool false) rfl (fun _ => rfl) ?_
  refine l_nil ?_
  refine x_then ?_
  refine c_false rfl rfl ?_
  refine c_skip ?_
  refine x_then ?_
  refine c_seq ?_
  refine c_seq ?_
  refine c_reg ?_
  refine l_loadA rfl g2 0 6 #[.string f.name, .int .i64 f.line, .int .i64 f.base, .int .i64 f.extra, .int .i64 f.want, .bool f.tail] _ _ #[.string f.name, .int .i64 f.line, .int .i64 f.base, .int .i64 f.extra, .int .i64 f.want, .bool f.tail] rfl rfl (by kernel_rfl) B1 rfl rfl ?_
  refine l_call rfl [.agg #[.string f.name, .int .i64 f.line, .int .i64 f.base, .int .i64 f.extra, .int .i64 f.want, .bool f.tail]] rfl rfl (by kernel_rfl) (wrong_ok f _) ?_
  rintro _ H7 ⟨rfl, k8⟩
  have e9 := k8.size
  replace hB := k8.get hB (fun h => h)
  replace hV := hV.chg k8 (fun _ _ h => h)
  replace B1 := k8.get B1 (fun h => h)
  replace hT := hT.trans' k8 (fun _ h _ => h.elim)
  refine l_nil ?_
  refine x_then ?_
  refine c_cond (c := (!rightB f)) rfl rfl (fun c10 => ?_) (fun c10 => ?_)
  · have p11 := c10
    refine c_seq ?_
    refine c_reg ?_
    refine l_pure (.int .i64 2) rfl (fun _ => rfl) ?_
    refine l_nil ?_
    refine x_then ?_
    refine c_ret ?_
    refine x_ret ?_
    refine x_fin (.int .i64 2) (res_of (vs := [.int .i64 2]) rfl (.cons (.tmp _ (.int .i64 2) rfl rfl) .nil)) ?_
    have hp : replR L f = (2, L) := by simp [replR, tl, p11]
    rw [hp]
    exact ⟨rfl, fun k => k = b ∨ blk sv = some k, ⟨sv, hB, hV, fun g hg => by have := s0 g hg; omega, fun k => Iff.rfl⟩, hT, fun k hk => by
      by_cases hl : k < H.size
      · left; rcases hk with rfl | hk
        · exact (hfp _).2 (.inl rfl)
        · exact o0 k hk hl
      · right; omega⟩
  · have p12 := c10
    refine c_skip ?_
    refine x_then ?_
    refine c_seq ?_
    refine c_seq ?_
    refine c_reg ?_
    refine l_pure (.pointer (some ⟨b, 0, none⟩)) rfl (fun _ => rfl) ?_
    refine l_pure (.pointer (some ⟨b, 0, none⟩)) rfl (fun _ => rfl) ?_
    refine l_pure (.pointer (some ⟨b, 0, none⟩)) rfl (fun _ => rfl) ?_
    refine l_loadC rfl b 0 #[sv] _ _ sv rfl rfl (by kernel_rfl) hB rfl ?_
    refine l_len rfl RfT_ok Try.underlying64 rfl rfl hV.sl ?_
    refine l_cmp rfl .i64 (L.length : Int) 0 (decide ((L.length : Int) = 0)) rfl rfl rfl rfl ?_
    refine l_nil ?_
    refine x_then ?_
    refine c_cond (c := (decide ((L.length : Int) = 0))) rfl rfl (fun c13 => ?_) (fun c13 => ?_)
    · have p14 := of_decide_eq_true c13
      first
      | (exfalso; omega)
      | (refine c_seq ?_
         refine c_reg ?_
         refine l_pure (.int .i64 18) rfl (fun _ => rfl) ?_
         refine l_nil ?_
         refine x_then ?_
         refine c_ret ?_
         refine x_ret ?_
         refine x_fin (.int .i64 18) (res_of (vs := [.int .i64 18]) rfl (.cons (.tmp _ (.int .i64 18) rfl rfl) .nil)) ?_
         have hp : replR L f = (18, L) := by simp [replR, tl, p12, p14]
         rw [hp]
         exact ⟨rfl, fun k => k = b ∨ blk sv = some k, ⟨sv, hB, hV, fun g hg => by have := s0 g hg; omega, fun k => Iff.rfl⟩, hT, fun k hk => by
           by_cases hl : k < H.size
           · left; rcases hk with rfl | hk
             · exact (hfp _).2 (.inl rfl)
             · exact o0 k hk hl
           · right; omega⟩)
    · have p15 := of_decide_eq_false c13
      first
      | (exfalso; omega)
      | (refine c_skip ?_
         refine x_then ?_
         refine c_seq ?_
         refine c_reg ?_
         refine l_pure (.pointer (some ⟨g2, 5, none⟩)) rfl (fun _ => rfl) ?_
         refine l_store rfl g2 5 1 #[.string f.name, .int .i64 f.line, .int .i64 f.base, .int .i64 f.extra, .int .i64 f.want, .bool f.tail] #[.string f.name, .int .i64 f.line, .int .i64 f.base, .int .i64 f.extra, .int .i64 f.want, .bool true] _ (.bool true) rfl rfl rfl (by kernel_rfl) B1 rfl rfl rfl rfl (fun H16 q17 => ?_)
         have e18 := q17.size
         replace hB := q17.chg.get hB (fun e => by omega)
         replace hV := hV.chg q17.chg (fun k hk e => by have := s0 k hk; omega)
         replace hT := hT.trans' q17.chg (fun i (e : i = g2) hl => by exfalso; omega)
         have B19 := q17.is
         refine l_nil ?_
         refine x_then ?_
         refine c_seq ?_
         refine c_draw Try.mixed (by kernel_rfl) ?_
         refine l_pure (.pointer (some ⟨b, 0, none⟩)) rfl (fun _ => rfl) ?_
         refine l_pure (.pointer (some ⟨b, 0, none⟩)) rfl (fun _ => rfl) ?_
         refine l_pure (.pointer (some ⟨b, 0, none⟩)) rfl (fun _ => rfl) ?_
         refine l_loadC rfl b 0 #[sv] _ _ sv rfl rfl (by kernel_rfl) hB rfl ?_
         refine l_pure (.pointer (some ⟨b, 0, none⟩)) rfl (fun _ => rfl) ?_
         refine l_pure (.pointer (some ⟨b, 0, none⟩)) rfl (fun _ => rfl) ?_
         refine l_pure (.pointer (some ⟨b, 0, none⟩)) rfl (fun _ => rfl) ?_
         refine l_loadC rfl b 0 #[sv] _ _ sv rfl rfl (by kernel_rfl) hB rfl ?_
         refine l_len rfl RfT_ok Try.underlying64 rfl rfl hV.sl ?_
         refine l_sub rfl (L.length : Int) 1 rfl rfl rfl (by omega) ?_
         refine l_loadA rfl g2 0 6 #[.string f.name, .int .i64 f.line, .int .i64 f.base, .int .i64 f.extra, .int .i64 f.want, .bool true] _ _ #[.string f.name, .int .i64 f.line, .int .i64 f.base, .int .i64 f.extra, .int .i64 f.want, .bool true] rfl rfl (by kernel_rfl) B19 rfl rfl ?_
         refine l_index rfl RfT_ok Try.underlying64 .i64 ((L.length : Int) - 1) rfl rfl rfl hV.sl (by omega) (by omega) (L.length - 1) (by omega) ?_
         obtain ⟨y20, hy21⟩ : ∃ y, L[(L.length - 1)]? = some y := ⟨_, List.getElem?_eq_getElem (by omega)⟩
         refine l_storeE rfl RfT_ok sv (L.length - 1) 0 6 y20 (⟨f.name, f.line, f.base, f.extra, f.want, true⟩ : Fr) (.agg #[.string f.name, .int .i64 f.line, .int .i64 f.base, .int .i64 f.extra, .int .i64 f.want, .bool true]) L rfl rfl rfl (by kernel_rfl) hV hy21 rfl rfl rfl rfl (fun H22 S23 q24 => ?_)
         have e25 := q24.size
         replace hB := q24.get hB (fun e => by have := s0 _ e; omega)
         replace B19 := q24.get B19 (fun e => by have := s0 _ e; omega)
         replace hT := hT.trans' q24 (fun i e hl => o0 i e hl)
         refine l_nil ?_
         refine x_dyn (by obtain ⟨_, _, rfl⟩ := S23.sl.form; kernel_rfl) ?_
         refine x_then ?_
         refine c_seq ?_
         refine c_reg ?_
         refine l_pure (.int .i64 0) rfl (fun _ => rfl) ?_
         refine l_nil ?_
         refine x_then ?_
         refine c_ret ?_
         refine x_fin (.int .i64 0) (res_of (vs := [.int .i64 0]) rfl (.cons (.tmp _ (.int .i64 0) rfl rfl) .nil)) ?_
         have hp : replR L f = (0, (L.set (L.length - 1) (⟨f.name, f.line, f.base, f.extra, f.want, true⟩ : Fr))) := replR_ok (by simp [p12, p15]) (by omega)
         rw [hp]
         exact ⟨rfl, fun k => k = b ∨ blk sv = some k, ⟨sv, hB, S23, fun g hg => by have := s0 g hg; omega, fun k => Iff.rfl⟩, hT, fun k hk => by
           by_cases hl : k < H.size
           · left; rcases hk with rfl | hk
             · exact (hfp _).2 (.inl rfl)
             · exact o0 k hk hl
           · right; omega⟩)
theorem rat_ok (n : Int) (H : Heap) (b : Nat) (L : List Fr) (fp : Nat → Prop) (hS : RS H b L fp) : HC Try.prog 33 #[.pointer (some ⟨b, 0, none⟩), .int .i64 n] H fun v H' => v = .int .i64 (atR L n).1 ∧ ∃ fp', RS H' b (atR L n).2 fp' ∧ Chg fp H H' ∧ ∀ k, fp' k → fp k ∨ H.size ≤ k := by
  obtain ⟨sv, hB, hV, hne, hfp⟩ := hS
  have s0 : ∀ k, blk sv = some k → k ≠ b ∧ k < H.size := fun k hk => ⟨hne k hk, hV.lt hk⟩
  have o0 : ∀ k, blk sv = some k → k < H.size → fp k := fun k hk _ => (hfp k).2 (.inr hk)
  have lb := lt_of_some hB
  have lL : L.length ≤ 9223372036854775807 := hV.sl.len_le
  refine enter Try.func33 rfl 28 rfl rfl [(0, .pointer (some ⟨b, 0, none⟩)), (1, .int .i64 n)] rfl (fun w0 => ?_)
  have hT : Chg fp H H := Chg.refl _ _
  refine c_seq ?_
  refine c_reg ?_
  refine l_pure (.int .i64 0) rfl (fun _ => rfl) ?_
  refine l_nil ?_
  refine x_then ?_
  refine c_seq ?_
  refine c_seq ?_
  refine c_reg ?_
  refine l_pure (.pointer (some ⟨b, 0, none⟩)) rfl (fun _ => rfl) ?_
  refine l_pure (.bool false) rfl (fun _ => rfl) ?_
  refine l_nil ?_
  refine x_then ?_
  refine c_false rfl rfl ?_
  refine c_skip ?_
  refine x_then ?_
  refine c_seq ?_
  refine c_seq ?_
  refine c_reg ?_
  refine l_pure (.int .i64 n) rfl (fun _ => rfl) ?_
  refine l_cmp rfl .i64 n 0 (decide (n < 0)) rfl rfl rfl rfl ?_
  refine l_nil ?_
  refine x_then ?_
  refine c_cond (c := (decide (n < 0))) rfl rfl (fun c1 => ?_) (fun c1 => ?_)
  · have p2 := of_decide_eq_true c1
    first
    | (exfalso; omega)
    | (refine c_seq ?_
       refine c_reg ?_
       refine l_pure (.int .i64 2) rfl (fun _ => rfl) ?_
       refine l_nil ?_
       refine x_then ?_
       refine c_ret ?_
       refine x_ret ?_
       refine x_fin (.int .i64 2) (res_of (vs := [.int .i64 2]) rfl (.cons (.tmp _ (.int .i64 2) rfl rfl) .nil)) ?_
       have hp : atR L n = (2, L) := by simp [atR, p2]
       rw [hp]
       exact ⟨rfl, fun k => k = b ∨ blk sv = some k, ⟨sv, hB, hV, fun g hg => by have := s0 g hg; omega, fun k => Iff.rfl⟩, hT, fun k hk => by
         by_cases hl : k < H.size
         · left; rcases hk with rfl | hk
           · exact (hfp _).2 (.inl rfl)
           · exact o0 k hk hl
         · right; omega⟩)
  · have p3 := of_decide_eq_false c1
    first
    | (exfalso; omega)
    | (refine c_skip ?_
       refine x_then ?_
       refine c_seq ?_
       refine c_seq ?_
       refine c_reg ?_
       refine l_pure (.pointer (some ⟨b, 0, none⟩)) rfl (fun _ => rfl) ?_
       refine l_pure (.pointer (some ⟨b, 0, none⟩)) rfl (fun _ => rfl) ?_
       refine l_pure (.pointer (some ⟨b, 0, none⟩)) rfl (fun _ => rfl) ?_
       refine l_loadC rfl b 0 #[sv] _ _ sv rfl rfl (by kernel_rfl) hB rfl ?_
       refine l_len rfl RfT_ok Try.underlying64 rfl rfl hV.sl ?_
       refine l_cmp rfl .i64 (L.length : Int) 0 (decide ((L.length : Int) = 0)) rfl rfl rfl rfl ?_
       refine l_nil ?_
       refine x_then ?_
       refine c_cond (c := (decide ((L.length : Int) = 0))) rfl rfl (fun c4 => ?_) (fun c4 => ?_)
       · have p5 := of_decide_eq_true c4
         first
         | (exfalso; omega)
         | (refine c_seq ?_
            refine c_reg ?_
            refine l_pure (.int .i64 18) rfl (fun _ => rfl) ?_
            refine l_nil ?_
            refine x_then ?_
            refine c_ret ?_
            refine x_ret ?_
            refine x_fin (.int .i64 18) (res_of (vs := [.int .i64 18]) rfl (.cons (.tmp _ (.int .i64 18) rfl rfl) .nil)) ?_
            have hp : atR L n = (18, L) := atR_nil (by omega) (by omega)
            rw [hp]
            exact ⟨rfl, fun k => k = b ∨ blk sv = some k, ⟨sv, hB, hV, fun g hg => by have := s0 g hg; omega, fun k => Iff.rfl⟩, hT, fun k hk => by
              by_cases hl : k < H.size
              · left; rcases hk with rfl | hk
                · exact (hfp _).2 (.inl rfl)
                · exact o0 k hk hl
              · right; omega⟩)
       · have p6 := of_decide_eq_false c4
         first
         | (exfalso; omega)
         | (refine c_skip ?_
            refine x_then ?_
            refine c_seq ?_
            refine c_draw Try.mixed (by kernel_rfl) ?_
            refine l_pure (.pointer (some ⟨b, 0, none⟩)) rfl (fun _ => rfl) ?_
            refine l_pure (.pointer (some ⟨b, 0, none⟩)) rfl (fun _ => rfl) ?_
            refine l_pure (.pointer (some ⟨b, 0, none⟩)) rfl (fun _ => rfl) ?_
            refine l_loadC rfl b 0 #[sv] _ _ sv rfl rfl (by kernel_rfl) hB rfl ?_
            refine l_pure (.pointer (some ⟨b, 0, none⟩)) rfl (fun _ => rfl) ?_
            refine l_pure (.pointer (some ⟨b, 0, none⟩)) rfl (fun _ => rfl) ?_
            refine l_pure (.pointer (some ⟨b, 0, none⟩)) rfl (fun _ => rfl) ?_
            refine l_loadC rfl b 0 #[sv] _ _ sv rfl rfl (by kernel_rfl) hB rfl ?_
            refine l_len rfl RfT_ok Try.underlying64 rfl rfl hV.sl ?_
            refine l_sub rfl (L.length : Int) 1 rfl rfl rfl (by omega) ?_
            refine l_pure (.int .i64 n) rfl (fun _ => rfl) ?_
            refine l_index rfl RfT_ok Try.underlying64 .i64 ((L.length : Int) - 1) rfl rfl rfl hV.sl (by omega) (by omega) (L.length - 1) (by omega) ?_
            refine l_pure (.pointer (some ((elemAt RfT.size sv (L.length - 1)).add 1))) rfl (fun _ => rfl) ?_
            obtain ⟨y7, hy8⟩ : ∃ y, L[(L.length - 1)]? = some y := ⟨_, List.getElem?_eq_getElem (by omega)⟩
            refine l_storeE rfl RfT_ok sv (L.length - 1) 1 1 y7 (⟨y7.name, n, y7.base, y7.extra, y7.want, y7.tail⟩ : Fr) (.int .i64 n) L rfl rfl rfl (by kernel_rfl) hV hy8 rfl rfl rfl rfl (fun H9 S10 q11 => ?_)
            have e12 := q11.size
            replace hB := q11.get hB (fun e => by have := s0 _ e; omega)
            replace hT := hT.trans' q11 (fun i e hl => o0 i e hl)
            refine l_nil ?_
            refine x_dyn (by obtain ⟨_, _, rfl⟩ := S10.sl.form; kernel_rfl) ?_
            refine x_then ?_
            refine c_seq ?_
            refine c_reg ?_
            refine l_pure (.int .i64 0) rfl (fun _ => rfl) ?_
            refine l_nil ?_
            refine x_then ?_
            refine c_ret ?_
            refine x_fin (.int .i64 0) (res_of (vs := [.int .i64 0]) rfl (.cons (.tmp _ (.int .i64 0) rfl rfl) .nil)) ?_
            have hp := atR_some (by omega) hy8
            rw [hp]
            exact ⟨rfl, fun k => k = b ∨ blk sv = some k, ⟨sv, hB, S10, fun g hg => by have := s0 g hg; omega, fun k => Iff.rfl⟩, hT, fun k hk => by
              by_cases hl : k < H.size
              · left; rcases hk with rfl | hk
                · exact (hfp _).2 (.inl rfl)
                · exact o0 k hk hl
              · right; omega⟩))
end Go.Proofs.Ytikbimlfbcffhaa
