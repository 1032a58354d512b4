/-
  Enter; a call of a script; the examples.
-/
import Derived.Test.YtikbimlfbcffhaaW3
set_option linter.unusedSimpArgs false
set_option linter.unusedVariables false
set_option maxRecDepth 100000
namespace Go.Proofs.Ytikbimlfbcffhaa
open Go.Hp Go.J
open Go.Mem (Ty KTy blk elemAt pre suf blk_pre blk_suf aget aset strK)

theorem enter_ok (H : Heap) (lv : Value) (l : List Vl) (n : Int) (vb : Bool) (hL : Sl H VlT lv l) (hl : l.length ≤ 1000) : HC Try.prog 21 #[lv, .int .i64 n, .bool vb] H fun v H' => ∃ v1 v2, v = .tuple #[v1, v2] ∧ (Ow H' VlT v1 (fitL l (par n)) ∧ ∀ k, blk v1 = some k → H.size ≤ k) ∧ (Ow H' VlT v2 (extraL l n vb) ∧ ∀ k, blk v2 = some k → H.size ≤ k) ∧ Chg (fun _ => False) H H' := by
  have hL0 := hL
  have sL : ∀ k, blk lv = some k → k < H.size := fun k hk => hL.lt hk
  have hpr : (0 : Int) ≤ (if 200 < (if n < 0 then 0 else n) then 200 else (if n < 0 then 0 else n)) ∧ (if 200 < (if n < 0 then 0 else n) then 200 else (if n < 0 then 0 else n)) ≤ 200 := by (repeat' split) <;> omega
  refine enter Try.func21 rfl 28 rfl rfl [(0, lv), (1, .int .i64 n), (2, .bool vb)] rfl (fun w0 => ?_)
  have hT : Chg (fun _ => False) H H := Chg.refl _ _
  refine c_seq ?_
  refine c_reg ?_
  refine l_pure (.slice none 0 0) rfl (fun _ => rfl) ?_
  refine l_pure (.slice none 0 0) rfl (fun _ => rfl) ?_
  refine l_nil ?_
  refine x_then ?_
  refine c_seq ?_
  refine c_reg ?_
  refine l_pure (.int .i64 n) rfl (fun _ => rfl) ?_
  refine l_max rfl .i64 n 0 rfl rfl rfl ?_
  refine l_min rfl .i64 (if n < 0 then 0 else n) 200 rfl rfl rfl ?_
  refine l_pure (.int .i64 (if 200 < (if n < 0 then 0 else n) then 200 else (if n < 0 then 0 else n))) rfl (fun _ => rfl) ?_
  refine l_nil ?_
  refine x_then ?_
  refine c_seq ?_
  refine c_seq ?_
  refine c_reg ?_
  refine l_pure (.bool vb) rfl (fun _ => rfl) ?_
  refine l_pure (.bool vb) rfl (fun _ => rfl) ?_
  refine l_fork 13 vb rfl rfl (fun c1 => ?_) (fun c1 => ?_)
  · have p2 := c1
    refine l_pure lv rfl (fun _ => rfl) ?_
    refine l_len rfl VlT_ok Try.underlying36 rfl rfl hL ?_
    refine l_pure (.int .i64 (if 200 < (if n < 0 then 0 else n) then 200 else (if n < 0 then 0 else n))) rfl (fun _ => rfl) ?_
    refine l_cmp rfl .i64 (l.length : Int) (if 200 < (if n < 0 then 0 else n) then 200 else (if n < 0 then 0 else n)) (decide ((if 200 < (if n < 0 then 0 else n) then 200 else (if n < 0 then 0 else n)) < (l.length : Int))) rfl rfl rfl rfl ?_
    refine l_pure (.bool (decide ((if 200 < (if n < 0 then 0 else n) then 200 else (if n < 0 then 0 else n)) < (l.length : Int)))) rfl (fun _ => rfl) ?_
    refine l_nil ?_
    refine x_then ?_
    refine c_cond (c := (decide ((if 200 < (if n < 0 then 0 else n) then 200 else (if n < 0 then 0 else n)) < (l.length : Int)))) rfl rfl (fun c3 => ?_) (fun c3 => ?_)
    · have p4 := of_decide_eq_true c3
      first
      | (exfalso; omega)
      | (refine c_reg ?_
         refine l_pure (.slice none 0 0) rfl (fun _ => rfl) ?_
         refine l_pure lv rfl (fun _ => rfl) ?_
         refine l_pure (.int .i64 (if 200 < (if n < 0 then 0 else n) then 200 else (if n < 0 then 0 else n))) rfl (fun _ => rfl) ?_
         refine l_suf rfl VlT_ok Try.underlying36 .i64 (if 200 < (if n < 0 then 0 else n) then 200 else (if n < 0 then 0 else n)) rfl rfl rfl hL (by omega) (by omega) (((if 200 < (if n < 0 then 0 else n) then 200 else (if n < 0 then 0 else n))).toNat) (by omega) ?_
         have S5 := hL.suf VlT_ok (((if 200 < (if n < 0 then 0 else n) then 200 else (if n < 0 then 0 else n))).toNat) (by omega)
         have s6 : ∀ k, blk (suf VlT.size lv (((if 200 < (if n < 0 then 0 else n) then 200 else (if n < 0 then 0 else n))).toNat)) = some k → _ := fun k hk => sL k ((blk_suf _ _ _).symm.trans hk)
         refine l_append (v := (.slice none 0 0)) (L := []) rfl VlT_ok Try.underlying36 (suf VlT.size lv (((if 200 < (if n < 0 then 0 else n) then 200 else (if n < 0 then 0 else n))).toNat)) rfl rfl rfl (Ow.nil _ _) S5 (by simp only [List.length_nil, List.length_cons, List.length_append, List.length_drop, List.length_take]; show _ * 48 ≤ _; omega) (by simp only [List.length_nil, List.length_cons, List.length_append, List.length_drop, List.length_take]; omega) (fun v7 H8 a9 => ?_)
         have e10 := a9.chg.size
         have a9c := a9.chg.mono (T := fun _ => False) (fun _ _ h => by simp [blk, Value.ownBlock] at h)
         replace hL := hL.chg a9c (fun _ _ h => h)
         replace S5 := S5.chg a9c (fun _ _ h => h)
         replace hT := hT.trans' a9c (fun _ h _ => h.elim)
         have S11 := a9.ow
         have s12m := a9.moved
         have s12 : ∀ k, blk v7 = some k → k < H8.size := fun k hk => by
           have := S11.lt hk; rcases s12m k hk with h | h
           · simp [blk, Value.ownBlock] at h
           · omega
         refine l_pure v7 rfl (fun _ => rfl) ?_
         refine l_nil ?_
         refine x_then ?_
         refine c_seq ?_
         refine c_reg ?_
         refine l_pure lv rfl (fun _ => rfl) ?_
         refine l_pure (.int .i64 (if 200 < (if n < 0 then 0 else n) then 200 else (if n < 0 then 0 else n))) rfl (fun _ => rfl) ?_
         refine l_call rfl [lv, .int .i64 (if 200 < (if n < 0 then 0 else n) then 200 else (if n < 0 then 0 else n))] rfl rfl (by kernel_rfl) (fit_ok _ lv l (if 200 < (if n < 0 then 0 else n) then 200 else (if n < 0 then 0 else n)) hL (by first | omega | decide | (simp; done) | (simp; omega))) ?_
         rintro v17 H13 ⟨S15, k14, l16⟩
         have e18 := k14.size
         have s19 : ∀ k, blk v17 = some k → H8.size ≤ k ∧ k < H13.size := fun k hk => by have := l16 k hk; have := S15.lt hk; omega
         replace hL := hL.chg k14 (fun _ _ h => h)
         replace S5 := S5.chg k14 (fun _ _ h => h)
         replace S11 := S11.chg k14 (fun _ _ h => h)
         replace hT := hT.trans' k14 (fun _ h _ => h.elim)
         refine l_pure v7 rfl (fun _ => rfl) ?_
         refine l_pure v17 rfl (fun _ => rfl) ?_
         refine l_pure v7 rfl (fun _ => rfl) ?_
         refine l_nil ?_
         refine x_then ?_
         refine c_ret ?_
         refine x_fin (.tuple #[v17, v7]) (res_of (vs := [v17, v7]) rfl (.cons (.tmp _ v17 rfl rfl) (.cons (.tmp _ v7 rfl rfl) .nil))) ?_
         have hF : (fitL l (if 200 < (if n < 0 then 0 else n) then 200 else (if n < 0 then 0 else n))) = fitL l (par n) := rfl
         have hE : ([] ++ (l.drop (((if 200 < (if n < 0 then 0 else n) then 200 else (if n < 0 then 0 else n))).toNat))) = extraL l n vb := (if_pos (⟨p2, p4⟩ : vb = true ∧ par n < l.length)).symm
         exact ⟨_, _, rfl, ⟨hF ▸ S15, (fun k hk => by have := s19 k hk; omega)⟩, ⟨(hE ▸ S11), (fun k hk => (s12m k hk).elim (fun h => by first | (simp [blk, Value.ownBlock] at h; done) | (simp [blk, Value.ownBlock] at h; omega)) (fun h => by omega))⟩, hT⟩)
    · have p20 := of_decide_eq_false c3
      first
      | (exfalso; omega)
      | (refine c_skip ?_
         refine x_then ?_
         refine c_seq ?_
         refine c_reg ?_
         refine l_pure lv rfl (fun _ => rfl) ?_
         refine l_pure (.int .i64 (if 200 < (if n < 0 then 0 else n) then 200 else (if n < 0 then 0 else n))) rfl (fun _ => rfl) ?_
         refine l_call rfl [lv, .int .i64 (if 200 < (if n < 0 then 0 else n) then 200 else (if n < 0 then 0 else n))] rfl rfl (by kernel_rfl) (fit_ok _ lv l (if 200 < (if n < 0 then 0 else n) then 200 else (if n < 0 then 0 else n)) hL (by first | omega | decide | (simp; done) | (simp; omega))) ?_
         rintro v25 H21 ⟨S23, k22, l24⟩
         have e26 := k22.size
         have s27 : ∀ k, blk v25 = some k → H.size ≤ k ∧ k < H21.size := fun k hk => by have := l24 k hk; have := S23.lt hk; omega
         replace hL := hL.chg k22 (fun _ _ h => h)
         replace hT := hT.trans' k22 (fun _ h _ => h.elim)
         refine l_pure (.slice none 0 0) rfl (fun _ => rfl) ?_
         refine l_pure v25 rfl (fun _ => rfl) ?_
         refine l_pure (.slice none 0 0) rfl (fun _ => rfl) ?_
         refine l_nil ?_
         refine x_then ?_
         refine c_ret ?_
         refine x_fin (.tuple #[v25, (.slice none 0 0)]) (res_of (vs := [v25, (.slice none 0 0)]) rfl (.cons (.tmp _ v25 rfl rfl) (.cons (.tmp _ (.slice none 0 0) rfl rfl) .nil))) ?_
         have hF : (fitL l (if 200 < (if n < 0 then 0 else n) then 200 else (if n < 0 then 0 else n))) = fitL l (par n) := rfl
         have hE : [] = extraL l n vb := by refine (if_neg (c := vb = true ∧ par n < l.length) ?_).symm; rintro ⟨h1, h2⟩; exact p20 h2
         exact ⟨_, _, rfl, ⟨hF ▸ S23, (fun k hk => by have := s27 k hk; omega)⟩, ⟨(hE ▸ Ow.nil _ _), (fun k hk => by simp [blk, Value.ownBlock] at hk)⟩, hT⟩)
  · have p28 := c1
    refine l_skip rfl rfl ?_
    refine l_skip rfl rfl ?_
    refine l_skip rfl rfl ?_
    refine l_skip rfl rfl ?_
    refine l_pure (.bool false) rfl (fun _ => rfl) ?_
    refine l_nil ?_
    refine x_then ?_
    refine c_false rfl rfl ?_
    refine c_skip ?_
    refine x_then ?_
    refine c_seq ?_
    refine c_reg ?_
    refine l_pure lv rfl (fun _ => rfl) ?_
    refine l_pure (.int .i64 (if 200 < (if n < 0 then 0 else n) then 200 else (if n < 0 then 0 else n))) rfl (fun _ => rfl) ?_
    refine l_call rfl [lv, .int .i64 (if 200 < (if n < 0 then 0 else n) then 200 else (if n < 0 then 0 else n))] rfl rfl (by kernel_rfl) (fit_ok _ lv l (if 200 < (if n < 0 then 0 else n) then 200 else (if n < 0 then 0 else n)) hL (by first | omega | decide | (simp; done) | (simp; omega))) ?_
    rintro v33 H29 ⟨S31, k30, l32⟩
    have e34 := k30.size
    have s35 : ∀ k, blk v33 = some k → H.size ≤ k ∧ k < H29.size := fun k hk => by have := l32 k hk; have := S31.lt hk; omega
    replace hL := hL.chg k30 (fun _ _ h => h)
    replace hT := hT.trans' k30 (fun _ h _ => h.elim)
    refine l_pure (.slice none 0 0) rfl (fun _ => rfl) ?_
    refine l_pure v33 rfl (fun _ => rfl) ?_
    refine l_pure (.slice none 0 0) rfl (fun _ => rfl) ?_
    refine l_nil ?_
    refine x_then ?_
    refine c_ret ?_
    refine x_fin (.tuple #[v33, (.slice none 0 0)]) (res_of (vs := [v33, (.slice none 0 0)]) rfl (.cons (.tmp _ v33 rfl rfl) (.cons (.tmp _ (.slice none 0 0) rfl rfl) .nil))) ?_
    have hF : (fitL l (if 200 < (if n < 0 then 0 else n) then 200 else (if n < 0 then 0 else n))) = fitL l (par n) := rfl
    have hE : [] = extraL l n vb := by refine (if_neg (c := vb = true ∧ par n < l.length) ?_).symm; rintro ⟨h1, h2⟩; rw [p28] at h1; cases h1
    exact ⟨_, _, rfl, ⟨hF ▸ S31, (fun k hk => by have := s35 k hk; omega)⟩, ⟨(hE ▸ Ow.nil _ _), (fun k hk => by simp [blk, Value.ownBlock] at hk)⟩, hT⟩
theorem renter_ok (H : Heap) (lv : Value) (l : List Vl) (n : Int) (vb : Bool) (hL : Sl H VlT lv l) (hl : l.length ≤ 1000) : HC Try.prog 22 #[lv, .int .i64 n, .bool vb] H fun v H' => ∃ v1 v2, v = .tuple #[v1, v2] ∧ (Ow H' VlT v1 (fitL l (par n)) ∧ ∀ k, blk v1 = some k → H.size ≤ k) ∧ (Ow H' VlT v2 (extraL l n vb) ∧ ∀ k, blk v2 = some k → H.size ≤ k) ∧ Chg (fun _ => False) H H' := by
  have hL0 := hL
  have sL : ∀ k, blk lv = some k → k < H.size := fun k hk => hL.lt hk
  have hpr : (0 : Int) ≤ (if 200 < (if n < 0 then 0 else n) then 200 else (if n < 0 then 0 else n)) ∧ (if 200 < (if n < 0 then 0 else n) then 200 else (if n < 0 then 0 else n)) ≤ 200 := by (repeat' split) <;> omega
  refine enter Try.func22 rfl 28 rfl rfl [(0, lv), (1, .int .i64 n), (2, .bool vb)] rfl (fun w0 => ?_)
  have hT : Chg (fun _ => False) H H := Chg.refl _ _
  refine c_seq ?_
  refine c_reg ?_
  refine l_pure (.slice none 0 0) rfl (fun _ => rfl) ?_
  refine l_pure (.slice none 0 0) rfl (fun _ => rfl) ?_
  refine l_nil ?_
  refine x_then ?_
  refine c_seq ?_
  refine c_reg ?_
  refine l_pure (.int .i64 n) rfl (fun _ => rfl) ?_
  refine l_max rfl .i64 n 0 rfl rfl rfl ?_
  refine l_min rfl .i64 (if n < 0 then 0 else n) 200 rfl rfl rfl ?_
  refine l_pure (.int .i64 (if 200 < (if n < 0 then 0 else n) then 200 else (if n < 0 then 0 else n))) rfl (fun _ => rfl) ?_
  refine l_nil ?_
  refine x_then ?_
  refine c_seq ?_
  refine c_reg ?_
  refine l_pure lv rfl (fun _ => rfl) ?_
  refine l_pure (.int .i64 (if 200 < (if n < 0 then 0 else n) then 200 else (if n < 0 then 0 else n))) rfl (fun _ => rfl) ?_
  refine l_call rfl [lv, .int .i64 (if 200 < (if n < 0 then 0 else n) then 200 else (if n < 0 then 0 else n))] rfl rfl (by kernel_rfl) (rfit_ok _ lv l (if 200 < (if n < 0 then 0 else n) then 200 else (if n < 0 then 0 else n)) hL (by first | omega | decide | (simp; done) | (simp; omega))) ?_
  rintro v5 H1 ⟨S3, k2, l4⟩
  have e6 := k2.size
  have s7 : ∀ k, blk v5 = some k → H.size ≤ k ∧ k < H1.size := fun k hk => by have := l4 k hk; have := S3.lt hk; omega
  replace hL := hL.chg k2 (fun _ _ h => h)
  replace hT := hT.trans' k2 (fun _ h _ => h.elim)
  refine l_pure v5 rfl (fun _ => rfl) ?_
  refine l_nil ?_
  refine x_then ?_
  refine c_seq ?_
  refine c_seq ?_
  refine c_reg ?_
  refine l_pure (.bool vb) rfl (fun _ => rfl) ?_
  refine l_pure (.bool vb) rfl (fun _ => rfl) ?_
  refine l_fork 15 vb rfl rfl (fun c8 => ?_) (fun c8 => ?_)
  · have p9 := c8
    refine l_pure lv rfl (fun _ => rfl) ?_
    refine l_len rfl VlT_ok Try.underlying36 rfl rfl hL ?_
    refine l_pure (.int .i64 (if 200 < (if n < 0 then 0 else n) then 200 else (if n < 0 then 0 else n))) rfl (fun _ => rfl) ?_
    refine l_cmp rfl .i64 (l.length : Int) (if 200 < (if n < 0 then 0 else n) then 200 else (if n < 0 then 0 else n)) (decide ((if 200 < (if n < 0 then 0 else n) then 200 else (if n < 0 then 0 else n)) < (l.length : Int))) rfl rfl rfl rfl ?_
    refine l_pure (.bool (decide ((if 200 < (if n < 0 then 0 else n) then 200 else (if n < 0 then 0 else n)) < (l.length : Int)))) rfl (fun _ => rfl) ?_
    refine l_nil ?_
    refine x_then ?_
    refine c_cond (c := (decide ((if 200 < (if n < 0 then 0 else n) then 200 else (if n < 0 then 0 else n)) < (l.length : Int)))) rfl rfl (fun c10 => ?_) (fun c10 => ?_)
    · have p11 := of_decide_eq_true c10
      first
      | (exfalso; omega)
      | (refine c_reg ?_
         refine l_pure (.slice none 0 0) rfl (fun _ => rfl) ?_
         refine l_pure lv rfl (fun _ => rfl) ?_
         refine l_pure (.int .i64 (if 200 < (if n < 0 then 0 else n) then 200 else (if n < 0 then 0 else n))) rfl (fun _ => rfl) ?_
         refine l_suf rfl VlT_ok Try.underlying36 .i64 (if 200 < (if n < 0 then 0 else n) then 200 else (if n < 0 then 0 else n)) rfl rfl rfl hL (by omega) (by omega) (((if 200 < (if n < 0 then 0 else n) then 200 else (if n < 0 then 0 else n))).toNat) (by omega) ?_
         have S12 := hL.suf VlT_ok (((if 200 < (if n < 0 then 0 else n) then 200 else (if n < 0 then 0 else n))).toNat) (by omega)
         have s13 : ∀ k, blk (suf VlT.size lv (((if 200 < (if n < 0 then 0 else n) then 200 else (if n < 0 then 0 else n))).toNat)) = some k → _ := fun k hk => sL k ((blk_suf _ _ _).symm.trans hk)
         refine l_append (v := (.slice none 0 0)) (L := []) rfl VlT_ok Try.underlying36 (suf VlT.size lv (((if 200 < (if n < 0 then 0 else n) then 200 else (if n < 0 then 0 else n))).toNat)) rfl rfl rfl (Ow.nil _ _) S12 (by simp only [List.length_nil, List.length_cons, List.length_append, List.length_drop, List.length_take]; show _ * 48 ≤ _; omega) (by simp only [List.length_nil, List.length_cons, List.length_append, List.length_drop, List.length_take]; omega) (fun v14 H15 a16 => ?_)
         have e17 := a16.chg.size
         have a16c := a16.chg.mono (T := fun _ => False) (fun _ _ h => by simp [blk, Value.ownBlock] at h)
         replace hL := hL.chg a16c (fun _ _ h => h)
         replace S3 := S3.chg a16c (fun _ _ h => h)
         replace S12 := S12.chg a16c (fun _ _ h => h)
         replace hT := hT.trans' a16c (fun _ h _ => h.elim)
         have S18 := a16.ow
         have s19m := a16.moved
         have s19 : ∀ k, blk v14 = some k → k < H15.size := fun k hk => by
           have := S18.lt hk; rcases s19m k hk with h | h
           · simp [blk, Value.ownBlock] at h
           · omega
         refine l_pure v14 rfl (fun _ => rfl) ?_
         refine l_nil ?_
         refine x_then ?_
         refine c_seq ?_
         refine c_reg ?_
         refine l_pure v5 rfl (fun _ => rfl) ?_
         refine l_pure v14 rfl (fun _ => rfl) ?_
         refine l_pure v5 rfl (fun _ => rfl) ?_
         refine l_pure v14 rfl (fun _ => rfl) ?_
         refine l_nil ?_
         refine x_then ?_
         refine c_ret ?_
         refine x_fin (.tuple #[v5, v14]) (res_of (vs := [v5, v14]) rfl (.cons (.tmp _ v5 rfl rfl) (.cons (.tmp _ v14 rfl rfl) .nil))) ?_
         have hF : (fitL l (if 200 < (if n < 0 then 0 else n) then 200 else (if n < 0 then 0 else n))) = fitL l (par n) := rfl
         have hE : ([] ++ (l.drop (((if 200 < (if n < 0 then 0 else n) then 200 else (if n < 0 then 0 else n))).toNat))) = extraL l n vb := (if_pos (⟨p9, p11⟩ : vb = true ∧ par n < l.length)).symm
         exact ⟨_, _, rfl, ⟨hF ▸ S3, (fun k hk => by have := s7 k hk; omega)⟩, ⟨(hE ▸ S18), (fun k hk => (s19m k hk).elim (fun h => by first | (simp [blk, Value.ownBlock] at h; done) | (simp [blk, Value.ownBlock] at h; omega)) (fun h => by omega))⟩, hT⟩)
    · have p20 := of_decide_eq_false c10
      first
      | (exfalso; omega)
      | (refine c_skip ?_
         refine x_then ?_
         refine c_seq ?_
         refine c_reg ?_
         refine l_pure v5 rfl (fun _ => rfl) ?_
         refine l_pure (.slice none 0 0) rfl (fun _ => rfl) ?_
         refine l_pure v5 rfl (fun _ => rfl) ?_
         refine l_pure (.slice none 0 0) rfl (fun _ => rfl) ?_
         refine l_nil ?_
         refine x_then ?_
         refine c_ret ?_
         refine x_fin (.tuple #[v5, (.slice none 0 0)]) (res_of (vs := [v5, (.slice none 0 0)]) rfl (.cons (.tmp _ v5 rfl rfl) (.cons (.tmp _ (.slice none 0 0) rfl rfl) .nil))) ?_
         have hF : (fitL l (if 200 < (if n < 0 then 0 else n) then 200 else (if n < 0 then 0 else n))) = fitL l (par n) := rfl
         have hE : [] = extraL l n vb := by refine (if_neg (c := vb = true ∧ par n < l.length) ?_).symm; rintro ⟨h1, h2⟩; exact p20 h2
         exact ⟨_, _, rfl, ⟨hF ▸ S3, (fun k hk => by have := s7 k hk; omega)⟩, ⟨(hE ▸ Ow.nil _ _), (fun k hk => by simp [blk, Value.ownBlock] at hk)⟩, hT⟩)
  · have p21 := c8
    refine l_skip rfl rfl ?_
    refine l_skip rfl rfl ?_
    refine l_skip rfl rfl ?_
    refine l_skip rfl rfl ?_
    refine l_pure (.bool false) rfl (fun _ => rfl) ?_
    refine l_nil ?_
    refine x_then ?_
    refine c_false rfl rfl ?_
    refine c_skip ?_
    refine x_then ?_
    refine c_seq ?_
    refine c_reg ?_
    refine l_pure v5 rfl (fun _ => rfl) ?_
    refine l_pure (.slice none 0 0) rfl (fun _ => rfl) ?_
    refine l_pure v5 rfl (fun _ => rfl) ?_
    refine l_pure (.slice none 0 0) rfl (fun _ => rfl) ?_
    refine l_nil ?_
    refine x_then ?_
    refine c_ret ?_
    refine x_fin (.tuple #[v5, (.slice none 0 0)]) (res_of (vs := [v5, (.slice none 0 0)]) rfl (.cons (.tmp _ v5 rfl rfl) (.cons (.tmp _ (.slice none 0 0) rfl rfl) .nil))) ?_
    have hF : (fitL l (if 200 < (if n < 0 then 0 else n) then 200 else (if n < 0 then 0 else n))) = fitL l (par n) := rfl
    have hE : [] = extraL l n vb := by refine (if_neg (c := vb = true ∧ par n < l.length) ?_).symm; rintro ⟨h1, h2⟩; rw [p21] at h1; cases h1
    exact ⟨_, _, rfl, ⟨hF ▸ S3, (fun k hk => by have := s7 k hk; omega)⟩, ⟨(hE ▸ Ow.nil _ _), (fun k hk => by simp [blk, Value.ownBlock] at hk)⟩, hT⟩
theorem do_ok (x : Opn) (H : Heap) (b c : Nat) (L : List Fr) (fp fq : Nat → Prop) (hF : FS H b L fp) (hR : RS H c L fq) (hd : ∀ k, fp k → ¬ fq k) : HC Try.prog 12 #[.pointer (some ⟨b, 0, none⟩), .pointer (some ⟨c, 0, none⟩), x.v] H fun v H' => v = .bool true ∧ ∃ fp' fq', FS H' b (stepL L x) fp' ∧ RS H' c (stepL L x) fq' ∧ (∀ k, fp' k → ¬ fq' k) ∧ Chg (fun k => fp k ∨ fq k) H H' ∧ (∀ k, fp' k → fp k ∨ H.size ≤ k) ∧ ∀ k, fq' k → fq k ∨ H.size ≤ k := by
  have bF : ∀ k, fp k → k < H.size := fun k hk => hF.lt hk
  have bR : ∀ k, fq k → k < H.size := fun k hk => hR.lt hk
  refine enter Try.func12 rfl 64 rfl rfl [(0, .pointer (some ⟨b, 0, none⟩)), (1, .pointer (some ⟨c, 0, none⟩)), (2, .agg #[.int .i64 x.kind, .int .i64 x.n, .string x.name, .int .i64 x.line, .int .i64 x.base, .int .i64 x.extra, .int .i64 x.want, .bool x.tail])] rfl (fun w0 => ?_)
  have hT : Chg (fun k => fp k ∨ fq k) H H := Chg.refl _ _
  refine c_seq ?_
  refine c_reg ?_
  refine l_box rfl (.agg #[.int .i64 x.kind, .int .i64 x.n, .string x.name, .int .i64 x.line, .int .i64 x.base, .int .i64 x.extra, .int .i64 x.want, .bool x.tail]) #[.int .i64 x.kind, .int .i64 x.n, .string x.name, .int .i64 x.line, .int .i64 x.base, .int .i64 x.extra, .int .i64 x.want, .bool x.tail] rfl rfl rfl (fun g2 H3 n4 => ?_)
  have e5 := n4.at_; have e6 := n4.size
  have d7 : ∀ k, fp k → ¬ (k = g2) := fun k hk e => by have := bF k hk; omega
  have d8 : ∀ k, fq k → ¬ (k = g2) := fun k hk e => by have := bR k hk; omega
  replace hF := hF.chg (n4.chg fun _ => False) (fun _ _ h => h)
  replace hR := hR.chg (n4.chg fun _ => False) (fun _ _ h => h)
  replace hT := hT.trans' (n4.chg fun _ => False) (fun _ h _ => h.elim)
  have B1 := n4.is
  refine l_pure (.bool false) rfl (fun _ => rfl) ?_
  refine l_nil ?_
  refine x_then ?_
  refine c_seq ?_
  refine c_seq ?_
  refine c_reg ?_
  refine l_pure (.pointer (some ⟨g2, 0, none⟩)) rfl (fun _ => rfl) ?_
  refine l_loadC rfl g2 0 #[.int .i64 x.kind, .int .i64 x.n, .string x.name, .int .i64 x.line, .int .i64 x.base, .int .i64 x.extra, .int .i64 x.want, .bool x.tail] _ _ (.int .i64 x.kind) rfl rfl (by kernel_rfl) B1 rfl ?_
  refine l_nil ?_
  refine x_then ?_
  refine c_block ?_
  refine c_seq ?_
  refine c_reg ?_
  refine l_cmp rfl .i64 x.kind 1 (decide (x.kind = 1)) rfl rfl rfl rfl ?_
  refine l_pure (.bool (decide (x.kind = 1))) rfl (fun _ => rfl) ?_
  refine l_nil ?_
  refine x_then ?_
  refine c_cond (c := (decide (x.kind = 1))) rfl rfl (fun c9 => ?_) (fun c9 => ?_)
  · have p10 := of_decide_eq_true c9
    first
    | (exfalso; omega)
    | (refine c_seq ?_
       refine c_held (fun Hh => Hh[g2]? = some (.cells #[.int .i64 x.kind, .int .i64 x.n, .string x.name, .int .i64 x.line, .int .i64 x.base, .int .i64 x.extra, .int .i64 x.want, .bool x.tail] 30 (0, 0))) Try.mixed ?_
       refine h_light 0 rfl (by kernel_rfl) (np_then (np_block (np_then np_fin))) rfl (fun Hh hs => r_pure (.pointer (some ⟨b, 0, none⟩)) (fun _ => rfl)) B1 ?_
       refine h_light 1 rfl (by kernel_rfl) (np_then (np_block (np_then np_fin))) rfl (fun Hh hs => r_loadA rfl g2 0 8 #[.int .i64 x.kind, .int .i64 x.n, .string x.name, .int .i64 x.line, .int .i64 x.base, .int .i64 x.extra, .int .i64 x.want, .bool x.tail] _ _ #[.int .i64 x.kind, .int .i64 x.n, .string x.name, .int .i64 x.line, .int .i64 x.base, .int .i64 x.extra, .int .i64 x.want, .bool x.tail] rfl (by kernel_rfl) hs rfl rfl) B1 ?_
       refine h_light 4 rfl (by kernel_rfl) (np_then (np_block (np_then np_fin))) rfl (fun Hh hs => r_pure (.pointer (some ⟨c, 0, none⟩)) (fun _ => rfl)) B1 ?_
       refine h_light 5 rfl (by kernel_rfl) (np_then (np_block (np_then np_fin))) rfl (fun Hh hs => r_loadA rfl g2 0 8 #[.int .i64 x.kind, .int .i64 x.n, .string x.name, .int .i64 x.line, .int .i64 x.base, .int .i64 x.extra, .int .i64 x.want, .bool x.tail] _ _ #[.int .i64 x.kind, .int .i64 x.n, .string x.name, .int .i64 x.line, .int .i64 x.base, .int .i64 x.extra, .int .i64 x.want, .bool x.tail] rfl (by kernel_rfl) hs rfl rfl) B1 ?_
       refine h_step 2 rfl (by kernel_rfl) ?_
       refine l_call rfl [.agg #[.int .i64 x.kind, .int .i64 x.n, .string x.name, .int .i64 x.line, .int .i64 x.base, .int .i64 x.extra, .int .i64 x.want, .bool x.tail]] rfl rfl (by kernel_rfl) (frame_ok x _) ?_
       rintro _ H11 ⟨rfl, k12⟩
       have e13 := k12.size
       replace hF := hF.chg k12 (fun _ _ h => h)
       replace hR := hR.chg k12 (fun _ _ h => h)
       replace B1 := k12.get B1 (fun h => h)
       replace hT := hT.trans' k12 (fun _ h _ => h.elim)
       refine l_nil (x_held B1 ?_)
       refine h_step 3 rfl (by kernel_rfl) ?_
       refine l_call rfl [.pointer (some ⟨b, 0, none⟩), .agg #[.string x.name, .int .i64 x.line, .int .i64 x.base, .int .i64 x.extra, .int .i64 x.want, .bool x.tail]] rfl rfl (by kernel_rfl) (push_ok x.fr _ b L _ hF) ?_
       rintro _ H14 ⟨rfl, fp16, R17, k15, u18⟩
       have e19 := k15.size
       have d20 : ∀ k, fp16 k → ¬ (fq k) := fun k hk e => (u18 k hk).elim (fun h => (fun k hk e => hd k hk e) k h e) (fun h => by have := hR.lt e; omega)
       have d21 : ∀ k, fp16 k → ¬ (k = g2) := fun k hk e => (u18 k hk).elim (fun h => (fun k hk e => d7 k hk e) k h e) (fun h => by have := lt_of_some B1; omega)
       have b22 : ∀ k, fp16 k → k < H14.size := fun k hk => R17.lt hk
       replace hR := hR.chg k15 (fun k hk e => (fun k hk e => hd k hk e) k e hk)
       replace B1 := k15.get B1 (fun e => (fun k hk e => d7 k hk e) _ e rfl)
       replace hT := hT.trans' k15 (fun k hk _ => Or.inl hk)
       have o23 : ∀ k, fp16 k → k < H.size → (fun k => fp k ∨ fq k) k := fun k hk hl => (u18 k hk).elim (fun h => (fun k hk _ => Or.inl hk) k h hl) (fun h => by exfalso; omega)
       have u24 : ∀ k, fp16 k → fp k ∨ H.size ≤ k := fun k hk => (u18 k hk).elim (fun h => (fun k hk => Or.inl hk) k h) (fun h => Or.inr (by omega))
       refine l_nil (x_held B1 ?_)
       refine h_step 6 rfl (by kernel_rfl) ?_
       refine l_call rfl [.agg #[.int .i64 x.kind, .int .i64 x.n, .string x.name, .int .i64 x.line, .int .i64 x.base, .int .i64 x.extra, .int .i64 x.want, .bool x.tail]] rfl rfl (by kernel_rfl) (mirror_ok x _) ?_
       rintro _ H25 ⟨rfl, k26⟩
       have e27 := k26.size
       replace hR := hR.chg k26 (fun _ _ h => h)
       replace B1 := k26.get B1 (fun h => h)
       replace R17 := R17.chg k26 (fun _ _ h => h)
       replace hT := hT.trans' k26 (fun _ h _ => h.elim)
       refine l_nil (x_held B1 ?_)
       refine h_step 7 rfl (by kernel_rfl) ?_
       refine l_call rfl [.pointer (some ⟨c, 0, none⟩), .agg #[.string x.name, .int .i64 x.line, .int .i64 x.base, .int .i64 x.extra, .int .i64 x.want, .bool x.tail]] rfl rfl (by kernel_rfl) (rpush_ok x.fr _ c L _ hR) ?_
       rintro _ H28 ⟨rfl, fp30, R31, k29, u32⟩
       have e33 := k29.size
       have d34 : ∀ k, fp30 k → ¬ (k = g2) := fun k hk e => (u32 k hk).elim (fun h => (fun k hk e => d8 k hk e) k h e) (fun h => by have := lt_of_some B1; omega)
       have d35 : ∀ k, fp30 k → ¬ (fp16 k) := fun k hk e => (u32 k hk).elim (fun h => (fun k hk e => d20 k e hk) k h e) (fun h => by have := R17.lt e; omega)
       have b36 : ∀ k, fp30 k → k < H28.size := fun k hk => R31.lt hk
       replace B1 := k29.get B1 (fun e => (fun k hk e => d8 k hk e) _ e rfl)
       replace R17 := R17.chg k29 (fun k hk e => (fun k hk e => d20 k e hk) k e hk)
       replace hT := hT.trans' k29 (fun k hk _ => Or.inr hk)
       have o37 : ∀ k, fp30 k → k < H.size → (fun k => fp k ∨ fq k) k := fun k hk hl => (u32 k hk).elim (fun h => (fun k hk _ => Or.inr hk) k h hl) (fun h => by exfalso; omega)
       have u38 : ∀ k, fp30 k → fq k ∨ H.size ≤ k := fun k hk => (u32 k hk).elim (fun h => (fun k hk => Or.inl hk) k h) (fun h => Or.inr (by omega))
       refine l_nil (x_held B1 ?_)
       refine h_step 8 rfl (by kernel_rfl) ?_
       refine l_cmp rfl .i64 ((pushR L x.fr).1) ((pushR L x.fr).1) true rfl rfl rfl (by simp [cmpI]) ?_
       refine l_nil (x_held B1 ?_)
       refine h_step 9 rfl (by kernel_rfl) ?_
       refine l_pure (.bool true) rfl (fun _ => rfl) ?_
       refine l_nil (x_held B1 ?_)
       refine h_done (by kernel_rfl) ?_
       refine x_then ?_
       refine c_ret ?_
       refine x_retBlock ?_
       refine x_ret ?_
       refine x_fin (.bool true) (res_of (vs := [.bool true]) rfl (.cons (.tmp _ (.bool true) rfl rfl) .nil)) ?_
       have hE : (pushR L x.fr).2 = stepL L x := by simp [stepL, p10]
       exact ⟨rfl, _, _, hE ▸ R17, hE ▸ R31, (fun k hk e => d35 k e hk), hT, u24, u38⟩)
  · have p39 := of_decide_eq_false c9
    first
    | (exfalso; omega)
    | (refine c_seq ?_
       refine c_reg ?_
       refine l_cmp rfl .i64 x.kind 2 (decide (x.kind = 2)) rfl rfl rfl rfl ?_
       refine l_pure (.bool (decide (x.kind = 2))) rfl (fun _ => rfl) ?_
       refine l_nil ?_
       refine x_then ?_
       refine c_cond (c := (decide (x.kind = 2))) rfl rfl (fun c40 => ?_) (fun c40 => ?_)
       · have p41 := of_decide_eq_true c40
         first
         | (exfalso; omega)
         | (refine c_seq ?_
            refine c_reg ?_
            refine l_pure (.pointer (some ⟨b, 0, none⟩)) rfl (fun _ => rfl) ?_
            refine l_call rfl [.pointer (some ⟨b, 0, none⟩)] rfl rfl (by kernel_rfl) (pop_ok _ b L _ hF) ?_
            rintro _ H42 ⟨rfl, fp44, R45, k43, u46⟩
            have e47 := k43.size
            have d48 : ∀ k, fp44 k → ¬ (fq k) := fun k hk e => (u46 k hk).elim (fun h => (fun k hk e => hd k hk e) k h e) (fun h => by have := hR.lt e; omega)
            have d49 : ∀ k, fp44 k → ¬ (k = g2) := fun k hk e => (u46 k hk).elim (fun h => (fun k hk e => d7 k hk e) k h e) (fun h => by have := lt_of_some B1; omega)
            have b50 : ∀ k, fp44 k → k < H42.size := fun k hk => R45.lt hk
            replace hR := hR.chg k43 (fun k hk e => (fun k hk e => hd k hk e) k e hk)
            replace B1 := k43.get B1 (fun e => (fun k hk e => d7 k hk e) _ e rfl)
            replace hT := hT.trans' k43 (fun k hk _ => Or.inl hk)
            have o51 : ∀ k, fp44 k → k < H.size → (fun k => fp k ∨ fq k) k := fun k hk hl => (u46 k hk).elim (fun h => (fun k hk _ => Or.inl hk) k h hl) (fun h => by exfalso; omega)
            have u52 : ∀ k, fp44 k → fp k ∨ H.size ≤ k := fun k hk => (u46 k hk).elim (fun h => (fun k hk => Or.inl hk) k h) (fun h => Or.inr (by omega))
            refine l_pure (.tuple #[.agg #[.string (((popR L).1.1).name), .int .i64 (((popR L).1.1).line), .int .i64 (((popR L).1.1).base), .int .i64 (((popR L).1.1).extra), .int .i64 (((popR L).1.1).want), .bool ((popR L).1.1).tail], .bool (popR L).1.2]) rfl (fun _ => rfl) ?_
            refine l_pure (.agg #[.string (((popR L).1.1).name), .int .i64 (((popR L).1.1).line), .int .i64 (((popR L).1.1).base), .int .i64 (((popR L).1.1).extra), .int .i64 (((popR L).1.1).want), .bool ((popR L).1.1).tail]) rfl (fun _ => rfl) ?_
            refine l_pure (.bool (popR L).1.2) rfl (fun _ => rfl) ?_
            refine l_alloc rfl (.agg #[.string ByteArray.empty, .int .i64 0, .int .i64 0, .int .i64 0, .int .i64 0, .bool false]) #[.string ByteArray.empty, .int .i64 0, .int .i64 0, .int .i64 0, .int .i64 0, .bool false] rfl (fun _ => by kernel_rfl) rfl (fun g54 H55 n56 => ?_)
            have e57 := n56.at_; have e58 := n56.size
            have d59 : ∀ k, fq k → ¬ (k = g54) := fun k hk e => by have := bR k hk; omega
            have d60 : ∀ k, fp44 k → ¬ (k = g54) := fun k hk e => by have := b50 k hk; omega
            replace hR := hR.chg (n56.chg fun _ => False) (fun _ _ h => h)
            replace B1 := (n56.chg fun _ => False).get B1 (fun h => h)
            replace R45 := R45.chg (n56.chg fun _ => False) (fun _ _ h => h)
            replace hT := hT.trans' (n56.chg fun _ => False) (fun _ h _ => h.elim)
            have B53 := n56.is
            refine l_store rfl g54 0 6 #[.string ByteArray.empty, .int .i64 0, .int .i64 0, .int .i64 0, .int .i64 0, .bool false] #[.string (((popR L).1.1).name), .int .i64 (((popR L).1.1).line), .int .i64 (((popR L).1.1).base), .int .i64 (((popR L).1.1).extra), .int .i64 (((popR L).1.1).want), .bool ((popR L).1.1).tail] _ (.agg #[.string (((popR L).1.1).name), .int .i64 (((popR L).1.1).line), .int .i64 (((popR L).1.1).base), .int .i64 (((popR L).1.1).extra), .int .i64 (((popR L).1.1).want), .bool ((popR L).1.1).tail]) rfl rfl rfl (by kernel_rfl) B53 rfl rfl rfl rfl (fun H61 q62 => ?_)
            have e63 := q62.size
            replace hR := hR.chg q62.chg (fun k hk e => d59 k hk e)
            replace B1 := q62.chg.get B1 (fun e => by omega)
            replace R45 := R45.chg q62.chg (fun k hk e => d60 k hk e)
            replace hT := hT.trans' q62.chg (fun i (e : i = g54) hl => by exfalso; omega)
            have B64 := q62.is
            refine l_pure (.bool (popR L).1.2) rfl (fun _ => rfl) ?_
            refine l_nil ?_
            refine x_then ?_
            refine c_seq ?_
            refine c_reg ?_
            refine l_pure (.pointer (some ⟨c, 0, none⟩)) rfl (fun _ => rfl) ?_
            refine l_call rfl [.pointer (some ⟨c, 0, none⟩)] rfl rfl (by kernel_rfl) (rpop_ok _ c L _ hR) ?_
            rintro _ H65 ⟨rfl, fp67, R68, k66, u69⟩
            have e70 := k66.size
            have d71 : ∀ k, fp67 k → ¬ (k = g2) := fun k hk e => (u69 k hk).elim (fun h => (fun k hk e => d8 k hk e) k h e) (fun h => by have := lt_of_some B1; omega)
            have d72 : ∀ k, fp67 k → ¬ (fp44 k) := fun k hk e => (u69 k hk).elim (fun h => (fun k hk e => d48 k e hk) k h e) (fun h => by have := R45.lt e; omega)
            have d73 : ∀ k, fp67 k → ¬ (k = g54) := fun k hk e => (u69 k hk).elim (fun h => (fun k hk e => d59 k hk e) k h e) (fun h => by have := lt_of_some B64; omega)
            have b74 : ∀ k, fp67 k → k < H65.size := fun k hk => R68.lt hk
            replace B1 := k66.get B1 (fun e => (fun k hk e => d8 k hk e) _ e rfl)
            replace R45 := R45.chg k66 (fun k hk e => (fun k hk e => d48 k e hk) k e hk)
            replace B64 := k66.get B64 (fun e => (fun k hk e => d59 k hk e) _ e rfl)
            replace hT := hT.trans' k66 (fun k hk _ => Or.inr hk)
            have o75 : ∀ k, fp67 k → k < H.size → (fun k => fp k ∨ fq k) k := fun k hk hl => (u69 k hk).elim (fun h => (fun k hk _ => Or.inr hk) k h hl) (fun h => by exfalso; omega)
            have u76 : ∀ k, fp67 k → fq k ∨ H.size ≤ k := fun k hk => (u69 k hk).elim (fun h => (fun k hk => Or.inl hk) k h) (fun h => Or.inr (by omega))
            refine l_pure (.tuple #[.agg #[.string (((popR L).1.1).name), .int .i64 (((popR L).1.1).line), .int .i64 (((popR L).1.1).base), .int .i64 (((popR L).1.1).extra), .int .i64 (((popR L).1.1).want), .bool ((popR L).1.1).tail], .bool (popR L).1.2]) rfl (fun _ => rfl) ?_
            refine l_pure (.agg #[.string (((popR L).1.1).name), .int .i64 (((popR L).1.1).line), .int .i64 (((popR L).1.1).base), .int .i64 (((popR L).1.1).extra), .int .i64 (((popR L).1.1).want), .bool ((popR L).1.1).tail]) rfl (fun _ => rfl) ?_
            refine l_pure (.bool (popR L).1.2) rfl (fun _ => rfl) ?_
            refine l_alloc rfl (.agg #[.string ByteArray.empty, .int .i64 0, .int .i64 0, .int .i64 0, .int .i64 0, .bool false]) #[.string ByteArray.empty, .int .i64 0, .int .i64 0, .int .i64 0, .int .i64 0, .bool false] rfl (fun _ => by kernel_rfl) rfl (fun g78 H79 n80 => ?_)
            have e81 := n80.at_; have e82 := n80.size
            have d83 : ∀ k, fp44 k → ¬ (k = g78) := fun k hk e => by have := b50 k hk; omega
            have d84 : ∀ k, fp67 k → ¬ (k = g78) := fun k hk e => by have := b74 k hk; omega
            replace B1 := (n80.chg fun _ => False).get B1 (fun h => h)
            replace R45 := R45.chg (n80.chg fun _ => False) (fun _ _ h => h)
            replace B64 := (n80.chg fun _ => False).get B64 (fun h => h)
            replace R68 := R68.chg (n80.chg fun _ => False) (fun _ _ h => h)
            replace hT := hT.trans' (n80.chg fun _ => False) (fun _ h _ => h.elim)
            have B77 := n80.is
            refine l_store rfl g78 0 6 #[.string ByteArray.empty, .int .i64 0, .int .i64 0, .int .i64 0, .int .i64 0, .bool false] #[.string (((popR L).1.1).name), .int .i64 (((popR L).1.1).line), .int .i64 (((popR L).1.1).base), .int .i64 (((popR L).1.1).extra), .int .i64 (((popR L).1.1).want), .bool ((popR L).1.1).tail] _ (.agg #[.string (((popR L).1.1).name), .int .i64 (((popR L).1.1).line), .int .i64 (((popR L).1.1).base), .int .i64 (((popR L).1.1).extra), .int .i64 (((popR L).1.1).want), .bool ((popR L).1.1).tail]) rfl rfl rfl (by kernel_rfl) B77 rfl rfl rfl rfl (fun H85 q86 => ?_)
            have e87 := q86.size
            replace B1 := q86.chg.get B1 (fun e => by omega)
            replace R45 := R45.chg q86.chg (fun k hk e => d83 k hk e)
            replace B64 := q86.chg.get B64 (fun e => by omega)
            replace R68 := R68.chg q86.chg (fun k hk e => d84 k hk e)
            replace hT := hT.trans' q86.chg (fun i (e : i = g78) hl => by exfalso; omega)
            have B88 := q86.is
            refine l_pure (.bool (popR L).1.2) rfl (fun _ => rfl) ?_
            refine l_nil ?_
            refine x_then ?_
            refine c_seq ?_
            refine c_reg ?_
            refine l_loadA rfl g54 0 6 #[.string (((popR L).1.1).name), .int .i64 (((popR L).1.1).line), .int .i64 (((popR L).1.1).base), .int .i64 (((popR L).1.1).extra), .int .i64 (((popR L).1.1).want), .bool ((popR L).1.1).tail] _ _ #[.string (((popR L).1.1).name), .int .i64 (((popR L).1.1).line), .int .i64 (((popR L).1.1).base), .int .i64 (((popR L).1.1).extra), .int .i64 (((popR L).1.1).want), .bool ((popR L).1.1).tail] rfl rfl (by kernel_rfl) B64 rfl rfl ?_
            refine l_loadA rfl g78 0 6 #[.string (((popR L).1.1).name), .int .i64 (((popR L).1.1).line), .int .i64 (((popR L).1.1).base), .int .i64 (((popR L).1.1).extra), .int .i64 (((popR L).1.1).want), .bool ((popR L).1.1).tail] _ _ #[.string (((popR L).1.1).name), .int .i64 (((popR L).1.1).line), .int .i64 (((popR L).1.1).base), .int .i64 (((popR L).1.1).extra), .int .i64 (((popR L).1.1).want), .bool ((popR L).1.1).tail] rfl rfl (by kernel_rfl) B88 rfl rfl ?_
            refine l_eqS rfl #[.string (((popR L).1.1).name), .int .i64 (((popR L).1.1).line), .int .i64 (((popR L).1.1).base), .int .i64 (((popR L).1.1).extra), .int .i64 (((popR L).1.1).want), .bool ((popR L).1.1).tail] #[.string (((popR L).1.1).name), .int .i64 (((popR L).1.1).line), .int .i64 (((popR L).1.1).base), .int .i64 (((popR L).1.1).extra), .int .i64 (((popR L).1.1).want), .bool ((popR L).1.1).tail] true rfl rfl rfl (by kernel_rfl) (fun w => ((eq46 ((popR L).1.1) ((popR L).1.1) w).1).trans (congrArg (fun z => Result.ok (Value.bool (z)) w) (decide_eq_true rfl))) ?_
            refine l_pure (.bool true) rfl (fun _ => rfl) ?_
            refine l_pure (.bool (popR L).1.2) rfl (fun _ => rfl) ?_
            refine l_pure (.bool (popR L).1.2) rfl (fun _ => rfl) ?_
            refine l_pure (.bool true) rfl (fun _ => by show Result.ok (Next.value (.bool ((popR L).1.2 == (popR L).1.2))) _ = _; simp) ?_
            refine l_pure (.bool true) rfl (fun _ => rfl) ?_
            refine l_pure (.bool true) rfl (fun _ => rfl) ?_
            refine l_nil ?_
            refine x_then ?_
            refine c_ret ?_
            refine x_retBlock ?_
            refine x_ret ?_
            refine x_fin (.bool true) (res_of (vs := [.bool true]) rfl (.cons (.tmp _ (.bool true) rfl rfl) .nil)) ?_
            have hE : (popR L).2 = stepL L x := by simp [stepL, p39, p41]
            exact ⟨rfl, _, _, hE ▸ R45, hE ▸ R68, (fun k hk e => d72 k e hk), hT, u52, u76⟩)
       · have p89 := of_decide_eq_false c40
         first
         | (exfalso; omega)
         | (refine c_seq ?_
            refine c_reg ?_
            refine l_cmp rfl .i64 x.kind 3 (decide (x.kind = 3)) rfl rfl rfl rfl ?_
            refine l_pure (.bool (decide (x.kind = 3))) rfl (fun _ => rfl) ?_
            refine l_nil ?_
            refine x_then ?_
            refine c_cond (c := (decide (x.kind = 3))) rfl rfl (fun c90 => ?_) (fun c90 => ?_)
            · have p91 := of_decide_eq_true c90
              first
              | (exfalso; omega)
              | (refine c_seq ?_
                 refine c_held (fun Hh => Hh[g2]? = some (.cells #[.int .i64 x.kind, .int .i64 x.n, .string x.name, .int .i64 x.line, .int .i64 x.base, .int .i64 x.extra, .int .i64 x.want, .bool x.tail] 30 (0, 0))) Try.mixed ?_
                 refine h_light 0 rfl (by kernel_rfl) (np_then (np_block (np_then np_fin))) rfl (fun Hh hs => r_pure (.pointer (some ⟨b, 0, none⟩)) (fun _ => rfl)) B1 ?_
                 refine h_light 1 rfl (by kernel_rfl) (np_then (np_block (np_then np_fin))) rfl (fun Hh hs => r_loadA rfl g2 0 8 #[.int .i64 x.kind, .int .i64 x.n, .string x.name, .int .i64 x.line, .int .i64 x.base, .int .i64 x.extra, .int .i64 x.want, .bool x.tail] _ _ #[.int .i64 x.kind, .int .i64 x.n, .string x.name, .int .i64 x.line, .int .i64 x.base, .int .i64 x.extra, .int .i64 x.want, .bool x.tail] rfl (by kernel_rfl) hs rfl rfl) B1 ?_
                 refine h_light 4 rfl (by kernel_rfl) (np_then (np_block (np_then np_fin))) rfl (fun Hh hs => r_pure (.pointer (some ⟨c, 0, none⟩)) (fun _ => rfl)) B1 ?_
                 refine h_light 5 rfl (by kernel_rfl) (np_then (np_block (np_then np_fin))) rfl (fun Hh hs => r_loadA rfl g2 0 8 #[.int .i64 x.kind, .int .i64 x.n, .string x.name, .int .i64 x.line, .int .i64 x.base, .int .i64 x.extra, .int .i64 x.want, .bool x.tail] _ _ #[.int .i64 x.kind, .int .i64 x.n, .string x.name, .int .i64 x.line, .int .i64 x.base, .int .i64 x.extra, .int .i64 x.want, .bool x.tail] rfl (by kernel_rfl) hs rfl rfl) B1 ?_
                 refine h_step 2 rfl (by kernel_rfl) ?_
                 refine l_call rfl [.agg #[.int .i64 x.kind, .int .i64 x.n, .string x.name, .int .i64 x.line, .int .i64 x.base, .int .i64 x.extra, .int .i64 x.want, .bool x.tail]] rfl rfl (by kernel_rfl) (frame_ok x _) ?_
                 rintro _ H92 ⟨rfl, k93⟩
                 have e94 := k93.size
                 replace hF := hF.chg k93 (fun _ _ h => h)
                 replace hR := hR.chg k93 (fun _ _ h => h)
                 replace B1 := k93.get B1 (fun h => h)
                 replace hT := hT.trans' k93 (fun _ h _ => h.elim)
                 refine l_nil (x_held B1 ?_)
                 refine h_step 3 rfl (by kernel_rfl) ?_
                 refine l_call rfl [.pointer (some ⟨b, 0, none⟩), .agg #[.string x.name, .int .i64 x.line, .int .i64 x.base, .int .i64 x.extra, .int .i64 x.want, .bool x.tail]] rfl rfl (by kernel_rfl) (repl_ok x.fr _ b L _ hF) ?_
                 rintro _ H95 ⟨rfl, fp97, R98, k96, u99⟩
                 have e100 := k96.size
                 have d101 : ∀ k, fp97 k → ¬ (fq k) := fun k hk e => (u99 k hk).elim (fun h => (fun k hk e => hd k hk e) k h e) (fun h => by have := hR.lt e; omega)
                 have d102 : ∀ k, fp97 k → ¬ (k = g2) := fun k hk e => (u99 k hk).elim (fun h => (fun k hk e => d7 k hk e) k h e) (fun h => by have := lt_of_some B1; omega)
                 have b103 : ∀ k, fp97 k → k < H95.size := fun k hk => R98.lt hk
                 replace hR := hR.chg k96 (fun k hk e => (fun k hk e => hd k hk e) k e hk)
                 replace B1 := k96.get B1 (fun e => (fun k hk e => d7 k hk e) _ e rfl)
                 replace hT := hT.trans' k96 (fun k hk _ => Or.inl hk)
                 have o104 : ∀ k, fp97 k → k < H.size → (fun k => fp k ∨ fq k) k := fun k hk hl => (u99 k hk).elim (fun h => (fun k hk _ => Or.inl hk) k h hl) (fun h => by exfalso; omega)
                 have u105 : ∀ k, fp97 k → fp k ∨ H.size ≤ k := fun k hk => (u99 k hk).elim (fun h => (fun k hk => Or.inl hk) k h) (fun h => Or.inr (by omega))
                 refine l_nil (x_held B1 ?_)
                 refine h_step 6 rfl (by kernel_rfl) ?_
                 refine l_call rfl [.agg #[.int .i64 x.kind, .int .i64 x.n, .string x.name, .int .i64 x.line, .int .i64 x.base, .int .i64 x.extra, .int .i64 x.want, .bool x.tail]] rfl rfl (by kernel_rfl) (mirror_ok x _) ?_
                 rintro _ H106 ⟨rfl, k107⟩
                 have e108 := k107.size
                 replace hR := hR.chg k107 (fun _ _ h => h)
                 replace B1 := k107.get B1 (fun h => h)
                 replace R98 := R98.chg k107 (fun _ _ h => h)
                 replace hT := hT.trans' k107 (fun _ h _ => h.elim)
                 refine l_nil (x_held B1 ?_)
                 refine h_step 7 rfl (by kernel_rfl) ?_
                 refine l_call rfl [.pointer (some ⟨c, 0, none⟩), .agg #[.string x.name, .int .i64 x.line, .int .i64 x.base, .int .i64 x.extra, .int .i64 x.want, .bool x.tail]] rfl rfl (by kernel_rfl) (rrepl_ok x.fr _ c L _ hR) ?_
                 rintro _ H109 ⟨rfl, fp111, R112, k110, u113⟩
                 have e114 := k110.size
                 have d115 : ∀ k, fp111 k → ¬ (k = g2) := fun k hk e => (u113 k hk).elim (fun h => (fun k hk e => d8 k hk e) k h e) (fun h => by have := lt_of_some B1; omega)
                 have d116 : ∀ k, fp111 k → ¬ (fp97 k) := fun k hk e => (u113 k hk).elim (fun h => (fun k hk e => d101 k e hk) k h e) (fun h => by have := R98.lt e; omega)
                 have b117 : ∀ k, fp111 k → k < H109.size := fun k hk => R112.lt hk
                 replace B1 := k110.get B1 (fun e => (fun k hk e => d8 k hk e) _ e rfl)
                 replace R98 := R98.chg k110 (fun k hk e => (fun k hk e => d101 k e hk) k e hk)
                 replace hT := hT.trans' k110 (fun k hk _ => Or.inr hk)
                 have o118 : ∀ k, fp111 k → k < H.size → (fun k => fp k ∨ fq k) k := fun k hk hl => (u113 k hk).elim (fun h => (fun k hk _ => Or.inr hk) k h hl) (fun h => by exfalso; omega)
                 have u119 : ∀ k, fp111 k → fq k ∨ H.size ≤ k := fun k hk => (u113 k hk).elim (fun h => (fun k hk => Or.inl hk) k h) (fun h => Or.inr (by omega))
                 refine l_nil (x_held B1 ?_)
                 refine h_step 8 rfl (by kernel_rfl) ?_
                 refine l_cmp rfl .i64 ((replR L x.fr).1) ((replR L x.fr).1) true rfl rfl rfl (by simp [cmpI]) ?_
                 refine l_nil (x_held B1 ?_)
                 refine h_step 9 rfl (by kernel_rfl) ?_
                 refine l_pure (.bool true) rfl (fun _ => rfl) ?_
                 refine l_nil (x_held B1 ?_)
                 refine h_done (by kernel_rfl) ?_
                 refine x_then ?_
                 refine c_ret ?_
                 refine x_retBlock ?_
                 refine x_ret ?_
                 refine x_fin (.bool true) (res_of (vs := [.bool true]) rfl (.cons (.tmp _ (.bool true) rfl rfl) .nil)) ?_
                 have hE : (replR L x.fr).2 = stepL L x := by simp [stepL, p39, p89, p91]
                 exact ⟨rfl, _, _, hE ▸ R98, hE ▸ R112, (fun k hk e => d116 k e hk), hT, u105, u119⟩)
            · have p120 := of_decide_eq_false c90
              first
              | (exfalso; omega)
              | (refine c_skip ?_
                 refine x_block ?_
                 refine x_then ?_
                 refine c_seq ?_
                 refine c_held (fun Hh => Hh[g2]? = some (.cells #[.int .i64 x.kind, .int .i64 x.n, .string x.name, .int .i64 x.line, .int .i64 x.base, .int .i64 x.extra, .int .i64 x.want, .bool x.tail] 30 (0, 0))) Try.mixed ?_
                 refine h_light 0 rfl (by kernel_rfl) (np_then np_fin) rfl (fun Hh hs => r_pure (.pointer (some ⟨b, 0, none⟩)) (fun _ => rfl)) B1 ?_
                 refine h_light 1 rfl (by kernel_rfl) (np_then np_fin) rfl (fun Hh hs => r_pure (.pointer (some ⟨g2, 1, none⟩)) (fun _ => rfl)) B1 ?_
                 refine h_light 2 rfl (by kernel_rfl) (np_then np_fin) rfl (fun Hh hs => r_loadC rfl g2 1 #[.int .i64 x.kind, .int .i64 x.n, .string x.name, .int .i64 x.line, .int .i64 x.base, .int .i64 x.extra, .int .i64 x.want, .bool x.tail] _ _ (.int .i64 x.n) rfl (by kernel_rfl) hs rfl) B1 ?_
                 refine h_light 4 rfl (by kernel_rfl) (np_then np_fin) rfl (fun Hh hs => r_pure (.pointer (some ⟨c, 0, none⟩)) (fun _ => rfl)) B1 ?_
                 refine h_light 5 rfl (by kernel_rfl) (np_then np_fin) rfl (fun Hh hs => r_pure (.pointer (some ⟨g2, 1, none⟩)) (fun _ => rfl)) B1 ?_
                 refine h_light 6 rfl (by kernel_rfl) (np_then np_fin) rfl (fun Hh hs => r_loadC rfl g2 1 #[.int .i64 x.kind, .int .i64 x.n, .string x.name, .int .i64 x.line, .int .i64 x.base, .int .i64 x.extra, .int .i64 x.want, .bool x.tail] _ _ (.int .i64 x.n) rfl (by kernel_rfl) hs rfl) B1 ?_
                 refine h_step 3 rfl (by kernel_rfl) ?_
                 refine l_call rfl [.pointer (some ⟨b, 0, none⟩), .int .i64 x.n] rfl rfl (by kernel_rfl) (at_ok x.n _ b L _ hF) ?_
                 rintro _ H121 ⟨rfl, fp123, R124, k122, u125⟩
                 have e126 := k122.size
                 have d127 : ∀ k, fp123 k → ¬ (fq k) := fun k hk e => (u125 k hk).elim (fun h => (fun k hk e => hd k hk e) k h e) (fun h => by have := hR.lt e; omega)
                 have d128 : ∀ k, fp123 k → ¬ (k = g2) := fun k hk e => (u125 k hk).elim (fun h => (fun k hk e => d7 k hk e) k h e) (fun h => by have := lt_of_some B1; omega)
                 have b129 : ∀ k, fp123 k → k < H121.size := fun k hk => R124.lt hk
                 replace hR := hR.chg k122 (fun k hk e => (fun k hk e => hd k hk e) k e hk)
                 replace B1 := k122.get B1 (fun e => (fun k hk e => d7 k hk e) _ e rfl)
                 replace hT := hT.trans' k122 (fun k hk _ => Or.inl hk)
                 have o130 : ∀ k, fp123 k → k < H.size → (fun k => fp k ∨ fq k) k := fun k hk hl => (u125 k hk).elim (fun h => (fun k hk _ => Or.inl hk) k h hl) (fun h => by exfalso; omega)
                 have u131 : ∀ k, fp123 k → fp k ∨ H.size ≤ k := fun k hk => (u125 k hk).elim (fun h => (fun k hk => Or.inl hk) k h) (fun h => Or.inr (by omega))
                 refine l_nil (x_held B1 ?_)
                 refine h_step 7 rfl (by kernel_rfl) ?_
                 refine l_call rfl [.pointer (some ⟨c, 0, none⟩), .int .i64 x.n] rfl rfl (by kernel_rfl) (rat_ok x.n _ c L _ hR) ?_
                 rintro _ H132 ⟨rfl, fp134, R135, k133, u136⟩
                 have e137 := k133.size
                 have d138 : ∀ k, fp134 k → ¬ (k = g2) := fun k hk e => (u136 k hk).elim (fun h => (fun k hk e => d8 k hk e) k h e) (fun h => by have := lt_of_some B1; omega)
                 have d139 : ∀ k, fp134 k → ¬ (fp123 k) := fun k hk e => (u136 k hk).elim (fun h => (fun k hk e => d127 k e hk) k h e) (fun h => by have := R124.lt e; omega)
                 have b140 : ∀ k, fp134 k → k < H132.size := fun k hk => R135.lt hk
                 replace B1 := k133.get B1 (fun e => (fun k hk e => d8 k hk e) _ e rfl)
                 replace R124 := R124.chg k133 (fun k hk e => (fun k hk e => d127 k e hk) k e hk)
                 replace hT := hT.trans' k133 (fun k hk _ => Or.inr hk)
                 have o141 : ∀ k, fp134 k → k < H.size → (fun k => fp k ∨ fq k) k := fun k hk hl => (u136 k hk).elim (fun h => (fun k hk _ => Or.inr hk) k h hl) (fun h => by exfalso; omega)
                 have u142 : ∀ k, fp134 k → fq k ∨ H.size ≤ k := fun k hk => (u136 k hk).elim (fun h => (fun k hk => Or.inl hk) k h) (fun h => Or.inr (by omega))
                 refine l_nil (x_held B1 ?_)
                 refine h_step 8 rfl (by kernel_rfl) ?_
                 refine l_cmp rfl .i64 ((atR L x.n).1) ((atR L x.n).1) true rfl rfl rfl (by simp [cmpI]) ?_
                 refine l_nil (x_held B1 ?_)
                 refine h_step 9 rfl (by kernel_rfl) ?_
                 refine l_pure (.bool true) rfl (fun _ => rfl) ?_
                 refine l_nil (x_held B1 ?_)
                 refine h_done (by kernel_rfl) ?_
                 refine x_then ?_
                 refine c_ret ?_
                 refine x_fin (.bool true) (res_of (vs := [.bool true]) rfl (.cons (.tmp _ (.bool true) rfl rfl) .nil)) ?_
                 have hE : (atR L x.n).2 = stepL L x := by simp [stepL, p39, p89, p120]
                 exact ⟨rfl, _, _, hE ▸ R124, hE ▸ R135, (fun k hk e => d139 k e hk), hT, u131, u142⟩)))
theorem awake_ok (H : Heap) : HC Try.prog 9 #[] H fun v H' => v = .bool true ∧ Chg (fun _ => False) H H' := by
  refine enter Try.func9 rfl 89 rfl rfl [] rfl (fun w0 => ?_)
  have hT : Chg (fun _ => False) H H := Chg.refl _ _
  refine c_seq ?_
  refine c_reg ?_
  refine l_pure (.bool false) rfl (fun _ => rfl) ?_
  refine l_nil ?_
  refine x_then ?_
  refine c_seq ?_
  refine c_reg ?_
  refine l_call rfl [] rfl rfl (by kernel_rfl) (new_ok _) ?_
  rintro _ H1 ⟨b6, fp3, rfl, R4, k2, l5⟩
  have e7 := k2.size
  have b8 : ∀ k, fp3 k → k < H1.size := fun k hk => R4.lt hk
  replace hT := hT.trans' k2 (fun _ h _ => h.elim)
  have o9 : ∀ k, fp3 k → k < H.size → (fun _ => False) k := fun k hk hl => by exfalso; have := l5 k hk; omega
  refine l_pure (.pointer (some ⟨b6, 0, none⟩)) rfl (fun _ => rfl) ?_
  refine l_nil ?_
  refine x_then ?_
  refine c_seq ?_
  refine c_seq ?_
  refine c_reg ?_
  refine l_pure (.pointer (some ⟨b6, 0, none⟩)) rfl (fun _ => rfl) ?_
  refine l_pure (.bool false) rfl (fun _ => rfl) ?_
  refine l_pure (.bool false) rfl (fun _ => rfl) ?_
  refine l_pure (.pointer (some ⟨b6, 0, none⟩)) rfl (fun _ => rfl) ?_
  refine l_pure (.agg #[.string ⟨#[109, 97, 105, 110]⟩, .int .i64 1, .int .i64 0, .int .i64 0, .int .i64 0, .bool false]) rfl (fun _ => by kernel_rfl) ?_
  refine l_call rfl [.pointer (some ⟨b6, 0, none⟩), .agg #[.string ⟨#[109, 97, 105, 110]⟩, .int .i64 1, .int .i64 0, .int .i64 0, .int .i64 0, .bool false]] rfl rfl (by kernel_rfl) (push_ok (⟨⟨#[109, 97, 105, 110]⟩, 1, 0, 0, 0, false⟩ : Fr) _ b6 [] _ R4) ?_
  rintro v15 H10 ⟨hv16, fp12, R13, k11, u14⟩
  obtain rfl : v15 = .int .i64 0 := hv16.trans rfl
  replace R13 : FS H10 b6 [(⟨⟨#[109, 97, 105, 110]⟩, 1, 0, 0, 0, false⟩ : Fr)] fp12 := R13
  have e17 := k11.size
  have b18 : ∀ k, fp12 k → k < H10.size := fun k hk => R13.lt hk
  replace hT := hT.trans' k11 o9
  have o19 : ∀ k, fp12 k → k < H.size → (fun _ => False) k := fun k hk hl => (u14 k hk).elim (fun h => o9 k h hl) (fun h => by exfalso; omega)
  refine l_cmp rfl .i64 0 0 false rfl rfl rfl rfl ?_
  refine l_pure (.bool false) rfl (fun _ => rfl) ?_
  refine l_pure (.bool false) rfl (fun _ => rfl) ?_
  refine l_pure (.pointer (some ⟨b6, 0, none⟩)) rfl (fun _ => rfl) ?_
  refine l_pure (.agg #[.string ⟨#[102]⟩, .int .i64 7, .int .i64 0, .int .i64 0, .int .i64 0, .bool false]) rfl (fun _ => by kernel_rfl) ?_
  refine l_call rfl [.pointer (some ⟨b6, 0, none⟩), .agg #[.string ⟨#[102]⟩, .int .i64 7, .int .i64 0, .int .i64 0, .int .i64 0, .bool false]] rfl rfl (by kernel_rfl) (push_ok (⟨⟨#[102]⟩, 7, 0, 0, 0, false⟩ : Fr) _ b6 [(⟨⟨#[109, 97, 105, 110]⟩, 1, 0, 0, 0, false⟩ : Fr)] _ R13) ?_
  rintro v25 H20 ⟨hv26, fp22, R23, k21, u24⟩
  obtain rfl : v25 = .int .i64 0 := hv26.trans rfl
  replace R23 : FS H20 b6 [(⟨⟨#[109, 97, 105, 110]⟩, 1, 0, 0, 0, false⟩ : Fr), (⟨⟨#[102]⟩, 7, 0, 0, 0, false⟩ : Fr)] fp22 := R23
  have e27 := k21.size
  have b28 : ∀ k, fp22 k → k < H20.size := fun k hk => R23.lt hk
  replace hT := hT.trans' k21 o19
  have o29 : ∀ k, fp22 k → k < H.size → (fun _ => False) k := fun k hk hl => (u24 k hk).elim (fun h => o19 k h hl) (fun h => by exfalso; omega)
  refine l_cmp rfl .i64 0 0 false rfl rfl rfl rfl ?_
  refine l_pure (.bool false) rfl (fun _ => rfl) ?_
  refine l_pure (.bool false) rfl (fun _ => rfl) ?_
  refine l_pure (.pointer (some ⟨b6, 0, none⟩)) rfl (fun _ => rfl) ?_
  refine l_call rfl [.pointer (some ⟨b6, 0, none⟩), .int .i64 8] rfl rfl (by kernel_rfl) (at_ok 8 _ b6 [(⟨⟨#[109, 97, 105, 110]⟩, 1, 0, 0, 0, false⟩ : Fr), (⟨⟨#[102]⟩, 7, 0, 0, 0, false⟩ : Fr)] _ R23) ?_
  rintro v35 H30 ⟨hv36, fp32, R33, k31, u34⟩
  obtain rfl : v35 = .int .i64 0 := hv36.trans rfl
  replace R33 : FS H30 b6 [(⟨⟨#[109, 97, 105, 110]⟩, 1, 0, 0, 0, false⟩ : Fr), (⟨⟨#[102]⟩, 8, 0, 0, 0, false⟩ : Fr)] fp32 := R33
  have e37 := k31.size
  have b38 : ∀ k, fp32 k → k < H30.size := fun k hk => R33.lt hk
  replace hT := hT.trans' k31 o29
  have o39 : ∀ k, fp32 k → k < H.size → (fun _ => False) k := fun k hk hl => (u34 k hk).elim (fun h => o29 k h hl) (fun h => by exfalso; omega)
  refine l_cmp rfl .i64 0 0 false rfl rfl rfl rfl ?_
  refine l_pure (.bool false) rfl (fun _ => rfl) ?_
  refine l_nil ?_
  refine x_then ?_
  refine c_false rfl rfl ?_
  refine c_skip ?_
  refine x_then ?_
  refine c_seq ?_
  refine c_reg ?_
  refine l_pure (.pointer (some ⟨b6, 0, none⟩)) rfl (fun _ => rfl) ?_
  refine l_call rfl [.pointer (some ⟨b6, 0, none⟩)] rfl rfl (by kernel_rfl) (trace_ok _ b6 [(⟨⟨#[109, 97, 105, 110]⟩, 1, 0, 0, 0, false⟩ : Fr), (⟨⟨#[102]⟩, 8, 0, 0, 0, false⟩ : Fr)] _ R33 (by first | omega | decide)) ?_
  rintro v44 H40 ⟨S42, k41, l43⟩
  replace S42 : Ow H40 PlT v44 [(⟨⟨#[102]⟩, 8, false⟩ : Pl), (⟨⟨#[109, 97, 105, 110]⟩, 1, false⟩ : Pl)] := S42
  have e45 := k41.size
  have s46 : ∀ k, blk v44 = some k → H30.size ≤ k ∧ k < H40.size := fun k hk => by have := l43 k hk; have := S42.lt hk; omega
  have d47 : ∀ k, fp32 k → ¬ (blk v44 = some k) := fun k hk e => by have := b38 k hk; have := l43 k e; omega
  replace R33 := R33.chg k41 (fun _ _ h => h)
  replace hT := hT.trans' k41 (fun _ h _ => h.elim)
  refine l_pure v44 rfl (fun _ => rfl) ?_
  refine l_nil ?_
  refine x_then ?_
  refine c_seq ?_
  refine c_seq ?_
  refine c_reg ?_
  refine l_pure v44 rfl (fun _ => rfl) ?_
  refine l_pure (.agg #[.string ⟨#[102]⟩, .int .i64 8, .bool false]) rfl (fun _ => by kernel_rfl) ?_
  refine l_pure (.agg #[.string ⟨#[109, 97, 105, 110]⟩, .int .i64 1, .bool false]) rfl (fun _ => by kernel_rfl) ?_
  refine l_buildSlice rfl [(0, .agg #[.string ⟨#[102]⟩, .int .i64 8, .bool false]), (1, .agg #[.string ⟨#[109, 97, 105, 110]⟩, .int .i64 1, .bool false])] 58 #[.string ⟨#[102]⟩, .int .i64 8, .bool false, .string ⟨#[109, 97, 105, 110]⟩, .int .i64 1, .bool false] rfl rfl (by kernel_rfl) (fun g49 H50 n51 => ?_)
  have e52 := n51.at_; have e53 := n51.size
  have d54 : ∀ k, fp32 k → ¬ (k = g49) := fun k hk e => by have := b38 k hk; omega
  replace R33 := R33.chg (n51.chg fun _ => False) (fun _ _ h => h)
  replace S42 := S42.chg (n51.chg fun _ => False) (fun _ _ h => h)
  replace hT := hT.trans' (n51.chg fun _ => False) (fun _ h _ => h.elim)
  have B48 := n51.is
  refine l_call rfl [v44, (.slice (some ⟨g49, 0, none⟩) 2 2)] rfl rfl (by kernel_rfl) (places_ok _ v44 (.slice (some ⟨g49, 0, none⟩) 2 2) [(⟨⟨#[102]⟩, 8, false⟩ : Pl), (⟨⟨#[109, 97, 105, 110]⟩, 1, false⟩ : Pl)] [(⟨⟨#[102]⟩, 8, false⟩ : Pl), (⟨⟨#[109, 97, 105, 110]⟩, 1, false⟩ : Pl)] S42.sl ((Ow.lit PlT_ok [(⟨⟨#[102]⟩, 8, false⟩ : Pl), (⟨⟨#[109, 97, 105, 110]⟩, 1, false⟩ : Pl)] B48 rfl rfl (by simp)).sl)) ?_
  rintro v57 H55 ⟨hv58, k56⟩
  obtain rfl : v57 = .bool true := hv58.trans (congrArg Value.bool (decide_eq_true rfl))
  have e59 := k56.size
  replace R33 := R33.chg k56 (fun _ _ h => h)
  replace S42 := S42.chg k56 (fun _ _ h => h)
  replace B48 := k56.get B48 (fun h => h)
  replace hT := hT.trans' k56 (fun _ h _ => h.elim)
  refine l_pure (.bool false) rfl (fun _ => rfl) ?_
  refine l_pure (.bool false) rfl (fun _ => rfl) ?_
  refine l_pure (.pointer (some ⟨b6, 0, none⟩)) rfl (fun _ => rfl) ?_
  refine l_pure (.agg #[.string ⟨#[103]⟩, .int .i64 0, .int .i64 0, .int .i64 0, .int .i64 0, .bool false]) rfl (fun _ => by kernel_rfl) ?_
  refine l_call rfl [.pointer (some ⟨b6, 0, none⟩), .agg #[.string ⟨#[103]⟩, .int .i64 0, .int .i64 0, .int .i64 0, .int .i64 0, .bool false]] rfl rfl (by kernel_rfl) (repl_ok (⟨⟨#[103]⟩, 0, 0, 0, 0, false⟩ : Fr) _ b6 [(⟨⟨#[109, 97, 105, 110]⟩, 1, 0, 0, 0, false⟩ : Fr), (⟨⟨#[102]⟩, 8, 0, 0, 0, false⟩ : Fr)] _ R33) ?_
  rintro v65 H60 ⟨hv66, fp62, R63, k61, u64⟩
  obtain rfl : v65 = .int .i64 0 := hv66.trans rfl
  replace R63 : FS H60 b6 [(⟨⟨#[109, 97, 105, 110]⟩, 1, 0, 0, 0, false⟩ : Fr), (⟨⟨#[103]⟩, 0, 0, 0, 0, true⟩ : Fr)] fp62 := R63
  have e67 := k61.size
  have d68 : ∀ k, fp62 k → ¬ (blk v44 = some k) := fun k hk e => (u64 k hk).elim (fun h => (fun k hk e => d47 k hk e) k h e) (fun h => by have := S42.lt e; omega)
  have d69 : ∀ k, fp62 k → ¬ (k = g49) := fun k hk e => (u64 k hk).elim (fun h => (fun k hk e => d54 k hk e) k h e) (fun h => by have := lt_of_some B48; omega)
  have b70 : ∀ k, fp62 k → k < H60.size := fun k hk => R63.lt hk
  replace S42 := S42.chg k61 (fun k hk e => (fun k hk e => d47 k hk e) k e hk)
  replace B48 := k61.get B48 (fun e => (fun k hk e => d54 k hk e) _ e rfl)
  replace hT := hT.trans' k61 o39
  have o71 : ∀ k, fp62 k → k < H.size → (fun _ => False) k := fun k hk hl => (u64 k hk).elim (fun h => o39 k h hl) (fun h => by exfalso; omega)
  refine l_cmp rfl .i64 0 0 false rfl rfl rfl rfl ?_
  refine l_pure (.bool false) rfl (fun _ => rfl) ?_
  refine l_pure (.bool false) rfl (fun _ => rfl) ?_
  refine l_pure (.pointer (some ⟨b6, 0, none⟩)) rfl (fun _ => rfl) ?_
  refine l_call rfl [.pointer (some ⟨b6, 0, none⟩)] rfl rfl (by kernel_rfl) (depth_ok _ b6 [(⟨⟨#[109, 97, 105, 110]⟩, 1, 0, 0, 0, false⟩ : Fr), (⟨⟨#[103]⟩, 0, 0, 0, 0, true⟩ : Fr)] _ R63) ?_
  rintro v74 H72 ⟨hv75, k73⟩
  obtain rfl : v74 = .int .i64 2 := hv75.trans rfl
  have e76 := k73.size
  replace S42 := S42.chg k73 (fun _ _ h => h)
  replace B48 := k73.get B48 (fun h => h)
  replace R63 := R63.chg k73 (fun _ _ h => h)
  replace hT := hT.trans' k73 (fun _ h _ => h.elim)
  refine l_cmp rfl .i64 2 2 false rfl rfl rfl rfl ?_
  refine l_pure (.bool false) rfl (fun _ => rfl) ?_
  refine l_nil ?_
  refine x_then ?_
  refine c_false rfl rfl ?_
  refine c_skip ?_
  refine x_then ?_
  refine c_seq ?_
  refine c_reg ?_
  refine l_pure (.pointer (some ⟨b6, 0, none⟩)) rfl (fun _ => rfl) ?_
  refine l_call rfl [.pointer (some ⟨b6, 0, none⟩)] rfl rfl (by kernel_rfl) (pop_ok _ b6 [(⟨⟨#[109, 97, 105, 110]⟩, 1, 0, 0, 0, false⟩ : Fr), (⟨⟨#[103]⟩, 0, 0, 0, 0, true⟩ : Fr)] _ R63) ?_
  rintro v82 H77 ⟨hv83, fp79, R80, k78, u81⟩
  obtain rfl : v82 = .tuple #[.agg #[.string ⟨#[103]⟩, .int .i64 0, .int .i64 0, .int .i64 0, .int .i64 0, .bool true], .bool true] := hv83.trans rfl
  replace R80 : FS H77 b6 [(⟨⟨#[109, 97, 105, 110]⟩, 1, 0, 0, 0, false⟩ : Fr)] fp79 := R80
  have e84 := k78.size
  have d85 : ∀ k, fp79 k → ¬ (blk v44 = some k) := fun k hk e => (u81 k hk).elim (fun h => (fun k hk e => d68 k hk e) k h e) (fun h => by have := S42.lt e; omega)
  have d86 : ∀ k, fp79 k → ¬ (k = g49) := fun k hk e => (u81 k hk).elim (fun h => (fun k hk e => d69 k hk e) k h e) (fun h => by have := lt_of_some B48; omega)
  have b87 : ∀ k, fp79 k → k < H77.size := fun k hk => R80.lt hk
  replace S42 := S42.chg k78 (fun k hk e => (fun k hk e => d68 k hk e) k e hk)
  replace B48 := k78.get B48 (fun e => (fun k hk e => d69 k hk e) _ e rfl)
  replace hT := hT.trans' k78 o71
  have o88 : ∀ k, fp79 k → k < H.size → (fun _ => False) k := fun k hk hl => (u81 k hk).elim (fun h => o71 k h hl) (fun h => by exfalso; omega)
  refine l_pure (.tuple #[.agg #[.string ⟨#[103]⟩, .int .i64 0, .int .i64 0, .int .i64 0, .int .i64 0, .bool true], .bool true]) rfl (fun _ => rfl) ?_
  refine l_pure (.agg #[.string ⟨#[103]⟩, .int .i64 0, .int .i64 0, .int .i64 0, .int .i64 0, .bool true]) rfl (fun _ => rfl) ?_
  refine l_pure (.bool true) rfl (fun _ => rfl) ?_
  refine l_alloc rfl (.agg #[.string ByteArray.empty, .int .i64 0, .int .i64 0, .int .i64 0, .int .i64 0, .bool false]) #[.string ByteArray.empty, .int .i64 0, .int .i64 0, .int .i64 0, .int .i64 0, .bool false] rfl (fun _ => by kernel_rfl) rfl (fun g90 H91 n92 => ?_)
  have e93 := n92.at_; have e94 := n92.size
  have d95 : ∀ k, fp79 k → ¬ (k = g90) := fun k hk e => by have := b87 k hk; omega
  replace S42 := S42.chg (n92.chg fun _ => False) (fun _ _ h => h)
  replace B48 := (n92.chg fun _ => False).get B48 (fun h => h)
  replace R80 := R80.chg (n92.chg fun _ => False) (fun _ _ h => h)
  replace hT := hT.trans' (n92.chg fun _ => False) (fun _ h _ => h.elim)
  have B89 := n92.is
  refine l_store rfl g90 0 6 #[.string ByteArray.empty, .int .i64 0, .int .i64 0, .int .i64 0, .int .i64 0, .bool false] #[.string ⟨#[103]⟩, .int .i64 0, .int .i64 0, .int .i64 0, .int .i64 0, .bool true] _ (.agg #[.string ⟨#[103]⟩, .int .i64 0, .int .i64 0, .int .i64 0, .int .i64 0, .bool true]) rfl rfl rfl (by kernel_rfl) B89 rfl rfl rfl rfl (fun H96 q97 => ?_)
  have e98 := q97.size
  replace S42 := S42.chg q97.chg (fun k hk e => by have := s46 k hk; omega)
  replace B48 := q97.chg.get B48 (fun e => by omega)
  replace R80 := R80.chg q97.chg (fun k hk e => d95 k hk e)
  replace hT := hT.trans' q97.chg (fun i (e : i = g90) hl => by exfalso; omega)
  have B99 := q97.is
  refine l_pure (.bool true) rfl (fun _ => rfl) ?_
  refine l_nil ?_
  refine x_then ?_
  refine c_seq ?_
  refine c_reg ?_
  refine l_call rfl [.int .i64 1] rfl rfl (by kernel_rfl) (num_ok 1 _) ?_
  rintro _ H100 ⟨rfl, k101⟩
  have e102 := k101.size
  replace S42 := S42.chg k101 (fun _ _ h => h)
  replace B48 := k101.get B48 (fun h => h)
  replace R80 := R80.chg k101 (fun _ _ h => h)
  replace B99 := k101.get B99 (fun h => h)
  replace hT := hT.trans' k101 (fun _ h _ => h.elim)
  refine l_call rfl [.int .i64 2] rfl rfl (by kernel_rfl) (num_ok 2 _) ?_
  rintro _ H103 ⟨rfl, k104⟩
  have e105 := k104.size
  replace S42 := S42.chg k104 (fun _ _ h => h)
  replace B48 := k104.get B48 (fun h => h)
  replace R80 := R80.chg k104 (fun _ _ h => h)
  replace B99 := k104.get B99 (fun h => h)
  replace hT := hT.trans' k104 (fun _ h _ => h.elim)
  refine l_call rfl [.int .i64 3] rfl rfl (by kernel_rfl) (num_ok 3 _) ?_
  rintro _ H106 ⟨rfl, k107⟩
  have e108 := k107.size
  replace S42 := S42.chg k107 (fun _ _ h => h)
  replace B48 := k107.get B48 (fun h => h)
  replace R80 := R80.chg k107 (fun _ _ h => h)
  replace B99 := k107.get B99 (fun h => h)
  replace hT := hT.trans' k107 (fun _ h _ => h.elim)
  refine l_buildSlice rfl [(0, .agg #[.int .i64 2, .int .i64 1, .int .i64 1, .string ByteArray.empty, .int .i64 0]), (1, .agg #[.int .i64 2, .int .i64 2, .int .i64 1, .string ByteArray.empty, .int .i64 0]), (2, .agg #[.int .i64 2, .int .i64 3, .int .i64 1, .string ByteArray.empty, .int .i64 0])] 54 #[.int .i64 2, .int .i64 1, .int .i64 1, .string ByteArray.empty, .int .i64 0, .int .i64 2, .int .i64 2, .int .i64 1, .string ByteArray.empty, .int .i64 0, .int .i64 2, .int .i64 3, .int .i64 1, .string ByteArray.empty, .int .i64 0] rfl rfl (by kernel_rfl) (fun g110 H111 n112 => ?_)
  have e113 := n112.at_; have e114 := n112.size
  have d115 : ∀ k, fp79 k → ¬ (k = g110) := fun k hk e => by have := b87 k hk; omega
  replace S42 := S42.chg (n112.chg fun _ => False) (fun _ _ h => h)
  replace B48 := (n112.chg fun _ => False).get B48 (fun h => h)
  replace R80 := R80.chg (n112.chg fun _ => False) (fun _ _ h => h)
  replace B99 := (n112.chg fun _ => False).get B99 (fun h => h)
  replace hT := hT.trans' (n112.chg fun _ => False) (fun _ h _ => h.elim)
  have B109 := n112.is
  refine l_call rfl [(.slice (some ⟨g110, 0, none⟩) 3 3), .int .i64 1, .bool true] rfl rfl (by kernel_rfl) (enter_ok _ (.slice (some ⟨g110, 0, none⟩) 3 3) [(numV 1), (numV 2), (numV 3)] 1 true ((Ow.lit VlT_ok [(numV 1), (numV 2), (numV 3)] B109 rfl rfl (by simp)).sl) (by first | omega | decide | (simp; done) | (simp; omega))) ?_
  rintro _ H116 ⟨v118, v119, rfl, ⟨S120, l122⟩, ⟨S121, l123⟩, k117⟩
  replace S120 : Ow H116 VlT v118 [numV 1] := S120
  replace S121 : Ow H116 VlT v119 [numV 2, numV 3] := S121
  have e124 := k117.size
  have s125 : ∀ k, blk v118 = some k → k ≠ g49 ∧ k ≠ g90 ∧ k ≠ g110 ∧ H111.size ≤ k ∧ k < H116.size := fun k hk => by have := lt_of_some B48; have := lt_of_some B99; have := lt_of_some B109; have := l122 k hk; have := S120.lt hk; omega
  have d126 : ∀ k, fp79 k → ¬ (blk v118 = some k) := fun k hk e => by have := b87 k hk; have := l122 k e; omega
  have s127 : ∀ k, blk v119 = some k → k ≠ g49 ∧ k ≠ g90 ∧ k ≠ g110 ∧ H111.size ≤ k ∧ k < H116.size := fun k hk => by have := lt_of_some B48; have := lt_of_some B99; have := lt_of_some B109; have := l123 k hk; have := S121.lt hk; omega
  have d128 : ∀ k, fp79 k → ¬ (blk v119 = some k) := fun k hk e => by have := b87 k hk; have := l123 k e; omega
  replace S42 := S42.chg k117 (fun _ _ h => h)
  replace B48 := k117.get B48 (fun h => h)
  replace R80 := R80.chg k117 (fun _ _ h => h)
  replace B99 := k117.get B99 (fun h => h)
  replace B109 := k117.get B109 (fun h => h)
  replace hT := hT.trans' k117 (fun _ h _ => h.elim)
  refine l_pure (.tuple #[v118, v119]) rfl (fun _ => rfl) ?_
  refine l_pure v118 rfl (fun _ => rfl) ?_
  refine l_pure v119 rfl (fun _ => rfl) ?_
  refine l_pure v118 rfl (fun _ => rfl) ?_
  refine l_pure v119 rfl (fun _ => rfl) ?_
  refine l_nil ?_
  refine x_then ?_
  refine c_seq ?_
  refine c_reg ?_
  refine l_pure (.bool true) rfl (fun _ => rfl) ?_
  refine l_pure (.bool true) rfl (fun _ => rfl) ?_
  refine l_loadA rfl g90 0 6 #[.string ⟨#[103]⟩, .int .i64 0, .int .i64 0, .int .i64 0, .int .i64 0, .bool true] _ _ #[.string ⟨#[103]⟩, .int .i64 0, .int .i64 0, .int .i64 0, .int .i64 0, .bool true] rfl rfl (by kernel_rfl) B99 rfl rfl ?_
  refine l_pure (.agg #[.string ⟨#[103]⟩, .int .i64 0, .int .i64 0, .int .i64 0, .int .i64 0, .bool true]) rfl (fun _ => by kernel_rfl) ?_
  refine l_eqS rfl #[.string ⟨#[103]⟩, .int .i64 0, .int .i64 0, .int .i64 0, .int .i64 0, .bool true] #[.string ⟨#[103]⟩, .int .i64 0, .int .i64 0, .int .i64 0, .int .i64 0, .bool true] true rfl rfl rfl (by kernel_rfl) (fun w => ((eq46 (⟨⟨#[103]⟩, 0, 0, 0, 0, true⟩ : Fr) (⟨⟨#[103]⟩, 0, 0, 0, 0, true⟩ : Fr) w).1).trans (congrArg (fun z => Result.ok (Value.bool (z)) w) (decide_eq_true (show (⟨⟨#[103]⟩, 0, 0, 0, 0, true⟩ : Fr) = (⟨⟨#[103]⟩, 0, 0, 0, 0, true⟩ : Fr) from rfl)))) ?_
  refine l_pure (.bool true) rfl (fun _ => rfl) ?_
  refine l_pure (.bool true) rfl (fun _ => rfl) ?_
  refine l_pure v118 rfl (fun _ => rfl) ?_
  refine l_call rfl [.int .i64 1] rfl rfl (by kernel_rfl) (num_ok 1 _) ?_
  rintro _ H129 ⟨rfl, k130⟩
  have e131 := k130.size
  replace S42 := S42.chg k130 (fun _ _ h => h)
  replace B48 := k130.get B48 (fun h => h)
  replace R80 := R80.chg k130 (fun _ _ h => h)
  replace B99 := k130.get B99 (fun h => h)
  replace B109 := k130.get B109 (fun h => h)
  replace S120 := S120.chg k130 (fun _ _ h => h)
  replace S121 := S121.chg k130 (fun _ _ h => h)
  replace hT := hT.trans' k130 (fun _ h _ => h.elim)
  refine l_buildSlice rfl [(0, .agg #[.int .i64 2, .int .i64 1, .int .i64 1, .string ByteArray.empty, .int .i64 0])] 54 #[.int .i64 2, .int .i64 1, .int .i64 1, .string ByteArray.empty, .int .i64 0] rfl rfl (by kernel_rfl) (fun g133 H134 n135 => ?_)
  have e136 := n135.at_; have e137 := n135.size
  have d138 : ∀ k, fp79 k → ¬ (k = g133) := fun k hk e => by have := b87 k hk; omega
  replace S42 := S42.chg (n135.chg fun _ => False) (fun _ _ h => h)
  replace B48 := (n135.chg fun _ => False).get B48 (fun h => h)
  replace R80 := R80.chg (n135.chg fun _ => False) (fun _ _ h => h)
  replace B99 := (n135.chg fun _ => False).get B99 (fun h => h)
  replace B109 := (n135.chg fun _ => False).get B109 (fun h => h)
  replace S120 := S120.chg (n135.chg fun _ => False) (fun _ _ h => h)
  replace S121 := S121.chg (n135.chg fun _ => False) (fun _ _ h => h)
  replace hT := hT.trans' (n135.chg fun _ => False) (fun _ h _ => h.elim)
  have B132 := n135.is
  refine l_call rfl [v118, (.slice (some ⟨g133, 0, none⟩) 1 1)] rfl rfl (by kernel_rfl) (values_ok _ v118 (.slice (some ⟨g133, 0, none⟩) 1 1) [numV 1] [(numV 1)] S120.sl ((Ow.lit VlT_ok [(numV 1)] B132 rfl rfl (by simp)).sl)) ?_
  rintro v141 H139 ⟨hv142, k140⟩
  obtain rfl : v141 = .bool true := hv142.trans (congrArg Value.bool (decide_eq_true rfl))
  have e143 := k140.size
  replace S42 := S42.chg k140 (fun _ _ h => h)
  replace B48 := k140.get B48 (fun h => h)
  replace R80 := R80.chg k140 (fun _ _ h => h)
  replace B99 := k140.get B99 (fun h => h)
  replace B109 := k140.get B109 (fun h => h)
  replace S120 := S120.chg k140 (fun _ _ h => h)
  replace S121 := S121.chg k140 (fun _ _ h => h)
  replace B132 := k140.get B132 (fun h => h)
  replace hT := hT.trans' k140 (fun _ h _ => h.elim)
  refine l_pure (.bool true) rfl (fun _ => rfl) ?_
  refine l_pure (.bool true) rfl (fun _ => rfl) ?_
  refine l_pure v119 rfl (fun _ => rfl) ?_
  refine l_call rfl [.int .i64 2] rfl rfl (by kernel_rfl) (num_ok 2 _) ?_
  rintro _ H144 ⟨rfl, k145⟩
  have e146 := k145.size
  replace S42 := S42.chg k145 (fun _ _ h => h)
  replace B48 := k145.get B48 (fun h => h)
  replace R80 := R80.chg k145 (fun _ _ h => h)
  replace B99 := k145.get B99 (fun h => h)
  replace B109 := k145.get B109 (fun h => h)
  replace S120 := S120.chg k145 (fun _ _ h => h)
  replace S121 := S121.chg k145 (fun _ _ h => h)
  replace B132 := k145.get B132 (fun h => h)
  replace hT := hT.trans' k145 (fun _ h _ => h.elim)
  refine l_call rfl [.int .i64 3] rfl rfl (by kernel_rfl) (num_ok 3 _) ?_
  rintro _ H147 ⟨rfl, k148⟩
  have e149 := k148.size
  replace S42 := S42.chg k148 (fun _ _ h => h)
  replace B48 := k148.get B48 (fun h => h)
  replace R80 := R80.chg k148 (fun _ _ h => h)
  replace B99 := k148.get B99 (fun h => h)
  replace B109 := k148.get B109 (fun h => h)
  replace S120 := S120.chg k148 (fun _ _ h => h)
  replace S121 := S121.chg k148 (fun _ _ h => h)
  replace B132 := k148.get B132 (fun h => h)
  replace hT := hT.trans' k148 (fun _ h _ => h.elim)
  refine l_buildSlice rfl [(0, .agg #[.int .i64 2, .int .i64 2, .int .i64 1, .string ByteArray.empty, .int .i64 0]), (1, .agg #[.int .i64 2, .int .i64 3, .int .i64 1, .string ByteArray.empty, .int .i64 0])] 54 #[.int .i64 2, .int .i64 2, .int .i64 1, .string ByteArray.empty, .int .i64 0, .int .i64 2, .int .i64 3, .int .i64 1, .string ByteArray.empty, .int .i64 0] rfl rfl (by kernel_rfl) (fun g151 H152 n153 => ?_)
  have e154 := n153.at_; have e155 := n153.size
  have d156 : ∀ k, fp79 k → ¬ (k = g151) := fun k hk e => by have := b87 k hk; omega
  replace S42 := S42.chg (n153.chg fun _ => False) (fun _ _ h => h)
  replace B48 := (n153.chg fun _ => False).get B48 (fun h => h)
  replace R80 := R80.chg (n153.chg fun _ => False) (fun _ _ h => h)
  replace B99 := (n153.chg fun _ => False).get B99 (fun h => h)
  replace B109 := (n153.chg fun _ => False).get B109 (fun h => h)
  replace S120 := S120.chg (n153.chg fun _ => False) (fun _ _ h => h)
  replace S121 := S121.chg (n153.chg fun _ => False) (fun _ _ h => h)
  replace B132 := (n153.chg fun _ => False).get B132 (fun h => h)
  replace hT := hT.trans' (n153.chg fun _ => False) (fun _ h _ => h.elim)
  have B150 := n153.is
  refine l_call rfl [v119, (.slice (some ⟨g151, 0, none⟩) 2 2)] rfl rfl (by kernel_rfl) (values_ok _ v119 (.slice (some ⟨g151, 0, none⟩) 2 2) [numV 2, numV 3] [(numV 2), (numV 3)] S121.sl ((Ow.lit VlT_ok [(numV 2), (numV 3)] B150 rfl rfl (by simp)).sl)) ?_
  rintro v159 H157 ⟨hv160, k158⟩
  obtain rfl : v159 = .bool true := hv160.trans (congrArg Value.bool (decide_eq_true rfl))
  have e161 := k158.size
  replace S42 := S42.chg k158 (fun _ _ h => h)
  replace B48 := k158.get B48 (fun h => h)
  replace R80 := R80.chg k158 (fun _ _ h => h)
  replace B99 := k158.get B99 (fun h => h)
  replace B109 := k158.get B109 (fun h => h)
  replace S120 := S120.chg k158 (fun _ _ h => h)
  replace S121 := S121.chg k158 (fun _ _ h => h)
  replace B132 := k158.get B132 (fun h => h)
  replace B150 := k158.get B150 (fun h => h)
  replace hT := hT.trans' k158 (fun _ h _ => h.elim)
  refine l_pure (.bool true) rfl (fun _ => rfl) ?_
  refine l_pure (.bool true) rfl (fun _ => rfl) ?_
  refine l_call rfl [.int .i64 7] rfl rfl (by kernel_rfl) (num_ok 7 _) ?_
  rintro _ H162 ⟨rfl, k163⟩
  have e164 := k163.size
  replace S42 := S42.chg k163 (fun _ _ h => h)
  replace B48 := k163.get B48 (fun h => h)
  replace R80 := R80.chg k163 (fun _ _ h => h)
  replace B99 := k163.get B99 (fun h => h)
  replace B109 := k163.get B109 (fun h => h)
  replace S120 := S120.chg k163 (fun _ _ h => h)
  replace S121 := S121.chg k163 (fun _ _ h => h)
  replace B132 := k163.get B132 (fun h => h)
  replace B150 := k163.get B150 (fun h => h)
  replace hT := hT.trans' k163 (fun _ h _ => h.elim)
  refine l_call rfl [.int .i64 8] rfl rfl (by kernel_rfl) (num_ok 8 _) ?_
  rintro _ H165 ⟨rfl, k166⟩
  have e167 := k166.size
  replace S42 := S42.chg k166 (fun _ _ h => h)
  replace B48 := k166.get B48 (fun h => h)
  replace R80 := R80.chg k166 (fun _ _ h => h)
  replace B99 := k166.get B99 (fun h => h)
  replace B109 := k166.get B109 (fun h => h)
  replace S120 := S120.chg k166 (fun _ _ h => h)
  replace S121 := S121.chg k166 (fun _ _ h => h)
  replace B132 := k166.get B132 (fun h => h)
  replace B150 := k166.get B150 (fun h => h)
  replace hT := hT.trans' k166 (fun _ h _ => h.elim)
  refine l_buildSlice rfl [(0, .agg #[.int .i64 2, .int .i64 7, .int .i64 1, .string ByteArray.empty, .int .i64 0]), (1, .agg #[.int .i64 2, .int .i64 8, .int .i64 1, .string ByteArray.empty, .int .i64 0])] 54 #[.int .i64 2, .int .i64 7, .int .i64 1, .string ByteArray.empty, .int .i64 0, .int .i64 2, .int .i64 8, .int .i64 1, .string ByteArray.empty, .int .i64 0] rfl rfl (by kernel_rfl) (fun g169 H170 n171 => ?_)
  have e172 := n171.at_; have e173 := n171.size
  have d174 : ∀ k, fp79 k → ¬ (k = g169) := fun k hk e => by have := b87 k hk; omega
  replace S42 := S42.chg (n171.chg fun _ => False) (fun _ _ h => h)
  replace B48 := (n171.chg fun _ => False).get B48 (fun h => h)
  replace R80 := R80.chg (n171.chg fun _ => False) (fun _ _ h => h)
  replace B99 := (n171.chg fun _ => False).get B99 (fun h => h)
  replace B109 := (n171.chg fun _ => False).get B109 (fun h => h)
  replace S120 := S120.chg (n171.chg fun _ => False) (fun _ _ h => h)
  replace S121 := S121.chg (n171.chg fun _ => False) (fun _ _ h => h)
  replace B132 := (n171.chg fun _ => False).get B132 (fun h => h)
  replace B150 := (n171.chg fun _ => False).get B150 (fun h => h)
  replace hT := hT.trans' (n171.chg fun _ => False) (fun _ h _ => h.elim)
  have B168 := n171.is
  refine l_call rfl [(.slice (some ⟨g169, 0, none⟩) 2 2), .int .i64 3] rfl rfl (by kernel_rfl) (fit_ok _ (.slice (some ⟨g169, 0, none⟩) 2 2) [(numV 7), (numV 8)] 3 ((Ow.lit VlT_ok [(numV 7), (numV 8)] B168 rfl rfl (by simp)).sl) (by first | omega | decide | (simp; done) | (simp; omega))) ?_
  rintro v179 H175 ⟨S177, k176, l178⟩
  replace S177 : Ow H175 VlT v179 [numV 7, numV 8, zVl] := S177
  have e180 := k176.size
  have s181 : ∀ k, blk v179 = some k → k ≠ g49 ∧ k ≠ g90 ∧ k ≠ g110 ∧ k ≠ g133 ∧ k ≠ g151 ∧ k ≠ g169 ∧ H170.size ≤ k ∧ k < H175.size := fun k hk => by have := lt_of_some B48; have := lt_of_some B99; have := lt_of_some B109; have := lt_of_some B132; have := lt_of_some B150; have := lt_of_some B168; have := l178 k hk; have := S177.lt hk; omega
  have d182 : ∀ k, fp79 k → ¬ (blk v179 = some k) := fun k hk e => by have := b87 k hk; have := l178 k e; omega
  replace S42 := S42.chg k176 (fun _ _ h => h)
  replace B48 := k176.get B48 (fun h => h)
  replace R80 := R80.chg k176 (fun _ _ h => h)
  replace B99 := k176.get B99 (fun h => h)
  replace B109 := k176.get B109 (fun h => h)
  replace S120 := S120.chg k176 (fun _ _ h => h)
  replace S121 := S121.chg k176 (fun _ _ h => h)
  replace B132 := k176.get B132 (fun h => h)
  replace B150 := k176.get B150 (fun h => h)
  replace B168 := k176.get B168 (fun h => h)
  replace hT := hT.trans' k176 (fun _ h _ => h.elim)
  refine l_call rfl [.int .i64 7] rfl rfl (by kernel_rfl) (num_ok 7 _) ?_
  rintro _ H183 ⟨rfl, k184⟩
  have e185 := k184.size
  replace S42 := S42.chg k184 (fun _ _ h => h)
  replace B48 := k184.get B48 (fun h => h)
  replace R80 := R80.chg k184 (fun _ _ h => h)
  replace B99 := k184.get B99 (fun h => h)
  replace B109 := k184.get B109 (fun h => h)
  replace S120 := S120.chg k184 (fun _ _ h => h)
  replace S121 := S121.chg k184 (fun _ _ h => h)
  replace B132 := k184.get B132 (fun h => h)
  replace B150 := k184.get B150 (fun h => h)
  replace B168 := k184.get B168 (fun h => h)
  replace S177 := S177.chg k184 (fun _ _ h => h)
  replace hT := hT.trans' k184 (fun _ h _ => h.elim)
  refine l_call rfl [.int .i64 8] rfl rfl (by kernel_rfl) (num_ok 8 _) ?_
  rintro _ H186 ⟨rfl, k187⟩
  have e188 := k187.size
  replace S42 := S42.chg k187 (fun _ _ h => h)
  replace B48 := k187.get B48 (fun h => h)
  replace R80 := R80.chg k187 (fun _ _ h => h)
  replace B99 := k187.get B99 (fun h => h)
  replace B109 := k187.get B109 (fun h => h)
  replace S120 := S120.chg k187 (fun _ _ h => h)
  replace S121 := S121.chg k187 (fun _ _ h => h)
  replace B132 := k187.get B132 (fun h => h)
  replace B150 := k187.get B150 (fun h => h)
  replace B168 := k187.get B168 (fun h => h)
  replace S177 := S177.chg k187 (fun _ _ h => h)
  replace hT := hT.trans' k187 (fun _ h _ => h.elim)
  refine l_pure (.agg #[.int .i64 0, .int .i64 0, .int .i64 0, .string ByteArray.empty, .int .i64 0]) rfl (fun _ => by kernel_rfl) ?_
  refine l_buildSlice rfl [(0, .agg #[.int .i64 2, .int .i64 7, .int .i64 1, .string ByteArray.empty, .int .i64 0]), (1, .agg #[.int .i64 2, .int .i64 8, .int .i64 1, .string ByteArray.empty, .int .i64 0]), (2, .agg #[.int .i64 0, .int .i64 0, .int .i64 0, .string ByteArray.empty, .int .i64 0])] 54 #[.int .i64 2, .int .i64 7, .int .i64 1, .string ByteArray.empty, .int .i64 0, .int .i64 2, .int .i64 8, .int .i64 1, .string ByteArray.empty, .int .i64 0, .int .i64 0, .int .i64 0, .int .i64 0, .string ByteArray.empty, .int .i64 0] rfl rfl (by kernel_rfl) (fun g190 H191 n192 => ?_)
  have e193 := n192.at_; have e194 := n192.size
  have d195 : ∀ k, fp79 k → ¬ (k = g190) := fun k hk e => by have := b87 k hk; omega
  replace S42 := S42.chg (n192.chg fun _ => False) (fun _ _ h => h)
  replace B48 := (n192.chg fun _ => False).get B48 (fun h => h)
  replace R80 := R80.chg (n192.chg fun _ => False) (fun _ _ h => h)
  replace B99 := (n192.chg fun _ => False).get B99 (fun h => h)
  replace B109 := (n192.chg fun _ => False).get B109 (fun h => h)
  replace S120 := S120.chg (n192.chg fun _ => False) (fun _ _ h => h)
  replace S121 := S121.chg (n192.chg fun _ => False) (fun _ _ h => h)
  replace B132 := (n192.chg fun _ => False).get B132 (fun h => h)
  replace B150 := (n192.chg fun _ => False).get B150 (fun h => h)
  replace B168 := (n192.chg fun _ => False).get B168 (fun h => h)
  replace S177 := S177.chg (n192.chg fun _ => False) (fun _ _ h => h)
  replace hT := hT.trans' (n192.chg fun _ => False) (fun _ h _ => h.elim)
  have B189 := n192.is
  refine l_call rfl [v179, (.slice (some ⟨g190, 0, none⟩) 3 3)] rfl rfl (by kernel_rfl) (values_ok _ v179 (.slice (some ⟨g190, 0, none⟩) 3 3) [numV 7, numV 8, zVl] [(numV 7), (numV 8), (⟨0, 0, 0, ByteArray.empty, 0⟩ : Vl)] S177.sl ((Ow.lit VlT_ok [(numV 7), (numV 8), (⟨0, 0, 0, ByteArray.empty, 0⟩ : Vl)] B189 rfl rfl (by simp)).sl)) ?_
  rintro v198 H196 ⟨hv199, k197⟩
  obtain rfl : v198 = .bool true := hv199.trans (congrArg Value.bool (decide_eq_true rfl))
  have e200 := k197.size
  replace S42 := S42.chg k197 (fun _ _ h => h)
  replace B48 := k197.get B48 (fun h => h)
  replace R80 := R80.chg k197 (fun _ _ h => h)
  replace B99 := k197.get B99 (fun h => h)
  replace B109 := k197.get B109 (fun h => h)
  replace S120 := S120.chg k197 (fun _ _ h => h)
  replace S121 := S121.chg k197 (fun _ _ h => h)
  replace B132 := k197.get B132 (fun h => h)
  replace B150 := k197.get B150 (fun h => h)
  replace B168 := k197.get B168 (fun h => h)
  replace S177 := S177.chg k197 (fun _ _ h => h)
  replace B189 := k197.get B189 (fun h => h)
  replace hT := hT.trans' k197 (fun _ h _ => h.elim)
  refine l_pure (.bool true) rfl (fun _ => rfl) ?_
  refine l_pure (.bool true) rfl (fun _ => rfl) ?_
  refine l_nil ?_
  refine x_then ?_
  refine c_ret ?_
  refine x_fin (.bool true) (res_of (vs := [.bool true]) rfl (.cons (.tmp _ (.bool true) rfl rfl) .nil)) ?_
  exact ⟨rfl, hT⟩
end Go.Proofs.Ytikbimlfbcffhaa
