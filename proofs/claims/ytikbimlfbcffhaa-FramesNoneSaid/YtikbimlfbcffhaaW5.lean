/-
  The laws: scripts, Fit, Enter.
-/
import Derived.Test.YtikbimlfbcffhaaW4
set_option linter.unusedSimpArgs false
set_option linter.unusedVariables false
set_option maxRecDepth 100000
namespace Go.Proofs.Ytikbimlfbcffhaa
open Go.Hp Go.J
open Go.Mem (Ty KTy blk elemAt pre suf blk_pre blk_suf aget aset strK)

theorem fits_ok (H : Heap) (lv : Value) (l : List Vl) (n : Int) (hL : Sl H VlT lv l) : HC Try.prog 4 #[lv, .int .i64 n] H fun v H' => v = .bool true ∧ Chg (fun _ => False) H H' := by
  have hL0 := hL
  have sL : ∀ k, blk lv = some k → k < H.size := fun k hk => hL.lt hk
  have lL := hL.len_le
  refine enter Try.func4 rfl 19 rfl rfl [(0, lv), (1, .int .i64 n)] rfl (fun w0 => ?_)
  have hT : Chg (fun _ => False) H H := Chg.refl _ _
  refine c_seq ?_
  refine c_reg ?_
  refine l_pure (.bool false) rfl (fun _ => rfl) ?_
  refine l_nil ?_
  refine x_then ?_
  refine c_seq ?_
  refine c_seq ?_
  refine c_reg ?_
  refine l_pure lv rfl (fun _ => rfl) ?_
  refine l_len rfl VlT_ok Try.underlying36 rfl rfl hL ?_
  refine l_cmp rfl .i64 (l.length : Int) 600 (decide ((600 : Int) < (l.length : Int))) rfl rfl rfl rfl ?_
  refine l_nil ?_
  refine x_then ?_
  refine c_cond (c := (decide ((600 : Int) < (l.length : Int)))) rfl rfl (fun c1 => ?_) (fun c1 => ?_)
  · have p2 := of_decide_eq_true c1
    first
    | (exfalso; omega)
    | (refine c_seq ?_
       refine c_reg ?_
       refine l_call rfl [] rfl rfl (by kernel_rfl) (awake_ok _) ?_
       rintro _ H3 ⟨rfl, k4⟩
       have e5 := k4.size
       replace hL := hL.chg k4 (fun _ _ h => h)
       replace hT := hT.trans' k4 (fun _ h _ => h.elim)
       refine l_pure (.bool true) rfl (fun _ => rfl) ?_
       refine l_nil ?_
       refine x_then ?_
       refine c_ret ?_
       refine x_ret ?_
       refine x_fin (.bool true) (res_of (vs := [.bool true]) rfl (.cons (.tmp _ (.bool true) rfl rfl) .nil)) ?_
       exact ⟨rfl, hT⟩)
  · have p6 := of_decide_eq_false c1
    first
    | (exfalso; omega)
    | (refine c_skip ?_
       refine x_then ?_
       refine c_seq ?_
       refine c_reg ?_
       refine l_pure lv rfl (fun _ => rfl) ?_
       refine l_pure (.int .i64 n) rfl (fun _ => rfl) ?_
       refine l_call rfl [lv, .int .i64 n] rfl rfl (by kernel_rfl) (fit_ok _ lv l n hL (by first | omega | decide | (simp; done) | (simp; omega))) ?_
       rintro v11 H7 ⟨S9, k8, l10⟩
       have e12 := k8.size
       have s13 : ∀ k, blk v11 = some k → H.size ≤ k ∧ k < H7.size := fun k hk => by have := l10 k hk; have := S9.lt hk; omega
       replace hL := hL.chg k8 (fun _ _ h => h)
       replace hT := hT.trans' k8 (fun _ h _ => h.elim)
       refine l_pure lv rfl (fun _ => rfl) ?_
       refine l_pure (.int .i64 n) rfl (fun _ => rfl) ?_
       refine l_call rfl [lv, .int .i64 n] rfl rfl (by kernel_rfl) (rfit_ok _ lv l n hL (by first | omega | decide | (simp; done) | (simp; omega))) ?_
       rintro v18 H14 ⟨S16, k15, l17⟩
       have e19 := k15.size
       have s20 : ∀ k, blk v18 = some k → H7.size ≤ k ∧ k < H14.size := fun k hk => by have := l17 k hk; have := S16.lt hk; omega
       replace hL := hL.chg k15 (fun _ _ h => h)
       replace S9 := S9.chg k15 (fun _ _ h => h)
       replace hT := hT.trans' k15 (fun _ h _ => h.elim)
       refine l_call rfl [v11, v18] rfl rfl (by kernel_rfl) (values_ok _ v11 v18 (fitL l n) (fitL l n) S9.sl S16.sl) ?_
       rintro v23 H21 ⟨hv24, k22⟩
       obtain rfl : v23 = .bool true := hv24.trans (congrArg Value.bool (decide_eq_true rfl))
       have e25 := k22.size
       replace hL := hL.chg k22 (fun _ _ h => h)
       replace S9 := S9.chg k22 (fun _ _ h => h)
       replace S16 := S16.chg k22 (fun _ _ h => h)
       replace hT := hT.trans' k22 (fun _ h _ => h.elim)
       refine l_pure (.bool true) rfl (fun _ => rfl) ?_
       refine l_call rfl [] rfl rfl (by kernel_rfl) (awake_ok _) ?_
       rintro _ H26 ⟨rfl, k27⟩
       have e28 := k27.size
       replace hL := hL.chg k27 (fun _ _ h => h)
       replace S9 := S9.chg k27 (fun _ _ h => h)
       replace S16 := S16.chg k27 (fun _ _ h => h)
       replace hT := hT.trans' k27 (fun _ h _ => h.elim)
       refine l_pure (.bool true) rfl (fun _ => rfl) ?_
       refine l_pure (.bool true) rfl (fun _ => rfl) ?_
       refine l_nil ?_
       refine x_then ?_
       refine c_ret ?_
       refine x_fin (.bool true) (res_of (vs := [.bool true]) rfl (.cons (.tmp _ (.bool true) rfl rfl) .nil)) ?_
       exact ⟨rfl, hT⟩)
theorem enters_ok (H : Heap) (lv : Value) (l : List Vl) (n : Int) (vb : Bool) (hL : Sl H VlT lv l) : HC Try.prog 5 #[lv, .int .i64 n, .bool vb] H fun v H' => v = .bool true ∧ Chg (fun _ => False) H H' := by
  have hL0 := hL
  have sL : ∀ k, blk lv = some k → k < H.size := fun k hk => hL.lt hk
  have lL := hL.len_le
  refine enter Try.func5 rfl 40 rfl rfl [(0, lv), (1, .int .i64 n), (2, .bool vb)] rfl (fun w0 => ?_)
  have hT : Chg (fun _ => False) H H := Chg.refl _ _
  refine c_seq ?_
  refine c_reg ?_
  refine l_pure (.bool false) rfl (fun _ => rfl) ?_
  refine l_nil ?_
  refine x_then ?_
  refine c_seq ?_
  refine c_seq ?_
  refine c_reg ?_
  refine l_pure lv rfl (fun _ => rfl) ?_
  refine l_len rfl VlT_ok Try.underlying36 rfl rfl hL ?_
  refine l_cmp rfl .i64 (l.length : Int) 600 (decide ((600 : Int) < (l.length : Int))) rfl rfl rfl rfl ?_
  refine l_nil ?_
  refine x_then ?_
  refine c_cond (c := (decide ((600 : Int) < (l.length : Int)))) rfl rfl (fun c1 => ?_) (fun c1 => ?_)
  · have p2 := of_decide_eq_true c1
    first
    | (exfalso; omega)
    | (refine c_seq ?_
       refine c_reg ?_
       refine l_call rfl [] rfl rfl (by kernel_rfl) (awake_ok _) ?_
       rintro _ H3 ⟨rfl, k4⟩
       have e5 := k4.size
       replace hL := hL.chg k4 (fun _ _ h => h)
       replace hT := hT.trans' k4 (fun _ h _ => h.elim)
       refine l_pure (.bool true) rfl (fun _ => rfl) ?_
       refine l_nil ?_
       refine x_then ?_
       refine c_ret ?_
       refine x_ret ?_
       refine x_fin (.bool true) (res_of (vs := [.bool true]) rfl (.cons (.tmp _ (.bool true) rfl rfl) .nil)) ?_
       exact ⟨rfl, hT⟩)
  · have p6 := of_decide_eq_false c1
    first
    | (exfalso; omega)
    | (refine c_skip ?_
       refine x_then ?_
       refine c_seq ?_
       refine c_reg ?_
       refine l_pure lv rfl (fun _ => rfl) ?_
       refine l_pure (.int .i64 n) rfl (fun _ => rfl) ?_
       refine l_pure (.bool vb) rfl (fun _ => rfl) ?_
       refine l_call rfl [lv, .int .i64 n, .bool vb] rfl rfl (by kernel_rfl) (enter_ok _ lv l n vb hL (by first | omega | decide | (simp; done) | (simp; omega))) ?_
       rintro _ H7 ⟨v9, v10, rfl, ⟨S11, l13⟩, ⟨S12, l14⟩, k8⟩
       have e15 := k8.size
       have s16 : ∀ k, blk v9 = some k → H.size ≤ k ∧ k < H7.size := fun k hk => by have := l13 k hk; have := S11.lt hk; omega
       have s17 : ∀ k, blk v10 = some k → H.size ≤ k ∧ k < H7.size := fun k hk => by have := l14 k hk; have := S12.lt hk; omega
       replace hL := hL.chg k8 (fun _ _ h => h)
       replace hT := hT.trans' k8 (fun _ h _ => h.elim)
       refine l_pure (.tuple #[v9, v10]) rfl (fun _ => rfl) ?_
       refine l_pure v9 rfl (fun _ => rfl) ?_
       refine l_pure v10 rfl (fun _ => rfl) ?_
       refine l_pure v9 rfl (fun _ => rfl) ?_
       refine l_pure v10 rfl (fun _ => rfl) ?_
       refine l_nil ?_
       refine x_then ?_
       refine c_seq ?_
       refine c_reg ?_
       refine l_pure lv rfl (fun _ => rfl) ?_
       refine l_pure (.int .i64 n) rfl (fun _ => rfl) ?_
       refine l_pure (.bool vb) rfl (fun _ => rfl) ?_
       refine l_call rfl [lv, .int .i64 n, .bool vb] rfl rfl (by kernel_rfl) (renter_ok _ lv l n vb hL (by first | omega | decide | (simp; done) | (simp; omega))) ?_
       rintro _ H18 ⟨v20, v21, rfl, ⟨S22, l24⟩, ⟨S23, l25⟩, k19⟩
       have e26 := k19.size
       have s27 : ∀ k, blk v20 = some k → H7.size ≤ k ∧ k < H18.size := fun k hk => by have := l24 k hk; have := S22.lt hk; omega
       have s28 : ∀ k, blk v21 = some k → H7.size ≤ k ∧ k < H18.size := fun k hk => by have := l25 k hk; have := S23.lt hk; omega
       replace hL := hL.chg k19 (fun _ _ h => h)
       replace S11 := S11.chg k19 (fun _ _ h => h)
       replace S12 := S12.chg k19 (fun _ _ h => h)
       replace hT := hT.trans' k19 (fun _ h _ => h.elim)
       refine l_pure (.tuple #[v20, v21]) rfl (fun _ => rfl) ?_
       refine l_pure v20 rfl (fun _ => rfl) ?_
       refine l_pure v21 rfl (fun _ => rfl) ?_
       refine l_pure v20 rfl (fun _ => rfl) ?_
       refine l_pure v21 rfl (fun _ => rfl) ?_
       refine l_nil ?_
       refine x_then ?_
       refine c_seq ?_
       refine c_reg ?_
       refine l_pure v9 rfl (fun _ => rfl) ?_
       refine l_pure v20 rfl (fun _ => rfl) ?_
       refine l_call rfl [v9, v20] rfl rfl (by kernel_rfl) (values_ok _ v9 v20 (fitL l (par n)) (fitL l (par n)) S11.sl S22.sl) ?_
       rintro v31 H29 ⟨hv32, k30⟩
       obtain rfl : v31 = .bool true := hv32.trans (congrArg Value.bool (decide_eq_true rfl))
       have e33 := k30.size
       replace hL := hL.chg k30 (fun _ _ h => h)
       replace S11 := S11.chg k30 (fun _ _ h => h)
       replace S12 := S12.chg k30 (fun _ _ h => h)
       replace S22 := S22.chg k30 (fun _ _ h => h)
       replace S23 := S23.chg k30 (fun _ _ h => h)
       replace hT := hT.trans' k30 (fun _ h _ => h.elim)
       refine l_pure (.bool true) rfl (fun _ => rfl) ?_
       refine l_pure v10 rfl (fun _ => rfl) ?_
       refine l_pure v21 rfl (fun _ => rfl) ?_
       refine l_call rfl [v10, v21] rfl rfl (by kernel_rfl) (values_ok _ v10 v21 (extraL l n vb) (extraL l n vb) S12.sl S23.sl) ?_
       rintro v36 H34 ⟨hv37, k35⟩
       obtain rfl : v36 = .bool true := hv37.trans (congrArg Value.bool (decide_eq_true rfl))
       have e38 := k35.size
       replace hL := hL.chg k35 (fun _ _ h => h)
       replace S11 := S11.chg k35 (fun _ _ h => h)
       replace S12 := S12.chg k35 (fun _ _ h => h)
       replace S22 := S22.chg k35 (fun _ _ h => h)
       replace S23 := S23.chg k35 (fun _ _ h => h)
       replace hT := hT.trans' k35 (fun _ h _ => h.elim)
       refine l_pure (.bool true) rfl (fun _ => rfl) ?_
       refine l_pure (.bool true) rfl (fun _ => rfl) ?_
       refine l_call rfl [] rfl rfl (by kernel_rfl) (awake_ok _) ?_
       rintro _ H39 ⟨rfl, k40⟩
       have e41 := k40.size
       replace hL := hL.chg k40 (fun _ _ h => h)
       replace S11 := S11.chg k40 (fun _ _ h => h)
       replace S12 := S12.chg k40 (fun _ _ h => h)
       replace S22 := S22.chg k40 (fun _ _ h => h)
       replace S23 := S23.chg k40 (fun _ _ h => h)
       replace hT := hT.trans' k40 (fun _ h _ => h.elim)
       refine l_pure (.bool true) rfl (fun _ => rfl) ?_
       refine l_pure (.bool true) rfl (fun _ => rfl) ?_
       refine l_nil ?_
       refine x_then ?_
       refine c_ret ?_
       refine x_fin (.bool true) (res_of (vs := [.bool true]) rfl (.cons (.tmp _ (.bool true) rfl rfl) .nil)) ?_
       exact ⟨rfl, hT⟩)
theorem runs_ok (H : Heap) (lv : Value) (l : List Opn) (hL : Sl H OpT lv l) : HC Try.prog 3 #[lv] H fun v H' => v = .bool true ∧ Chg (fun _ => False) H H' := by
  have hL0 := hL
  have sL : ∀ k, blk lv = some k → k < H.size := fun k hk => hL.lt hk
  have lL := hL.len_le
  refine enter Try.func3 rfl 43 rfl rfl [(0, lv)] rfl (fun w0 => ?_)
  have hT : Chg (fun _ => False) H H := Chg.refl _ _
  refine c_seq ?_
  refine c_reg ?_
  refine l_pure (.bool false) rfl (fun _ => rfl) ?_
  refine l_nil ?_
  refine x_then ?_
  refine c_seq ?_
  refine c_seq ?_
  refine c_reg ?_
  refine l_pure lv rfl (fun _ => rfl) ?_
  refine l_len rfl OpT_ok Try.underlying22 rfl rfl hL ?_
  refine l_cmp rfl .i64 (l.length : Int) 600 (decide ((600 : Int) < (l.length : Int))) rfl rfl rfl rfl ?_
  refine l_nil ?_
  refine x_then ?_
  refine c_cond (c := (decide ((600 : Int) < (l.length : Int)))) rfl rfl (fun c1 => ?_) (fun c1 => ?_)
  · have p2 := of_decide_eq_true c1
    first
    | (exfalso; omega)
    | (refine c_seq ?_
       refine c_reg ?_
       refine l_call rfl [] rfl rfl (by kernel_rfl) (awake_ok _) ?_
       rintro _ H3 ⟨rfl, k4⟩
       have e5 := k4.size
       replace hL := hL.chg k4 (fun _ _ h => h)
       replace hT := hT.trans' k4 (fun _ h _ => h.elim)
       refine l_pure (.bool true) rfl (fun _ => rfl) ?_
       refine l_nil ?_
       refine x_then ?_
       refine c_ret ?_
       refine x_ret ?_
       refine x_fin (.bool true) (res_of (vs := [.bool true]) rfl (.cons (.tmp _ (.bool true) rfl rfl) .nil)) ?_
       exact ⟨rfl, hT⟩)
  · have p6 := of_decide_eq_false c1
    first
    | (exfalso; omega)
    | (refine c_skip ?_
       refine x_then ?_
       refine c_seq ?_
       refine c_reg ?_
       refine l_call rfl [] rfl rfl (by kernel_rfl) (new_ok _) ?_
       rintro _ H7 ⟨b12, fp9, rfl, R10, k8, l11⟩
       have e13 := k8.size
       have d14 : ∀ k, fp9 k → ¬ (blk lv = some k) := fun k hk e => by have := l11 k hk; have := hL.lt e; omega
       have b15 : ∀ k, fp9 k → k < H7.size := fun k hk => R10.lt hk
       replace hL := hL.chg k8 (fun _ _ h => h)
       replace hT := hT.trans' k8 (fun _ h _ => h.elim)
       have o16 : ∀ k, fp9 k → k < H.size → (fun _ => False) k := fun k hk hl => by exfalso; have := l11 k hk; omega
       refine l_pure (.pointer (some ⟨b12, 0, none⟩)) rfl (fun _ => rfl) ?_
       refine l_nil ?_
       refine x_then ?_
       refine c_seq ?_
       refine c_reg ?_
       refine l_call rfl [] rfl rfl (by kernel_rfl) (rnew_ok _) ?_
       rintro _ H17 ⟨b22, fp19, rfl, R20, k18, l21⟩
       have e23 := k18.size
       have d24 : ∀ k, fp19 k → ¬ (blk lv = some k) := fun k hk e => by have := l21 k hk; have := hL.lt e; omega
       have d25 : ∀ k, fp19 k → ¬ (fp9 k) := fun k hk e => by have := l21 k hk; have := R10.lt e; omega
       have b26 : ∀ k, fp19 k → k < H17.size := fun k hk => R20.lt hk
       replace hL := hL.chg k18 (fun _ _ h => h)
       replace R10 := R10.chg k18 (fun _ _ h => h)
       replace hT := hT.trans' k18 (fun _ h _ => h.elim)
       have o27 : ∀ k, fp19 k → k < H.size → (fun _ => False) k := fun k hk hl => by exfalso; have := l21 k hk; omega
       refine l_pure (.pointer (some ⟨b22, 0, none⟩)) rfl (fun _ => rfl) ?_
       refine l_nil ?_
       refine x_then ?_
       refine c_seq ?_
       refine c_seq ?_
       refine c_reg ?_
       refine l_pure (.pointer (some ⟨b12, 0, none⟩)) rfl (fun _ => rfl) ?_
       refine l_pure (.bool false) rfl (fun _ => rfl) ?_
       refine l_nil ?_
       refine x_then ?_
       refine c_false rfl rfl ?_
       refine c_skip ?_
       refine x_then ?_
       refine c_seq ?_
       refine c_seq ?_
       refine c_reg ?_
       refine l_pure (.int .i64 0) rfl (fun _ => rfl) ?_
       refine l_nil ?_
       refine x_then ?_
       refine c_block ?_
       refine c_loop (ι := Nat) (fun i => [(0, lv), (2, .bool false), (3, .pointer (some ⟨b12, 0, none⟩)), (4, .pointer (some ⟨b22, 0, none⟩)), (5, .int .i64 (i : Int))]) (fun i Hh => ∃ L fp fq, i ≤ l.length ∧ L.length ≤ 150 ∧ FS Hh b12 L fp ∧ RS Hh b22 L fq ∧ (∀ k, fp k → ¬ fq k) ∧ (∀ k, fp k → H.size ≤ k) ∧ (∀ k, fq k → H.size ≤ k) ∧ Chg (fun _ => False) H Hh) (fun i => l.length - i) 0 (sub_of rfl ⟨⟨rfl, rfl⟩, ⟨⟨rfl, rfl⟩, ⟨⟨rfl, rfl⟩, ⟨⟨rfl, rfl⟩, ⟨⟨rfl, rfl⟩, trivial⟩⟩⟩⟩⟩) ⟨[], _, _, by omega, by simp, R10, R20, (fun k hk e => d25 k e hk), (fun k hk => Nat.le_of_not_lt (fun hl => o16 k hk hl)), (fun k hk => Nat.le_of_not_lt (fun hl => o27 k hk hl)), hT⟩ ?_
       rintro i H28 ⟨L, fp, fq, h1, h2, hF, hR, hd, lF, lR, hC⟩
       replace hT := hC
       have eC := hC.size
       have hL := hL0.chg hC (fun _ _ h => h)
       have bF : ∀ k, fp k → k < H28.size := fun k hk => hF.lt hk
       have bR : ∀ k, fq k → k < H28.size := fun k hk => hR.lt hk
       have dF : ∀ k, fp k → ¬ (blk lv = some k) := fun k hk e => by have := lF k hk; have := sL k e; omega
       have dR : ∀ k, fq k → ¬ (blk lv = some k) := fun k hk e => by have := lR k hk; have := sL k e; omega
       have oF : ∀ k, fp k → k < H.size → (fun _ => False) k := fun k hk hl => by exfalso; have := lF k hk; omega
       have oR : ∀ k, fq k → k < H.size → (fun _ => False) k := fun k hk hl => by exfalso; have := lR k hk; omega
       show JC _ _ _ _ _ [(0, lv), (2, .bool false), (3, .pointer (some ⟨b12, 0, none⟩)), (4, .pointer (some ⟨b22, 0, none⟩)), (5, .int .i64 (i : Int))] _
       refine c_seq ?_
       refine c_seq ?_
       refine c_reg ?_
       refine l_pure (.int .i64 (i : Int)) rfl (fun _ => rfl) ?_
       refine l_pure lv rfl (fun _ => rfl) ?_
       refine l_len rfl OpT_ok Try.underlying22 rfl rfl hL ?_
       refine l_cmp rfl .i64 (i : Int) (l.length : Int) (decide ((i : Int) < (l.length : Int))) rfl rfl rfl rfl ?_
       refine l_nil ?_
       refine x_then ?_
       refine c_cond (c := (decide ((i : Int) < (l.length : Int)))) rfl rfl (fun c29 => ?_) (fun c29 => ?_)
       · have p30 := of_decide_eq_true c29
         first
         | (exfalso; omega)
         | (refine c_skip ?_
            refine x_then ?_
            refine c_seq ?_
            refine c_block ?_
            refine c_seq ?_
            refine c_reg ?_
            refine l_pure (.pointer (some ⟨b12, 0, none⟩)) rfl (fun _ => rfl) ?_
            refine l_pure (.pointer (some ⟨b22, 0, none⟩)) rfl (fun _ => rfl) ?_
            refine l_pure lv rfl (fun _ => rfl) ?_
            refine l_pure (.int .i64 (i : Int)) rfl (fun _ => rfl) ?_
            refine l_index rfl OpT_ok Try.underlying22 .i64 (i : Int) rfl rfl rfl hL (by omega) (by omega) i (by omega) ?_
            obtain ⟨y31, hy32⟩ : ∃ y, l[i]? = some y := ⟨_, List.getElem?_eq_getElem (by omega)⟩
            refine l_loadE rfl OpT_ok rfl lv i y31 (.agg #[.int .i64 y31.kind, .int .i64 y31.n, .string y31.name, .int .i64 y31.line, .int .i64 y31.base, .int .i64 y31.extra, .int .i64 y31.want, .bool y31.tail]) l rfl rfl hL hy32 rfl ?_
            refine l_call rfl [.pointer (some ⟨b12, 0, none⟩), .pointer (some ⟨b22, 0, none⟩), .agg #[.int .i64 y31.kind, .int .i64 y31.n, .string y31.name, .int .i64 y31.line, .int .i64 y31.base, .int .i64 y31.extra, .int .i64 y31.want, .bool y31.tail]] rfl rfl (by kernel_rfl) (do_ok y31 _ b12 b22 L _ _ hF hR (fun k hk e => hd k hk e)) ?_
            rintro _ H33 ⟨rfl, fp35, fq36, R37, R38, d39, k34, u40, u41⟩
            have e42 := k34.size
            have d43 : ∀ k, fp35 k → ¬ (blk lv = some k) := fun k hk e => (u40 k hk).elim (fun h => (fun k hk e => dF k hk e) k h e) (fun h => by have := hL.lt e; omega)
            have d44 : ∀ k, fq36 k → ¬ (blk lv = some k) := fun k hk e => (u41 k hk).elim (fun h => (fun k hk e => dR k hk e) k h e) (fun h => by have := hL.lt e; omega)
            have b45 : ∀ k, fp35 k → k < H33.size := fun k hk => R37.lt hk
            have b46 : ∀ k, fq36 k → k < H33.size := fun k hk => R38.lt hk
            replace hL := hL.chg k34 (fun k hk e => e.elim (fun h => (fun k hk e => dF k hk e) k h hk) (fun h => (fun k hk e => dR k hk e) k h hk))
            replace hT := hT.trans' k34 (fun k e hl => e.elim (fun h => oF k h hl) (fun h => oR k h hl))
            have o47 : ∀ k, fp35 k → k < H.size → (fun _ => False) k := fun k hk hl => (u40 k hk).elim (fun h => oF k h hl) (fun h => by exfalso; omega)
            have o48 : ∀ k, fq36 k → k < H.size → (fun _ => False) k := fun k hk hl => (u41 k hk).elim (fun h => oR k h hl) (fun h => by exfalso; omega)
            refine l_pure (.bool false) rfl (fun _ => rfl) ?_
            refine l_pure (.bool false) rfl (fun _ => rfl) ?_
            refine l_pure (.pointer (some ⟨b12, 0, none⟩)) rfl (fun _ => rfl) ?_
            refine l_call rfl [.pointer (some ⟨b12, 0, none⟩)] rfl rfl (by kernel_rfl) (depth_ok _ b12 (stepL L y31) _ R37) ?_
            rintro _ H49 ⟨rfl, k50⟩
            have e51 := k50.size
            replace hL := hL.chg k50 (fun _ _ h => h)
            replace R37 := R37.chg k50 (fun _ _ h => h)
            replace R38 := R38.chg k50 (fun _ _ h => h)
            replace hT := hT.trans' k50 (fun _ h _ => h.elim)
            refine l_pure (.pointer (some ⟨b22, 0, none⟩)) rfl (fun _ => rfl) ?_
            refine l_call rfl [.pointer (some ⟨b22, 0, none⟩)] rfl rfl (by kernel_rfl) (rdepth_ok _ b22 (stepL L y31) _ R38) ?_
            rintro _ H52 ⟨rfl, k53⟩
            have e54 := k53.size
            replace hL := hL.chg k53 (fun _ _ h => h)
            replace R37 := R37.chg k53 (fun _ _ h => h)
            replace R38 := R38.chg k53 (fun _ _ h => h)
            replace hT := hT.trans' k53 (fun _ h _ => h.elim)
            refine l_cmp rfl .i64 ((stepL L y31).length : Int) ((stepL L y31).length : Int) false rfl rfl rfl (by simp [cmpI]) ?_
            refine l_pure (.bool false) rfl (fun _ => rfl) ?_
            refine l_nil ?_
            refine x_then ?_
            refine c_false rfl rfl ?_
            refine c_skip ?_
            refine x_block ?_
            refine x_then ?_
            refine c_reg ?_
            refine l_pure (.int .i64 (i : Int)) rfl (fun _ => rfl) ?_
            refine l_add rfl (i : Int) 1 rfl rfl rfl (by omega) ?_
            refine l_pure (.int .i64 ((i : Int) + 1)) rfl (fun _ => rfl) ?_
            refine l_nil ?_
            exact x_round (i + 1) (by show l.length - (i + 1) < l.length - i; omega) (sub_of rfl ⟨⟨rfl, rfl⟩, ⟨⟨rfl, rfl⟩, ⟨⟨rfl, rfl⟩, ⟨⟨rfl, rfl⟩, ⟨⟨rfl, rfl⟩, trivial⟩⟩⟩⟩⟩) ⟨_, _, _, by omega, stepL_len y31 h2, R37, R38, (fun k hk e => d39 k hk e), (fun k hk => Nat.le_of_not_lt (fun hl => o47 k hk hl)), (fun k hk => Nat.le_of_not_lt (fun hl => o48 k hk hl)), hT⟩)
       · have p55 := of_decide_eq_false c29
         first
         | (exfalso; omega)
         | (refine c_exit ?_
            refine x_exit ?_
            refine x_exit ?_
            refine x_here ?_
            refine x_then ?_
            refine c_seq ?_
            refine c_reg ?_
            refine l_pure (.pointer (some ⟨b12, 0, none⟩)) rfl (fun _ => rfl) ?_
            refine l_call rfl [.pointer (some ⟨b12, 0, none⟩)] rfl rfl (by kernel_rfl) (trace_ok _ b12 L _ hF (by first | omega | decide)) ?_
            rintro v60 H56 ⟨S58, k57, l59⟩
            have e61 := k57.size
            have s62 : ∀ k, blk v60 = some k → H28.size ≤ k ∧ k < H56.size := fun k hk => by have := l59 k hk; have := S58.lt hk; omega
            have d63 : ∀ k, fp k → ¬ (blk v60 = some k) := fun k hk e => by have := bF k hk; have := l59 k e; omega
            have d64 : ∀ k, fq k → ¬ (blk v60 = some k) := fun k hk e => by have := bR k hk; have := l59 k e; omega
            replace hF := hF.chg k57 (fun _ _ h => h)
            replace hR := hR.chg k57 (fun _ _ h => h)
            replace hL := hL.chg k57 (fun _ _ h => h)
            replace hT := hT.trans' k57 (fun _ h _ => h.elim)
            refine l_pure (.pointer (some ⟨b22, 0, none⟩)) rfl (fun _ => rfl) ?_
            refine l_call rfl [.pointer (some ⟨b22, 0, none⟩)] rfl rfl (by kernel_rfl) (rtrace_ok _ b22 L _ hR (by first | omega | decide)) ?_
            rintro v69 H65 ⟨S67, k66, l68⟩
            have e70 := k66.size
            have s71 : ∀ k, blk v69 = some k → H56.size ≤ k ∧ k < H65.size := fun k hk => by have := l68 k hk; have := S67.lt hk; omega
            have d72 : ∀ k, fp k → ¬ (blk v69 = some k) := fun k hk e => by have := bF k hk; have := l68 k e; omega
            have d73 : ∀ k, fq k → ¬ (blk v69 = some k) := fun k hk e => by have := bR k hk; have := l68 k e; omega
            replace hF := hF.chg k66 (fun _ _ h => h)
            replace hR := hR.chg k66 (fun _ _ h => h)
            replace hL := hL.chg k66 (fun _ _ h => h)
            replace S58 := S58.chg k66 (fun _ _ h => h)
            replace hT := hT.trans' k66 (fun _ h _ => h.elim)
            refine l_call rfl [v60, v69] rfl rfl (by kernel_rfl) (places_ok _ v60 v69 (trL L) (trL L) S58.sl S67.sl) ?_
            rintro v76 H74 ⟨hv77, k75⟩
            obtain rfl : v76 = .bool true := hv77.trans (congrArg Value.bool (decide_eq_true rfl))
            have e78 := k75.size
            replace hF := hF.chg k75 (fun _ _ h => h)
            replace hR := hR.chg k75 (fun _ _ h => h)
            replace hL := hL.chg k75 (fun _ _ h => h)
            replace S58 := S58.chg k75 (fun _ _ h => h)
            replace S67 := S67.chg k75 (fun _ _ h => h)
            replace hT := hT.trans' k75 (fun _ h _ => h.elim)
            refine l_pure (.bool true) rfl (fun _ => rfl) ?_
            refine l_call rfl [] rfl rfl (by kernel_rfl) (awake_ok _) ?_
            rintro _ H79 ⟨rfl, k80⟩
            have e81 := k80.size
            replace hF := hF.chg k80 (fun _ _ h => h)
            replace hR := hR.chg k80 (fun _ _ h => h)
            replace hL := hL.chg k80 (fun _ _ h => h)
            replace S58 := S58.chg k80 (fun _ _ h => h)
            replace S67 := S67.chg k80 (fun _ _ h => h)
            replace hT := hT.trans' k80 (fun _ h _ => h.elim)
            refine l_pure (.bool true) rfl (fun _ => rfl) ?_
            refine l_pure (.bool true) rfl (fun _ => rfl) ?_
            refine l_nil ?_
            refine x_then ?_
            refine c_ret ?_
            refine x_fin (.bool true) (res_of (vs := [.bool true]) rfl (.cons (.tmp _ (.bool true) rfl rfl) .nil)) ?_
            exact ⟨rfl, hT⟩))
end Go.Proofs.Ytikbimlfbcffhaa
